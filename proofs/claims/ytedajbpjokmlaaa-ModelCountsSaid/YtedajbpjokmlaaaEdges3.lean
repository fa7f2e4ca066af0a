/- The document's edges that lead to nodes. -/
import Derived.Test.YtedajbpjokmlaaaEdges2
namespace Go.Proofs.Ytedajbpjokmlaaa
open Go.RowKit
set_option linter.unusedVariables false

theorem push_below {α : Type} {T : TypeId} {k B base : Nat} {enc : α → List Value} {w0 w w' : World} {v : Value} {l : List α} (h : Below B w0 w) (hB : B ≤ w.heap.size) (hown : OwnSl T k enc w base v l) (hbase : B ≤ base) (hg : w.grownBy w' v.ownBlock) : Below B w0 w' :=
  h.grown hg hB fun b hb => Nat.le_trans hbase (hown.block hb)
theorem filter_take {α : Type} {p : α → Bool} {l : List α} {j : Nat} {x : α} (h : l[j]? = some x) : (l.take (j + 1)).filter p = (l.take j).filter p ++ if p x = true then [x] else [] := by
  rw [take_at h, List.filter_append]
  by_cases hp : p x = true <;> simp [hp]

set_option maxHeartbeats 2000000 in
set_option maxRecDepth 100000 in
theorem nedges_any (g : List GN) (c0 c1 c2 c3 c4 v5 : Value) (w : World) (hg : GraphAt w w.heap.size v5 g) (hlen : (edgesOf g).length ≤ 10000) :
    Calls Try.prog 47 #[.agg ⟨[c0, c1, c2, c3, c4, v5]⟩] w (EdgePost w ((edgesOf g).filter (okE g.length))) := by
  obtain ⟨i0, hi, hz0, hz1, hz2⟩ := info_parts' info_edge
  have HI0 := Lib.hid hi
  have HZ0 := Lib.hid hz0
  have HZ1 := Lib.hid hz1
  have HZ2 := Lib.hid hz2
  have HG := Lib.hid hg
  obtain ⟨hgl, A, c, rfl, hA⟩ := hg
  have HLEN := Lib.hid hlen
  clear hi hz0 hz1 hz2 hA hlen
  go_enter Try.func47, Try.ntmps47
  go_upto_region 1 with (fail)
  have HB := Lib.hid (box_below w (.cells ⟨[c0, c1, c2, c3, c4, .slice A g.length c]⟩ 27))
  have HSZ := Lib.hid (box_size w (.cells ⟨[c0, c1, c2, c3, c4, .slice A g.length c]⟩ 27))
  have HC5 := Lib.hid (cells_box w [c0, c1, c2, c3, c4, .slice A g.length c] 27 5 _ rfl)
  have HR := Lib.hid (range_box w [c0, c1, c2, c3, c4, .slice A g.length c] 27)
  generalize w.alloc (.cells ⟨[c0, c1, c2, c3, c4, .slice A g.length c]⟩ 27) = W at *
  have HE := Lib.hid (redges_any g c0 c1 c2 c3 c4 (.slice A g.length c) W (HG.out.next HB.out) HLEN.out)
  go_wp2_with (first | ((with_reducible refine wl_sload 27 _ rfl ?hw w.heap.size 0 [c0, c1, c2, c3, c4, .slice A g.length c] _ rfl HR.out Try.underlying27 rfl ?hi ?_); (case hw => first | exact wanted_none rfl | exact wanted_if rfl rfl rfl rfl); (case hi => kernel_rfl)) | (go_at_call 65; fail))
  refine HE.out.mono ?_
  rintro e w2 ⟨v, rfl, hown, hb⟩
  have HB2 := Lib.hid (HB.out.trans (hb.mono HB.out.size))
  have d5 := (hb.cell (p := ⟨w.heap.size, 5, none⟩) HSZ.out).trans HC5.out
  obtain ⟨hel, EA, ec, rfl, hea⟩ := hown.at encE_len (by have := HLEN.out; omega)
  have HEA := Lib.hid hea
  have HD5 : Hid (∀ z : World, Below w2.heap.size w2 z → z.cell? ⟨w.heap.size, 5, none⟩ = some (.slice A g.length c)) := Lib.hid fun z hz => (hz.cell (p := ⟨w.heap.size, 5, none⟩) (Nat.lt_of_lt_of_le HSZ.out hb.size)).trans d5
  clear d5 hb hown hea HE HR
  generalize hE : edgesOf g = E at *
  go_wp2
  go_loopg [3, 5] E.length (fun q v i wr => ∃ j : Nat, j + q = E.length ∧ i = .int .i64 j ∧ OwnSl 41 3 encE wr w2.heap.size v ((E.take j).filter (okE g.length)) ∧ Below w2.heap.size w2 wr)
  case atStart => exact ⟨0, by omega, rfl, OwnSl.nil _ _, Below.refl _ _⟩
  case round =>
    obtain ⟨j, hj, rfl, hown, hb⟩ := hrel
    have HOWN := Lib.hid hown
    have HB3 := Lib.hid hb
    have d5 := HD5.out wr hb
    clear hb hown
    cases gk with
    | zero =>
      have hge : ¬ ((j : Int) < (E.length : Int)) := by omega
      have HTK := Lib.hid (List.take_of_length_le (l := E) (i := j) (by omega))
      rw [HTK.out] at HOWN
      go_wp2
      go_ret
      exact ⟨_, rfl, HOWN.out.mono HB2.out.size, HB2.out.trans (HB3.out.mono HB2.out.size)⟩
    | succ q =>
      have hlt : (j : Int) < (E.length : Int) := by omega
      have hle : (E.length : Int) ≤ 10000 := by have := HLEN.out; omega
      obtain ⟨e, he⟩ : ∃ e, E[j]? = some e := ⟨_, List.getElem?_eq_getElem (by omega)⟩
      obtain ⟨b, o, rfl, hbb, hc⟩ := HEA.out (by omega)
      obtain ⟨ks, hcl, hr, hR⟩ := hc j e he
      have hR' : ks = encE e := hR
      subst hR'
      have HRE := Lib.hid (fun (z : World) (hz : Below w2.heap.size w2 z) => rangeAt_below hr hz hbb)
      have d2 := range_cell (HRE.out wr HB3.out) 2 (v := .int .i64 e.2.2) rfl
      have HFT := Lib.hid (filter_take (p := okE g.length) he)
      have HLF := Lib.hid (List.length_filter_le (okE g.length) (E.take j))
      clear hc hcl hr he
      go_upto_region 6 with (fail)
      by_cases hok : okE g.length e = true
      · have HOK := Lib.hid hok
        rw [okE_iff] at hok
        obtain ⟨t1, t2⟩ := hok
        have t3 : decide ((0 : Int) ≤ e.2.2) = true := by simpa using t1
        have t4 : decide (e.2.2 < (g.length : Int)) = true := by simpa using t2
        clear t1 t2
        go_quiet (fail)
        have HB4 := Lib.hid (below_drewN HB3.out nq)
        have HO4 := Lib.hid (HOWN.out.below (below_drewN (Below.refl _ wr) nq))
        clear d5 d2 t3 t4
        generalize wr.drewN nq = wq at *
        have HRQ : Hid (wq.rangeAt b (o + j * 3) [.int .i64 e.1, .int .i64 e.2.1, .int .i64 e.2.2]) := Lib.hid (HRE.out wq HB4.out)
        have HWZ := Lib.hid (HO4.out.below (box_below wq (.cells ⟨encE e⟩ 41)))
        have HCE := Lib.hid (cells_box wq (encE e) 41)
        have hroom : ((E.take j).filter (okE g.length)).length + 1 ≤ 10000 := by have := HLF.out; rw [List.length_take] at this; omega
        have HM1 := Lib.hid (room_max hroom)
        have HM2 := Lib.hid (room_bytes hroom)
        have HBB := Lib.hid (HB4.out.alloc HB4.out.size (.cells ⟨encE e⟩ 41))
        clear hroom
        go_wp2_with (first | ((with_reducible refine wl_sload 41 _ rfl ?hw b (o + j * 3) [.int .i64 e.1, .int .i64 e.2.1, .int .i64 e.2.2] _ rfl HRQ.out Try.underlying41 rfl ?hi ?_); (case hw => first | exact wanted_none rfl | exact wanted_if rfl rfl rfl rfl); (case hi => kernel_rfl)) | (at_builtin; refine wl_push rfl _ _ 38 rfl w2.heap.size 41 i0 (.agg #[.int .i64 0, .int .i64 0, .int .i64 0]) 3 24 encE Try.underlying38 HI0.out HZ0.out HZ1.out HZ2.out rfl (by decide) encE_len encE_one _ _ rfl HWZ.out wq.heap.size 1 e rfl HCE.out HM1.out HM2.out HBB.out.size ?_))
        intro v' w' hown hg
        have HO5 := Lib.hid hown
        have HB5 := Lib.hid (push_below HBB.out HBB.out.size HWZ.out (Nat.le_refl _) hg)
        clear hown hg
        go_wp2
        go_roundg q
        case measure => omega
        case rel => exact ⟨j + 1, by omega, by go_num, by rw [HFT.out, if_pos HOK.out]; exact HO5.out, HB5.out⟩
      · have HNO : Hid (okE g.length e = true → False) := Lib.hid hok
        have hno : e.2.2 < 0 ∨ (g.length : Int) ≤ e.2.2 := by rw [okE_iff] at hok; omega
        clear hok
        by_cases hneg : e.2.2 < 0
        · have t3 : decide ((0 : Int) ≤ e.2.2) = false := by simp; omega
          clear hno hneg
          go_quiet (fail)
          go_wp2
          go_roundg q
          case measure => omega
          case rel => exact ⟨j + 1, by omega, by go_num, by rw [HFT.out, if_neg HNO.out, List.append_nil]; exact HOWN.out.below (below_drewN (Below.refl _ wr) nq), below_drewN HB3.out nq⟩
        · have t3 : decide ((0 : Int) ≤ e.2.2) = true := by simp; omega
          have t4 : decide (e.2.2 < (g.length : Int)) = false := by simp; omega
          clear hno hneg
          go_quiet (fail)
          go_wp2
          go_roundg q
          case measure => omega
          case rel => exact ⟨j + 1, by omega, by go_num, by rw [HFT.out, if_neg HNO.out, List.append_nil]; exact HOWN.out.below (below_drewN (Below.refl _ wr) nq), below_drewN HB3.out nq⟩
end Go.Proofs.Ytedajbpjokmlaaa
