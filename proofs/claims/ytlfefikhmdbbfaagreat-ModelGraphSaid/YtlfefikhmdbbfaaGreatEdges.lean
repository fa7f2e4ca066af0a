/- A model's edges: the program's and the document's. -/
import Derived.Test.YtlfefikhmdbbfaaGreatWalk
import Derived.Test.YtlfefikhmdbbfaaGreatModel
namespace Go.Proofs.YtlfefikhmdbbfaaGreat
open Go.RowKit
set_option linter.unusedVariables false

theorem info_edge : (Tryz.prog.info? 51).map (fun i => (i.zero, i.size, i.bytes)) = some (some (.agg #[.int .i64 0, .int .i64 0, .int .i64 0]), 3, 24) := by kernel_rfl
theorem info_parts' {P : Program} {e : TypeId} {z : Option Value} {s b : Nat} (h : (P.info? e).map (fun i => (i.zero, i.size, i.bytes)) = some (z, s, b)) : ∃ i, P.info? e = some i ∧ i.zero = z ∧ i.size = s ∧ i.bytes = b := by
  cases hq : P.info? e with
  | none => rw [hq] at h; cases h
  | some i =>
    rw [hq] at h
    simp at h
    exact ⟨i, rfl, h.1, h.2.1, h.2.2⟩
theorem room_max {n : Nat} (h : n ≤ 10000) : n ≤ maxLen := by unfold maxLen; omega
theorem room_bytes {n : Nat} (h : n ≤ 10000) : n * 24 ≤ 140737488355328 := by omega
/-- a list of edges in new memory -/
def EdgePost (w : World) (l : List EdgeT) (e : Ending) (w' : World) : Prop := ∃ v, e = .returned v ∧ OwnSl 51 3 encE w' w.heap.size v l ∧ Below w.heap.size w w'

set_option maxHeartbeats 2000000 in
set_option maxRecDepth 100000 in
theorem edges_any (g : List GN) (c0 c1 c2 c3 c4 v5 : Value) (w : World) (hg : GraphAt w w.heap.size v5 g) (hlen : (edgesOf g).length ≤ 10000) :
    Calls Tryz.prog 10 #[.agg ⟨[c0, c1, c2, c3, c4, v5]⟩] w (EdgePost w (edgesOf g)) := by
  obtain ⟨i0, hi, hz0, hz1, hz2⟩ := info_parts' info_edge
  have HI0 := Lib.hid hi
  have HZ0 := Lib.hid hz0
  have HZ1 := Lib.hid hz1
  have HZ2 := Lib.hid hz2
  obtain ⟨hgl, A, c, rfl, hA⟩ := hg
  have HA := Lib.hid hA
  have HLEN := Lib.hid hlen
  clear hi hz0 hz1 hz2 hA hlen
  go_enter Tryz.func10, Tryz.ntmps10
  go_upto_region 1 with (fail)
  have HB := Lib.hid (box_below w (.cells ⟨[c0, c1, c2, c3, c4, .slice A g.length c]⟩ 27))
  have HSZ := Lib.hid (box_size w (.cells ⟨[c0, c1, c2, c3, c4, .slice A g.length c]⟩ 27))
  have HC5 := Lib.hid (cell_box w ⟨[c0, c1, c2, c3, c4, .slice A g.length c]⟩ 27 5)
  generalize w.alloc (.cells ⟨[c0, c1, c2, c3, c4, .slice A g.length c]⟩ 27) = W at *
  have d5 := HC5.out
  simp only [List.getElem?_toArray, List.getElem?_cons_succ, List.getElem?_cons_zero] at d5
  go_wp2
  clear d5
  go_loopg [2, 10] g.length (fun q v i wr => ∃ j : Nat, j + q = g.length ∧ i = .int .i64 j ∧ OwnSl 51 3 encE wr W.heap.size v (edgesOf (g.take j)) ∧ Below W.heap.size W wr)
  case atStart => exact ⟨0, by omega, rfl, OwnSl.nil _ _, Below.refl _ _⟩
  case round =>
    obtain ⟨j, hj, rfl, hown, hb⟩ := hrel
    have HOWN := Lib.hid hown
    have HB1 := Lib.hid hb
    have HB1' := Lib.hid (HB.out.trans (hb.mono HB.out.size))
    have d5 := (hb.cell (p := ⟨w.heap.size, 5, none⟩) HSZ.out).trans HC5.out
    simp only [List.getElem?_toArray, List.getElem?_cons_succ, List.getElem?_cons_zero] at d5
    clear hb hown
    cases gk with
    | zero =>
      have hge : ¬ ((j : Int) < (g.length : Int)) := by omega
      have HTK := Lib.hid (List.take_of_length_le (l := g) (i := j) (by omega))
      go_wp2
      go_ret
      exact ⟨_, rfl, by rw [HTK.out] at HOWN; exact HOWN.out.mono HB.out.size, HB1'.out⟩
    | succ q =>
      have hlt : (j : Int) < (g.length : Int) := by omega
      obtain ⟨y, hy⟩ : ∃ y, g[j]? = some y := ⟨_, List.getElem?_eq_getElem (by omega)⟩
      obtain ⟨b, o, rfl, hbb, hc⟩ := HA.out (by omega)
      obtain ⟨ks, hcl, hr, hR⟩ := hc j y hy
      have hrk := fun (z : World) (hz : Below w.heap.size w z) => rangeAt_below hr hz hbb
      obtain ⟨vn, hvn, hns⟩ := hR.next
      obtain ⟨hnl, NA, nc, rfl, hna⟩ := hns
      have HN := Lib.hid (fun (z : World) (hz : Below w.heap.size w z) => (range_cell (hrk z hz) 2 hvn))
      have HK := Lib.hid (fun (z : World) (hz : Below w.heap.size w z) => (range_cell (hrk z hz) 26 hR.catch_))
      have HNA := Lib.hid hna
      have HET := Lib.hid (edges_take hy)
      have HRM := Lib.hid (fun (k : Nat) (hk : k ≤ y.next.length) => edges_room hy hk)
      clear hc hcl hr hR hrk hvn hna hy
      have dn := HN.out wr HB1'.out
      go_wp2
      clear d5 dn
      go_loopg [2, 22] y.next.length (fun q2 v i u => ∃ k : Nat, k + q2 = y.next.length ∧ i = .int .i64 k ∧ OwnSl 51 3 encE u W.heap.size v (edgesOf (g.take j) ++ nextE j 0 (y.next.take k)) ∧ Below W.heap.size W u)
      case atStart => exact ⟨0, by omega, rfl, by simpa [nextE] using HOWN.out, HB1.out⟩
      case round =>
        obtain ⟨k, hk, rfl, hown, hb⟩ := hrel
        have HOWN2 := Lib.hid hown
        have HB2 := Lib.hid hb
        have HB2' := Lib.hid (HB.out.trans (hb.mono HB.out.size))
        clear hb hown
        cases gk with
        | succ q2 =>
          have hlt2 : (k : Int) < (y.next.length : Int) := by omega
          obtain ⟨t, ht⟩ : ∃ t, y.next[k]? = some t := ⟨_, List.getElem?_eq_getElem (by omega)⟩
          obtain ⟨bn, on, rfl, hbn, hcn⟩ := HNA.out (by omega)
          obtain ⟨cs, hcs1, hcs2, hcs3⟩ := hcn k t ht
          have dt : wr.cell? ⟨bn, on + k, none⟩ = some (.int .i64 t) := by
            have := range_cell (rangeAt_below hcs2 HB2'.out hbn) 0 (v := .int .i64 t) (by rw [hcs3.1]; rfl)
            simpa using this
          have HNT := Lib.hid (next_take (i := j) ht)
          have HR1 := Lib.hid ((HRM.out k (by omega)).2.2 (by omega))
          have HWZ := Lib.hid (HOWN2.out.below (box_below wr (.cells ⟨encE (j, k, t)⟩ 51)))
          have HCE := Lib.hid (cells_box wr (encE (j, k, t)) 51)
          have HM1 := Lib.hid (room_max (Nat.le_trans HR1.out HLEN.out))
          have HM2 := Lib.hid (room_bytes (Nat.le_trans HR1.out HLEN.out))
          have HBZ := Lib.hid (HB2.out.alloc HB2.out.size (.cells ⟨encE (j, k, t)⟩ 51))
          clear hcn hcs1 hcs2 hcs3 ht
          go_wp2_with (at_builtin; refine wl_push rfl _ _ 48 rfl W.heap.size 51 i0 (.agg #[.int .i64 0, .int .i64 0, .int .i64 0]) 3 24 encE Tryz.underlying48 HI0.out HZ0.out HZ1.out HZ2.out rfl (by decide) encE_len encE_one _ _ rfl HWZ.out wr.heap.size 1 (j, k, t) rfl HCE.out HM1.out HM2.out HBZ.out.size ?_)
          intro v' w' hown hg
          have HOWN3 := Lib.hid hown
          have HB3 := Lib.hid (HBZ.out.grown hg HBZ.out.size (fun b hb => HWZ.out.block hb))
          clear hown hg
          go_wp2
          go_roundg q2
          case measure => omega
          case rel => exact ⟨k + 1, by omega, by go_num, by rw [HNT.out]; first | exact HOWN3.out | (rw [← List.append_assoc]; exact HOWN3.out), HB3.out⟩
        | zero =>
          have hge2 : ¬ ((k : Int) < (y.next.length : Int)) := by omega
          have HTK := Lib.hid (List.take_of_length_le (l := y.next) (i := k) (by omega))
          rw [HTK.out] at HOWN2
          have dk := HK.out wr HB2'.out
          have dn := HN.out wr HB2'.out
          by_cases hcat : 0 ≤ y.catch_
          · go_upto_region 11 with (fail)
            have HR1 := Lib.hid ((HRM.out y.next.length (Nat.le_refl _)).2.1 hcat)
            have HE : Hid (nodeE j y = nextE j 0 y.next ++ [(j, y.next.length, y.catch_)]) := Lib.hid (by unfold nodeE; rw [if_pos hcat])
            refine wp_region_ord_tail 13 [(0, true), (1, true), (2, true), (3, true), (4, true), (5, true), (6, true), (7, true), (8, true), (9, true), (10, true), (11, true), (12, false)]
              (fun z => z.cell? ⟨b, o + j * 29 + 2, none⟩ = some (.slice NA y.next.length nc) ∧ z.cell? ⟨b, o + j * 29 + 26, none⟩ = some (.int .i64 y.catch_)) (by kernel_rfl) (by kernel_rfl) rfl (by intro c a d v w h; cases d <;> exact h) ?_
            have HB3 := Lib.hid HB2.out.drew
            have HOWN3 := Lib.hid (HOWN2.out.below (Below.refl _ wr).drew)
            have hs : wr.drew.cell? ⟨b, o + j * 29 + 2, none⟩ = some (.slice NA y.next.length nc) ∧ wr.drew.cell? ⟨b, o + j * 29 + 26, none⟩ = some (.int .i64 y.catch_) := ⟨dn, dk⟩
            clear dk dn HOWN2 HB2
            generalize wr.drew = wd at *
            refine ord_move (some 40) _ _ _ rfl rfl rfl (by first | exact wanted_none rfl | exact wanted_if rfl rfl rfl rfl) hs rfl ?_
            go_frame
            refine ord_move (some 41) (.int .i64 j) _ _ rfl rfl rfl (by first | exact wanted_none rfl | exact wanted_if rfl rfl rfl rfl) hs rfl ?_
            go_frame
            refine ord_move (some 42) (.pointer (some ⟨b, o + j * 29, none⟩)) _ _ rfl rfl rfl (by first | exact wanted_none rfl | exact wanted_if rfl rfl rfl rfl) hs rfl ?_
            go_frame
            refine ord_load (some 43) (.pointer (some ⟨b, o + j * 29, none⟩)) _ rfl rfl (by first | exact wanted_none rfl | exact wanted_if rfl rfl rfl rfl) hs (fun z hz => by go_simp) ?_
            go_frame
            refine ord_load (some 44) (.pointer (some ⟨b, o + j * 29 + 2, none⟩)) _ rfl rfl (by first | exact wanted_none rfl | exact wanted_if rfl rfl rfl rfl) hs (fun z hz => by go_simp) ?_
            go_frame
            refine ord_load (some 45) (.slice NA y.next.length nc) _ rfl rfl (by first | exact wanted_none rfl | exact wanted_if rfl rfl rfl rfl) hs (fun z hz => by have dn := hz.1; go_simp) ?_
            go_frame
            refine ord_load (some 46) (.int .i64 y.next.length) _ rfl rfl (by first | exact wanted_none rfl | exact wanted_if rfl rfl rfl rfl) hs (fun z hz => by go_simp) ?_
            go_frame
            refine ord_move (some 47) (.pointer (some ⟨b, o + j * 29, none⟩)) _ _ rfl rfl rfl (by first | exact wanted_none rfl | exact wanted_if rfl rfl rfl rfl) hs rfl ?_
            go_frame
            refine ord_load (some 48) (.pointer (some ⟨b, o + j * 29, none⟩)) _ rfl rfl (by first | exact wanted_none rfl | exact wanted_if rfl rfl rfl rfl) hs (fun z hz => by go_simp) ?_
            go_frame
            refine ord_load (some 49) (.pointer (some ⟨b, o + j * 29 + 26, none⟩)) _ rfl rfl (by first | exact wanted_none rfl | exact wanted_if rfl rfl rfl rfl) hs (fun z hz => by go_simp) ?_
            go_frame
            refine ord_load (some 50) (.int .i64 y.catch_) _ rfl rfl (by first | exact wanted_none rfl | exact wanted_if rfl rfl rfl rfl) hs (fun z hz => by have dk := hz.2; go_simp) ?_
            go_frame
            refine ord_load (some 51) (.agg ⟨encE (j, y.next.length, y.catch_)⟩) _ rfl rfl (by first | exact wanted_none rfl | exact wanted_if rfl rfl rfl rfl) hs (fun z hz => by go_simp; rfl) ?_
            go_frame
            have hs2 : (wd.alloc (.cells ⟨encE (j, y.next.length, y.catch_)⟩ 51)).cell? ⟨b, o + j * 29 + 2, none⟩ = some (.slice NA y.next.length nc) ∧ (wd.alloc (.cells ⟨encE (j, y.next.length, y.catch_)⟩ 51)).cell? ⟨b, o + j * 29 + 26, none⟩ = some (.int .i64 y.catch_) :=
              ⟨((box_below wd _).cell (p := ⟨b, o + j * 29 + 2, none⟩) (World.block_lt_of_cell? wd _ hs.1)).trans hs.1, ((box_below wd _).cell (p := ⟨b, o + j * 29 + 26, none⟩) (World.block_lt_of_cell? wd _ hs.2)).trans hs.2⟩
            refine ord_run (some 52) (.slice (some ⟨wd.heap.size, 0, none⟩) 1 1) (wd.alloc (.cells ⟨encE (j, y.next.length, y.catch_)⟩ 51)) _ rfl rfl (by first | exact wanted_none rfl | exact wanted_if rfl rfl rfl rfl) (by go_simp; rfl) hs2 ?_
            go_frame
            refine ord_tail ?_
            simp only [List.drop_succ_cons, List.drop_zero]
            clear hs hs2 hcat
            have HWZ := Lib.hid (HOWN3.out.below (box_below wd (.cells ⟨encE (j, y.next.length, y.catch_)⟩ 51)))
            have HCE := Lib.hid (cells_box wd (encE (j, y.next.length, y.catch_)) 51)
            have HM1 := Lib.hid (room_max (Nat.le_trans HR1.out HLEN.out))
            have HM2 := Lib.hid (room_bytes (Nat.le_trans HR1.out HLEN.out))
            have HBZ := Lib.hid (HB3.out.alloc HB3.out.size (.cells ⟨encE (j, y.next.length, y.catch_)⟩ 51))
            go_wp2_with (at_builtin; refine wl_push rfl _ _ 48 rfl W.heap.size 51 i0 (.agg #[.int .i64 0, .int .i64 0, .int .i64 0]) 3 24 encE Tryz.underlying48 HI0.out HZ0.out HZ1.out HZ2.out rfl (by decide) encE_len encE_one _ _ rfl HWZ.out wd.heap.size 1 (j, y.next.length, y.catch_) rfl HCE.out HM1.out HM2.out HBZ.out.size ?_)
            intro v' w' hown hg
            have HOWN4 := Lib.hid hown
            have HB4 := Lib.hid (HBZ.out.grown hg HBZ.out.size (fun b hb => HWZ.out.block hb))
            clear hown hg
            go_wp2
            go_roundg q
            case measure => omega
            case rel => exact ⟨j + 1, by omega, by go_num, by rw [HET.out, HE.out]; first | exact HOWN4.out | (rw [← List.append_assoc]; exact HOWN4.out), HB4.out⟩
          · have HE : Hid (nodeE j y = nextE j 0 y.next) := Lib.hid (by unfold nodeE; rw [if_neg hcat, List.append_nil])
            go_wp2
            go_roundg q
            case measure => omega
            case rel => exact ⟨j + 1, by omega, by go_num, by rw [HET.out, HE.out]; exact HOWN2.out, HB2.out⟩
end Go.Proofs.YtlfefikhmdbbfaaGreat
