/- The document's edges. -/
import Derived.Test.YtlfefikhmdbbfaaGreatEdges
namespace Go.Proofs.YtlfefikhmdbbfaaGreat
open Go.RowKit
set_option linter.unusedVariables false

set_option maxHeartbeats 2000000 in
set_option maxRecDepth 100000 in
theorem redges_any (g : List GN) (c0 c1 c2 c3 c4 v5 : Value) (w : World) (hg : GraphAt w w.heap.size v5 g) (hlen : (edgesOf g).length ≤ 10000) :
    Calls Tryz.prog 11 #[.agg ⟨[c0, c1, c2, c3, c4, v5]⟩] w (EdgePost w (edgesOf g)) := by
  obtain ⟨i0, hi, hz0, hz1, hz2⟩ := info_parts' info_edge
  have HI0 := Lib.hid hi
  have HZ0 := Lib.hid hz0
  have HZ1 := Lib.hid hz1
  have HZ2 := Lib.hid hz2
  obtain ⟨hgl, A, c, rfl, hA⟩ := hg
  have HA := Lib.hid hA
  have HLEN := Lib.hid hlen
  clear hi hz0 hz1 hz2 hA hlen
  go_enter Tryz.func11, Tryz.ntmps11
  go_upto_region 1 with (fail)
  have HB := Lib.hid (box_below w (.cells ⟨[c0, c1, c2, c3, c4, .slice A g.length c]⟩ 27))
  have HSZ := Lib.hid (box_size w (.cells ⟨[c0, c1, c2, c3, c4, .slice A g.length c]⟩ 27))
  have HC5 := Lib.hid (cells_box w [c0, c1, c2, c3, c4, .slice A g.length c] 27 5 _ rfl)
  generalize w.alloc (.cells ⟨[c0, c1, c2, c3, c4, .slice A g.length c]⟩ 27) = W at *
  go_wp2
  go_loopg [3, 4] g.length (fun q v i wr => ∃ j : Nat, j + q = g.length ∧ i = .int .i64 j ∧ OwnSl 51 3 encE wr W.heap.size v (edgesOf (g.take j)) ∧ Below W.heap.size W wr)
  case atStart => exact ⟨0, by omega, rfl, OwnSl.nil _ _, Below.refl _ _⟩
  case round =>
    obtain ⟨j, hj, rfl, hown, hb⟩ := hrel
    have HOWN := Lib.hid hown
    have HB1 := Lib.hid hb
    have HB1' := Lib.hid (HB.out.trans (hb.mono HB.out.size))
    have d5 := (hb.cell (p := ⟨w.heap.size, 5, none⟩) HSZ.out).trans HC5.out
    clear hb hown
    cases gk with
    | zero =>
      have hge : ¬ ((j : Int) < (g.length : Int)) := by omega
      have HTK := Lib.hid (List.take_of_length_le (l := g) (i := j) (by omega))
      go_wp2
      go_ret
      exact ⟨_, rfl, by rw [HTK.out] at HOWN; exact HOWN.out.mono HB.out.size, HB1'.out⟩
    | succ q =>
      have hlt : (j : Int) < (g.length : Int) := by omega
      obtain ⟨y, hy⟩ : ∃ y, g[j]? = some y := ⟨_, List.getElem?_eq_getElem (by omega)⟩
      obtain ⟨b, o, rfl, hbb, hc⟩ := HA.out (by omega)
      obtain ⟨ks, hcl, hr, hR⟩ := hc j y hy
      have HRK := Lib.hid (rangeAt_below hr HB1'.out hbb)
      have HKL := Lib.hid hcl
      have HVA := Lib.hid hR
      obtain ⟨vn, hvn, hns⟩ := hR.next
      obtain ⟨hnl, NA, nc, rfl, hna⟩ := hns
      have HVN := Lib.hid hvn
      have HNA := Lib.hid hna
      have HET := Lib.hid (edges_take hy)
      have HRM := Lib.hid (fun (k : Nat) (hk : k ≤ y.next.length) => edges_room hy hk)
      clear hc hcl hr hR hvn hna hy
      go_upto_region 6 with (first | ((with_reducible refine wl_sload 42 _ rfl ?hw b (o + j * 29) ks _ rfl HRK.out Tryz.underlying42 rfl ?hi ?_); (case hw => first | exact wanted_none rfl | exact wanted_if rfl rfl rfl rfl); (case hi => rw [HKL.out]; kernel_rfl)) | ((with_reducible refine wl_sbox 42 _ _ rfl ?hw wr ?z ks ?hwld ?hz ?hx ?hy ?hi ?h1 ?_); (case hwld => rfl); (case hx => rfl); (case hy => rfl); (case hw => first | exact wanted_none rfl | exact wanted_if rfl rfl rfl rfl); (case hz => rw [HKL.out]; rfl); (case hi => rw [HKL.out]; kernel_rfl); (case h1 => exact HVA.out.one); intro Z hbx; have HX := Lib.hid hbx; clear hbx))
      have HBZ := Lib.hid (HB1.out.trans (HX.out.below.mono HB1.out.size))
      have HOZ := Lib.hid (HOWN.out.below HX.out.below)
      obtain ⟨nb, hnb⟩ : ∃ nb, wr.heap.size = nb := ⟨_, rfl⟩
      have HN : Hid (∀ z : World, z.heap[nb]? = Z.heap[nb]? → z.cell? ⟨nb, 2, none⟩ = some (.slice NA y.next.length nc)) := Lib.hid fun z hz => (World.cell?_of_block (a := ⟨nb, 2, none⟩) hz).trans (by rw [← hnb]; exact HX.out.cell 2 HVN.out)
      have HK : Hid (∀ z : World, z.heap[nb]? = Z.heap[nb]? → z.cell? ⟨nb, 26, none⟩ = some (.int .i64 y.catch_)) := Lib.hid fun z hz => (World.cell?_of_block (a := ⟨nb, 26, none⟩) hz).trans (by rw [← hnb]; exact HX.out.cell 26 HVA.out.catch_)
      have HTG : Hid (Tag Z nb 42) := Lib.hid (by rw [← hnb]; exact HX.out.tag)
      have HXS : Hid (nb < Z.heap.size) := Lib.hid (by rw [← hnb]; exact HX.out.size)
      rw [hnb]
      clear hnb
      clear d5
      go_wp2
      go_loopg [3, 6] y.next.length (fun q2 v i u => ∃ k : Nat, k + q2 = y.next.length ∧ i = .int .i64 k ∧ OwnSl 51 3 encE u W.heap.size v (edgesOf (g.take j) ++ nextE j 0 (y.next.take k)) ∧ u.heap[nb]? = Z.heap[nb]? ∧ nb < u.heap.size ∧ Below W.heap.size W u)
      case atStart => exact ⟨0, by omega, rfl, by simpa [nextE] using HOZ.out, rfl, HXS.out, HBZ.out⟩
      case round =>
        obtain ⟨k, hk, rfl, hown, hz, hz1, hb⟩ := hrel
        have HOWN2 := Lib.hid hown
        have HB2 := Lib.hid hb
        have HB2' := Lib.hid (HB.out.trans (hb.mono HB.out.size))
        have HZ := Lib.hid hz
        have dn := HN.out wr hz
        have dk := HK.out wr hz
        clear hb hown hz
        have HZL := Lib.hid hz1
        clear hz1
        cases gk with
        | succ q2 =>
          have hlt2 : (k : Int) < (y.next.length : Int) := by omega
          obtain ⟨t, ht⟩ : ∃ t, y.next[k]? = some t := ⟨_, List.getElem?_eq_getElem (by omega)⟩
          obtain ⟨bn, on, rfl, hbn, hcn⟩ := HNA.out (by omega)
          obtain ⟨cs, hcs1, hcs2, hcs3⟩ := hcn k t ht
          have dt : wr.cell? ⟨bn, on + k, none⟩ = some (.int .i64 t) := by
            have := range_cell (rangeAt_below hcs2 HB2'.out hbn) 0 (v := .int .i64 t) (by rw [hcs3.1]; rfl)
            simpa using this
          have HNT := Lib.hid (next_take (i := j) ht)
          have HR1 := Lib.hid ((HRM.out k (by omega)).2.2 (by omega))
          have HWZ := Lib.hid (HOWN2.out.below (box_below wr (.cells ⟨encE (j, k, t)⟩ 51)))
          have HCE := Lib.hid (cells_box wr (encE (j, k, t)) 51)
          have HM1 := Lib.hid (room_max (Nat.le_trans HR1.out HLEN.out))
          have HM2 := Lib.hid (room_bytes (Nat.le_trans HR1.out HLEN.out))
          have HBB := Lib.hid (HB2.out.alloc HB2.out.size (.cells ⟨encE (j, k, t)⟩ 51))
          have HZB : Hid ((wr.alloc (.cells ⟨encE (j, k, t)⟩ 51)).heap[nb]? = Z.heap[nb]?) := Lib.hid (((box_below wr _).block nb HZL.out).trans HZ.out)
          have HAP := Lib.hid (HWZ.out.apart (nb := nb) (T' := 42) (by obtain ⟨c, hc⟩ := HTG.out; exact ⟨c, HZB.out.trans hc⟩) (by decide))
          clear hcn hcs1 hcs2 hcs3 ht
          go_wp2_with (at_builtin; refine wl_push rfl _ _ 48 rfl W.heap.size 51 i0 (.agg #[.int .i64 0, .int .i64 0, .int .i64 0]) 3 24 encE Tryz.underlying48 HI0.out HZ0.out HZ1.out HZ2.out rfl (by decide) encE_len encE_one _ _ rfl HWZ.out wr.heap.size 1 (j, k, t) rfl HCE.out HM1.out HM2.out HBB.out.size ?_)
          intro v' w' hown hg
          have HOWN3 := Lib.hid hown
          have HB3 := Lib.hid (HBB.out.grown hg HBB.out.size (fun b hb => HWZ.out.block hb))
          have HZ3 : Hid (w'.heap[nb]? = Z.heap[nb]?) := Lib.hid ((hg.block nb (Nat.lt_of_lt_of_le HZL.out (box_below wr (.cells ⟨encE (j, k, t)⟩ 51)).size) HAP.out).trans HZB.out)
          have HZ4 : Hid (nb < w'.heap.size) := Lib.hid (Nat.lt_of_lt_of_le (Nat.lt_of_lt_of_le HZL.out (box_below wr (.cells ⟨encE (j, k, t)⟩ 51)).size) hg.size)
          clear hown hg
          go_wp2
          go_roundg q2
          case measure => omega
          case rel => exact ⟨k + 1, by omega, by go_num, by rw [HNT.out]; first | exact HOWN3.out | (rw [← List.append_assoc]; exact HOWN3.out), HZ3.out, HZ4.out, HB3.out⟩
        | zero =>
          have hge2 : ¬ ((k : Int) < (y.next.length : Int)) := by omega
          have HTK := Lib.hid (List.take_of_length_le (l := y.next) (i := k) (by omega))
          rw [HTK.out] at HOWN2
          by_cases hcat : 0 ≤ y.catch_
          · have HR1 := Lib.hid ((HRM.out y.next.length (Nat.le_refl _)).2.1 hcat)
            have HE : Hid (nodeE j y = nextE j 0 y.next ++ [(j, y.next.length, y.catch_)]) := Lib.hid (by unfold nodeE; rw [if_pos hcat])
            have HWZ := Lib.hid (HOWN2.out.below (box_below wr (.cells ⟨encE (j, y.next.length, y.catch_)⟩ 51)))
            have HCE := Lib.hid (cells_box wr (encE (j, y.next.length, y.catch_)) 51)
            have HM1 := Lib.hid (room_max (Nat.le_trans HR1.out HLEN.out))
            have HM2 := Lib.hid (room_bytes (Nat.le_trans HR1.out HLEN.out))
            have HBB := Lib.hid (HB2.out.alloc HB2.out.size (.cells ⟨encE (j, y.next.length, y.catch_)⟩ 51))
            go_wp2_with (at_builtin; refine wl_push rfl _ _ 48 rfl W.heap.size 51 i0 (.agg #[.int .i64 0, .int .i64 0, .int .i64 0]) 3 24 encE Tryz.underlying48 HI0.out HZ0.out HZ1.out HZ2.out rfl (by decide) encE_len encE_one _ _ rfl HWZ.out wr.heap.size 1 (j, y.next.length, y.catch_) rfl HCE.out HM1.out HM2.out HBB.out.size ?_)
            intro v' w' hown hg
            have HOWN4 := Lib.hid hown
            have HB4 := Lib.hid (HBB.out.grown hg HBB.out.size (fun b hb => HWZ.out.block hb))
            clear hown hg
            go_wp2
            go_roundg q
            case measure => omega
            case rel => exact ⟨j + 1, by omega, by go_num, by rw [HET.out, HE.out]; first | exact HOWN4.out | (rw [← List.append_assoc]; exact HOWN4.out), HB4.out⟩
          · have HE : Hid (nodeE j y = nextE j 0 y.next) := Lib.hid (by unfold nodeE; rw [if_neg hcat, List.append_nil])
            go_wp2
            go_roundg q
            case measure => omega
            case rel => exact ⟨j + 1, by omega, by go_num, by rw [HET.out, HE.out]; exact HOWN2.out, HB2.out⟩
end Go.Proofs.YtlfefikhmdbbfaaGreat
