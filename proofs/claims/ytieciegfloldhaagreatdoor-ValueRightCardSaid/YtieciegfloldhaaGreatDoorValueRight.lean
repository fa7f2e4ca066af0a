/- THE STATEMENT ValueRight is proved: for every value the Go function ValueRight returns true, and its argument reads afterwards as before; without conditions. -/
import Derived.Test.YtieciegfloldhaaGreatDoorRText2
import Derived.Test.YtieciegfloldhaaGreatDoorRRight
import Derived.Test.YtieciegfloldhaaGreatDoorVAwake
import Derived.Test.YtieciegfloldhaaGreatDoorOpenV
import Derived.Test.YtieciegfloldhaaGreatDoorCards
import Derived.Test.YtieciegfloldhaaGreatDoorTie
import Derived.WalkKit
import Derived.Deep.DeepHandedRow
import Derived.SevenTiedAt
import Derived.Lib.LaidTab
import Derived.Stop.LaidErr
namespace Go.Proofs.YtieciegfloldhaaGreatDoor
open Go.ChangeShapes Go.WideShapes Go.ChangeAt Go.RowKit Go
set_option linter.unusedVariables false

theorem rrightT (t : VT) (cs : List Value) (w : World) (hv : ValAt w w.heap.size cs t) : Calls Tryz.prog 9 #[.agg ⟨cs⟩] w fun e w' => e = .returned (.bool (rightT t)) ∧ Below w.heap.size w w' := rright_top t cs w hv
theorem vrightT (t : VT) (cs : List Value) (w : World) (hv : ValAt w w.heap.size cs t) : Calls Tryz.prog 8 #[.agg ⟨cs⟩] w fun e w' => e = .returned (.bool (rightT t)) ∧ Below w.heap.size w w' := right_top t cs w hv
theorem rtextC_any (t : VT) : saneV t → ∀ d, rightV t d = true → RTextC t (textV t) := by
  induction t using VT.ind with
  | h k n f s ns its ih =>
    intro hs d hr
    rw [saneV] at hs
    obtain ⟨e1, e2, e3, e4, e5, e6⟩ := textV_kind k n f s ns its
    rcases right_inv hr with ⟨rfl, hn, _, _⟩ | ⟨rfl, _, _⟩ | ⟨rfl, _, _⟩ | ⟨rfl, h4, _, _⟩ | ⟨rfl, h5, h6⟩ | ⟨rfl, h5, h6, h7⟩
    · rw [e1 rfl]
      rcases hn with rfl | rfl
      · exact rtext_false f s ns its
      · exact rtext_true f s ns its
    · rw [e2 rfl]
      rcases itoa_cases n with ⟨h0, e⟩ | ⟨h0, e⟩
      · rw [e]; exact rtext_pos n h0 hs.1.2 f s ns its
      · rw [e]; exact rtext_neg n h0 hs.1.1 f s ns its
    · rw [e3 rfl]; exact rtext_flt n f s ns its
    · rw [e4 rfl]; exact rtext_str n f s h4 ns its
    · rw [e5 rfl]
      have hit : ∀ i x, its[i]? = some x → RTextC x (((its[i]?).map textV).getD []) := fun i x hx => by
        rw [hx]
        have hm := List.mem_of_getElem? hx
        exact ih x hm (sane_mem hs.2.2 x hm) (d + 1) (right_mem h6 x hm)
      have h := rtext_list n f s ns its (fun i => ((its[i]?).map textV).getD []) (fun _ => []) (fun _ => rfl) hit
      have hj := join_text false ns its (fun _ => []) (fun i => ((its[i]?).map textV).getD []) (fun _ _ => rfl) (fun k x hx => by simp only [hx]; rfl) its.length (Nat.le_refl _)
      rw [List.take_length] at hj
      rw [hj] at h
      exact h
    · rw [e6 rfl]
      have hit : ∀ i x, its[i]? = some x → RTextC x (((its[i]?).map textV).getD []) := fun i x hx => by
        rw [hx]
        have hm := List.mem_of_getElem? hx
        exact ih x hm (sane_mem hs.2.2 x hm) (d + 1) (right_mem h7 x hm)
      have h := rtext_rec n f s ns its (fun i => ((its[i]?).map textV).getD []) (fun i => ((ns.drop i).headD default).data.toList ++ [58]) h5 (fun i s1 h1 => by
        have : (ns.drop i).headD default = s1 := by rw [drop_at h1]; rfl
        rw [this]) hit
      have hj := join_text true ns its (fun i => ((ns.drop i).headD default).data.toList ++ [58]) (fun i => ((its[i]?).map textV).getD []) (fun _ _ => rfl) (fun k x hx => by simp only [hx]; rfl) its.length (Nat.le_refl _)
      rw [List.take_length] at hj
      rw [hj] at h
      exact h
theorem rtextT (t : VT) (hs : saneV t) (hr : rightT t = true) (cs : List Value) (w : World) (hv : ValAt w w.heap.size cs t) : Calls Tryz.prog 12 #[.agg ⟨cs⟩] w fun e w' => e = .returned (.string ⟨(textV t).toArray⟩) ∧ Below w.heap.size w w' := by
  have hr2 := hr
  unfold rightT at hr2
  rw [Bool.and_eq_true] at hr2
  exact rtextC_any t hs 1 hr2.2 cs w hv (text_len_top hs hr)
set_option maxHeartbeats 8000000 in
set_option maxRecDepth 100000 in
theorem valueRight_walk (w : World) (htb : TabP w) (cs1 : List Value) (t1 : VT) (hv1 : ValAt w w.heap.size cs1 t1) :
    Calls Tryz.prog 3 #[.agg ⟨cs1⟩] w fun e w' => e = .returned (.bool true) ∧ Below w.heap.size w w' := by
  have HTB := Lib.hid htb
  clear htb
  have HC1 := Lib.hid (val_one hv1).1
  have HV1 := Lib.hid hv1
  clear hv1
  go_enter Tryz.func3, Tryz.ntmps3
  go_upto_region 1 with (fail)
  have HR1 := Lib.hid (range_box w cs1 26)
  have HB1 := Lib.hid (box_below w (.cells ⟨cs1⟩ 26))
  have HS1 : Hid ((w.alloc (.cells ⟨cs1⟩ 26)).heap.size = w.heap.size + 1) := Lib.hid (by simp)
  generalize w.alloc (.cells ⟨cs1⟩ 26) = U1 at *
  obtain ⟨p1, hp1⟩ : ∃ p1, w.heap.size = p1 := ⟨_, rfl⟩
  rw [hp1]
  have e1 : w.heap.size = p1 := by exact hp1
  have eW : U1.heap.size = p1 + 1 := by have := HS1.out; omega
  have HZ1 := Lib.hid (Below.refl U1.heap.size U1)
  have HX1 : Hid (U1.rangeAt p1 0 cs1) := Lib.hid (by have h := rangeAt_below HR1.out HZ1.out (show w.heap.size < U1.heap.size by have := HS1.out; omega); rw [e1] at h; exact h)
  have HBW : Hid (Below w.heap.size w U1) := Lib.hid (HB1.out.trans (HZ1.out.mono (by have := HS1.out; omega)))
  have HY1 : Hid (ValAt U1 U1.heap.size cs1 t1) := Lib.hid (HV1.out.next HBW.out)
  have HLT : Hid (p1 < U1.heap.size) := Lib.hid (by omega)
  clear HR1 HB1 HS1 HZ1 HV1 e1 hp1 eW
  obtain ⟨W, rfl⟩ : ∃ W, W = U1 := ⟨_, rfl⟩
  go_wp2_with (go_at_call 5; fail)
  refine (awake04 _).mono ?_
  rintro e v0 ⟨rfl, hb⟩
  have HK0 := Lib.hid hb
  clear hb
  have HRI1 := Lib.hid (rangeAt_below HX1.out HK0.out HLT.out)
  go_wp2_with (first | ((with_reducible refine wl_sload 26 _ rfl ?hwg p1 0 cs1 _ rfl HRI1.out Tryz.underlying26 rfl ?hig ?_); (case hwg => first | exact wanted_none rfl | exact wanted_if rfl rfl rfl rfl); (case hig => rw [HC1.out]; kernel_rfl)) | (go_at_call 6; fail))
  refine (vsmall t1 cs1 v0 (HY1.out.next HK0.out)).mono ?_
  rintro e v1 ⟨b, rfl, hb⟩
  have HK1 := Lib.hid (HK0.out.trans (hb.mono HK0.out.size))
  clear hb HRI1
  cases b with
  | false =>
    go_wp2_with (go_at_call 5; fail)
    refine (awake04 _).mono ?_
    rintro e wf ⟨rfl, hbf⟩
    have HBF := Lib.hid hbf
    clear hbf
    go_wp2
    go_ret
    exact ⟨rfl, HBW.out.trans ((HK1.out.trans (HBF.out.mono HK1.out.size)).mono HBW.out.size)⟩
  | true =>
    cases hr : rightT t1 with
    | true =>
      have C1 : Hid (∀ z : World, Below W.heap.size W z → Calls Tryz.prog 8 #[.agg ⟨cs1⟩] z fun e w' => e = .returned (.bool (rightT t1)) ∧ Below z.heap.size z w') := Lib.hid (fun z hz => vrightT t1 cs1 z (HY1.out.next hz))
      have C2 : Hid (∀ z : World, Below W.heap.size W z → Calls Tryz.prog 9 #[.agg ⟨cs1⟩] z fun e w' => e = .returned (.bool (rightT t1)) ∧ Below z.heap.size z w') := Lib.hid (fun z hz => rrightT t1 cs1 z (HY1.out.next hz))
      have C3 : Hid (∀ z : World, Below W.heap.size W z → Calls Tryz.prog 10 #[.agg ⟨cs1⟩] z fun e w' => e = .returned (.int .i64 (cntV t1 0 : Nat)) ∧ Below z.heap.size z w') := Lib.hid (fun z hz => parts_any t1 cs1 z (HY1.out.next hz))
      have C4 : Hid (∀ z : World, Below W.heap.size W z → Calls Tryz.prog 11 #[.agg ⟨cs1⟩] z fun e w' => e = .returned (.int .i64 (cntV t1 0 : Nat)) ∧ Below z.heap.size z w') := Lib.hid (fun z hz => rparts_any t1 cs1 z (HY1.out.next hz))
      rw [hr] at C1 C2
      generalize cntV t1 0 = y at *
      have HRI := Lib.hid (rangeAt_below HX1.out HK1.out HLT.out)
      have HT1 := Lib.hid (text_any t1 cs1 v1 (HTB.out.next (HBW.out.trans (HK1.out.mono HBW.out.size))) (HY1.out.next HK1.out))
      rw [hr] at HT1
      have HRT := Lib.hid (fun z (hz : Below W.heap.size W z) => rtextT t1 (sane_of t1 cs1 HY1.out) hr cs1 z (HY1.out.next hz))
      generalize (⟨(textV t1).toArray⟩ : ByteArray) = S1 at *
      go_upto_region 4 with (first | ((with_reducible refine wl_sload 26 _ rfl ?hwg p1 0 cs1 _ rfl HRI.out Tryz.underlying26 rfl ?hig ?_); (case hwg => first | exact wanted_none rfl | exact wanted_if rfl rfl rfl rfl); (case hig => rw [HC1.out]; kernel_rfl)) | (go_at_call 7; refine HT1.out.mono ?_; rintro e v2 ⟨rfl, hb⟩; have HK2 := Lib.hid (HK1.out.trans (hb.mono HK1.out.size)); clear hb HT1))
      clear HRI
      refine wp_region_ord [(0, true), (2, true), (1, false), (3, false), (4, true), (5, true), (6, true), (8, true), (7, false), (9, false), (10, true), (11, true)]
        (fun z => Below W.heap.size W z) (by kernel_rfl) (by kernel_rfl) (by kernel_rfl) rfl (by intro c a d v w h; cases d <;> exact h) ?_
      have hs0 : Below W.heap.size W v2.drew := HK2.out.drew
      refine ord_load (some 18) (.agg ⟨cs1⟩) _ rfl rfl (by first | exact wanted_none rfl | exact wanted_if rfl rfl rfl rfl) hs0 (fun z hz => exec_sload 26 rfl p1 0 cs1 _ rfl (rangeAt_below HX1.out hz HLT.out) Tryz.underlying26 rfl (by rw [HC1.out]; kernel_rfl)) ?_
      go_frame
      refine ord_load (some 20) (.agg ⟨cs1⟩) _ rfl rfl (by first | exact wanted_none rfl | exact wanted_if rfl rfl rfl rfl) hs0 (fun z hz => exec_sload 26 rfl p1 0 cs1 _ rfl (rangeAt_below HX1.out hz HLT.out) Tryz.underlying26 rfl (by rw [HC1.out]; kernel_rfl)) ?_
      go_frame
      refine ord_to (some 19) 8 Tryz.func8 (by kernel_rfl) (by kernel_rfl) [.agg ⟨cs1⟩] _ _ _ rfl rfl rfl (by first | exact wanted_none rfl | exact wanted_if rfl rfl rfl rfl) rfl ?_
      refine (C1.out _ hs0).mono ?_
      rintro e z1 ⟨rfl, hb⟩
      have hs1 : Below W.heap.size W z1 := hs0.trans (hb.mono hs0.size)
      refine ⟨.bool true, rfl, hs1, ?_⟩
      clear hb
      go_frame
      refine ord_to (some 21) 9 Tryz.func9 (by kernel_rfl) (by kernel_rfl) [.agg ⟨cs1⟩] _ _ _ rfl rfl rfl (by first | exact wanted_none rfl | exact wanted_if rfl rfl rfl rfl) rfl ?_
      refine (C2.out _ hs1).mono ?_
      rintro e z2 ⟨rfl, hb⟩
      have hs2 : Below W.heap.size W z2 := hs1.trans (hb.mono hs1.size)
      refine ⟨.bool true, rfl, hs2, ?_⟩
      clear hb
      go_frame
      refine ord_load (some 22) (.bool false) _ rfl rfl (by first | exact wanted_none rfl | exact wanted_if rfl rfl rfl rfl) hs2 (fun z hz => by go_simp) ?_
      go_frame
      refine ord_move (some 23) (.bool false) _ _ rfl rfl rfl (by first | exact wanted_none rfl | exact wanted_if rfl rfl rfl rfl) hs2 rfl ?_
      go_frame
      refine ord_load (some 24) (.agg ⟨cs1⟩) _ rfl rfl (by first | exact wanted_none rfl | exact wanted_if rfl rfl rfl rfl) hs2 (fun z hz => exec_sload 26 rfl p1 0 cs1 _ rfl (rangeAt_below HX1.out hz HLT.out) Tryz.underlying26 rfl (by rw [HC1.out]; kernel_rfl)) ?_
      go_frame
      refine ord_load (some 26) (.agg ⟨cs1⟩) _ rfl rfl (by first | exact wanted_none rfl | exact wanted_if rfl rfl rfl rfl) hs2 (fun z hz => exec_sload 26 rfl p1 0 cs1 _ rfl (rangeAt_below HX1.out hz HLT.out) Tryz.underlying26 rfl (by rw [HC1.out]; kernel_rfl)) ?_
      go_frame
      refine ord_to (some 25) 10 Tryz.func10 (by kernel_rfl) (by kernel_rfl) [.agg ⟨cs1⟩] _ _ _ rfl rfl rfl (by first | exact wanted_none rfl | exact wanted_if rfl rfl rfl rfl) rfl ?_
      refine (C3.out _ hs2).mono ?_
      rintro e z3 ⟨rfl, hb⟩
      have hs3 : Below W.heap.size W z3 := hs2.trans (hb.mono hs2.size)
      refine ⟨.int .i64 (y : Nat), rfl, hs3, ?_⟩
      clear hb
      go_frame
      refine ord_to (some 27) 11 Tryz.func11 (by kernel_rfl) (by kernel_rfl) [.agg ⟨cs1⟩] _ _ _ rfl rfl rfl (by first | exact wanted_none rfl | exact wanted_if rfl rfl rfl rfl) rfl ?_
      refine (C4.out _ hs3).mono ?_
      rintro e z4 ⟨rfl, hb⟩
      have hs4 : Below W.heap.size W z4 := hs3.trans (hb.mono hs3.size)
      refine ⟨.int .i64 (y : Nat), rfl, hs4, ?_⟩
      clear hb
      go_frame
      refine ord_load (some 28) (.bool false) _ rfl rfl (by first | exact wanted_none rfl | exact wanted_if rfl rfl rfl rfl) hs4 (fun z hz => by go_simp) ?_
      go_frame
      refine ord_pick (some 29) (.bool false) _ _ _ _ false rfl rfl rfl rfl (by first | exact wanted_none rfl | exact wanted_if rfl rfl rfl rfl) hs4 rfl ?_
      go_frame
      refine ord_end ?_
      have HK3 := Lib.hid hs4
      clear hs0 hs1 hs2 hs3 hs4
      generalize z4 = v3 at *
      have HRI := Lib.hid (rangeAt_below HX1.out HK3.out HLT.out)
      go_wp2_with (first | ((with_reducible refine wl_sload 26 _ rfl ?hwh p1 0 cs1 _ rfl HRI.out Tryz.underlying26 rfl ?hih ?_); (case hwh => first | exact wanted_none rfl | exact wanted_if rfl rfl rfl rfl); (case hih => rw [HC1.out]; kernel_rfl)) | (go_at_call 9; fail))
      refine (C2.out _ HK3.out).mono ?_
      rintro e v4 ⟨rfl, hb⟩
      have HK4 := Lib.hid (HK3.out.trans (hb.mono HK3.out.size))
      clear hb HRI
      have HRI := Lib.hid (rangeAt_below HX1.out HK4.out HLT.out)
      go_wp2_with (first | ((with_reducible refine wl_sload 26 _ rfl ?hwi p1 0 cs1 _ rfl HRI.out Tryz.underlying26 rfl ?hii ?_); (case hwi => first | exact wanted_none rfl | exact wanted_if rfl rfl rfl rfl); (case hii => rw [HC1.out]; kernel_rfl)) | (go_at_call 12; fail))
      refine (HRT.out _ HK4.out).mono ?_
      rintro e v5 ⟨rfl, hb⟩
      have HK5 := Lib.hid (HK4.out.trans (hb.mono HK4.out.size))
      clear hb HRI
      go_wp2
      go_ret
      exact ⟨by simp, HBW.out.trans (HK5.out.mono HBW.out.size)⟩
    | false =>
      have C1 : Hid (∀ z : World, Below W.heap.size W z → Calls Tryz.prog 8 #[.agg ⟨cs1⟩] z fun e w' => e = .returned (.bool (rightT t1)) ∧ Below z.heap.size z w') := Lib.hid (fun z hz => vrightT t1 cs1 z (HY1.out.next hz))
      have C2 : Hid (∀ z : World, Below W.heap.size W z → Calls Tryz.prog 9 #[.agg ⟨cs1⟩] z fun e w' => e = .returned (.bool (rightT t1)) ∧ Below z.heap.size z w') := Lib.hid (fun z hz => rrightT t1 cs1 z (HY1.out.next hz))
      have C3 : Hid (∀ z : World, Below W.heap.size W z → Calls Tryz.prog 10 #[.agg ⟨cs1⟩] z fun e w' => e = .returned (.int .i64 (cntV t1 0 : Nat)) ∧ Below z.heap.size z w') := Lib.hid (fun z hz => parts_any t1 cs1 z (HY1.out.next hz))
      have C4 : Hid (∀ z : World, Below W.heap.size W z → Calls Tryz.prog 11 #[.agg ⟨cs1⟩] z fun e w' => e = .returned (.int .i64 (cntV t1 0 : Nat)) ∧ Below z.heap.size z w') := Lib.hid (fun z hz => rparts_any t1 cs1 z (HY1.out.next hz))
      rw [hr] at C1 C2
      generalize cntV t1 0 = y at *
      have HRI := Lib.hid (rangeAt_below HX1.out HK1.out HLT.out)
      have HT1 := Lib.hid (text_any t1 cs1 v1 (HTB.out.next (HBW.out.trans (HK1.out.mono HBW.out.size))) (HY1.out.next HK1.out))
      rw [hr] at HT1
      go_upto_region 4 with (first | ((with_reducible refine wl_sload 26 _ rfl ?hwg p1 0 cs1 _ rfl HRI.out Tryz.underlying26 rfl ?hig ?_); (case hwg => first | exact wanted_none rfl | exact wanted_if rfl rfl rfl rfl); (case hig => rw [HC1.out]; kernel_rfl)) | (go_at_call 7; refine HT1.out.mono ?_; rintro e v2 ⟨rfl, hb⟩; have HK2 := Lib.hid (HK1.out.trans (hb.mono HK1.out.size)); clear hb HT1))
      clear HRI
      refine wp_region_ord [(0, true), (2, true), (1, false), (3, false), (4, true), (5, true), (6, true), (8, true), (7, false), (9, false), (10, true), (11, true)]
        (fun z => Below W.heap.size W z) (by kernel_rfl) (by kernel_rfl) (by kernel_rfl) rfl (by intro c a d v w h; cases d <;> exact h) ?_
      have hs0 : Below W.heap.size W v2.drew := HK2.out.drew
      refine ord_load (some 18) (.agg ⟨cs1⟩) _ rfl rfl (by first | exact wanted_none rfl | exact wanted_if rfl rfl rfl rfl) hs0 (fun z hz => exec_sload 26 rfl p1 0 cs1 _ rfl (rangeAt_below HX1.out hz HLT.out) Tryz.underlying26 rfl (by rw [HC1.out]; kernel_rfl)) ?_
      go_frame
      refine ord_load (some 20) (.agg ⟨cs1⟩) _ rfl rfl (by first | exact wanted_none rfl | exact wanted_if rfl rfl rfl rfl) hs0 (fun z hz => exec_sload 26 rfl p1 0 cs1 _ rfl (rangeAt_below HX1.out hz HLT.out) Tryz.underlying26 rfl (by rw [HC1.out]; kernel_rfl)) ?_
      go_frame
      refine ord_to (some 19) 8 Tryz.func8 (by kernel_rfl) (by kernel_rfl) [.agg ⟨cs1⟩] _ _ _ rfl rfl rfl (by first | exact wanted_none rfl | exact wanted_if rfl rfl rfl rfl) rfl ?_
      refine (C1.out _ hs0).mono ?_
      rintro e z1 ⟨rfl, hb⟩
      have hs1 : Below W.heap.size W z1 := hs0.trans (hb.mono hs0.size)
      refine ⟨.bool false, rfl, hs1, ?_⟩
      clear hb
      go_frame
      refine ord_to (some 21) 9 Tryz.func9 (by kernel_rfl) (by kernel_rfl) [.agg ⟨cs1⟩] _ _ _ rfl rfl rfl (by first | exact wanted_none rfl | exact wanted_if rfl rfl rfl rfl) rfl ?_
      refine (C2.out _ hs1).mono ?_
      rintro e z2 ⟨rfl, hb⟩
      have hs2 : Below W.heap.size W z2 := hs1.trans (hb.mono hs1.size)
      refine ⟨.bool false, rfl, hs2, ?_⟩
      clear hb
      go_frame
      refine ord_load (some 22) (.bool false) _ rfl rfl (by first | exact wanted_none rfl | exact wanted_if rfl rfl rfl rfl) hs2 (fun z hz => by go_simp) ?_
      go_frame
      refine ord_move (some 23) (.bool false) _ _ rfl rfl rfl (by first | exact wanted_none rfl | exact wanted_if rfl rfl rfl rfl) hs2 rfl ?_
      go_frame
      refine ord_load (some 24) (.agg ⟨cs1⟩) _ rfl rfl (by first | exact wanted_none rfl | exact wanted_if rfl rfl rfl rfl) hs2 (fun z hz => exec_sload 26 rfl p1 0 cs1 _ rfl (rangeAt_below HX1.out hz HLT.out) Tryz.underlying26 rfl (by rw [HC1.out]; kernel_rfl)) ?_
      go_frame
      refine ord_load (some 26) (.agg ⟨cs1⟩) _ rfl rfl (by first | exact wanted_none rfl | exact wanted_if rfl rfl rfl rfl) hs2 (fun z hz => exec_sload 26 rfl p1 0 cs1 _ rfl (rangeAt_below HX1.out hz HLT.out) Tryz.underlying26 rfl (by rw [HC1.out]; kernel_rfl)) ?_
      go_frame
      refine ord_to (some 25) 10 Tryz.func10 (by kernel_rfl) (by kernel_rfl) [.agg ⟨cs1⟩] _ _ _ rfl rfl rfl (by first | exact wanted_none rfl | exact wanted_if rfl rfl rfl rfl) rfl ?_
      refine (C3.out _ hs2).mono ?_
      rintro e z3 ⟨rfl, hb⟩
      have hs3 : Below W.heap.size W z3 := hs2.trans (hb.mono hs2.size)
      refine ⟨.int .i64 (y : Nat), rfl, hs3, ?_⟩
      clear hb
      go_frame
      refine ord_to (some 27) 11 Tryz.func11 (by kernel_rfl) (by kernel_rfl) [.agg ⟨cs1⟩] _ _ _ rfl rfl rfl (by first | exact wanted_none rfl | exact wanted_if rfl rfl rfl rfl) rfl ?_
      refine (C4.out _ hs3).mono ?_
      rintro e z4 ⟨rfl, hb⟩
      have hs4 : Below W.heap.size W z4 := hs3.trans (hb.mono hs3.size)
      refine ⟨.int .i64 (y : Nat), rfl, hs4, ?_⟩
      clear hb
      go_frame
      refine ord_load (some 28) (.bool false) _ rfl rfl (by first | exact wanted_none rfl | exact wanted_if rfl rfl rfl rfl) hs4 (fun z hz => by go_simp) ?_
      go_frame
      refine ord_pick (some 29) (.bool false) _ _ _ _ false rfl rfl rfl rfl (by first | exact wanted_none rfl | exact wanted_if rfl rfl rfl rfl) hs4 rfl ?_
      go_frame
      refine ord_end ?_
      have HK3 := Lib.hid hs4
      clear hs0 hs1 hs2 hs3 hs4
      generalize z4 = v3 at *
      have HRI := Lib.hid (rangeAt_below HX1.out HK3.out HLT.out)
      go_wp2_with (first | ((with_reducible refine wl_sload 26 _ rfl ?hwh p1 0 cs1 _ rfl HRI.out Tryz.underlying26 rfl ?hih ?_); (case hwh => first | exact wanted_none rfl | exact wanted_if rfl rfl rfl rfl); (case hih => rw [HC1.out]; kernel_rfl)) | (go_at_call 9; fail))
      refine (C2.out _ HK3.out).mono ?_
      rintro e v4 ⟨rfl, hb⟩
      have HK4 := Lib.hid (HK3.out.trans (hb.mono HK3.out.size))
      clear hb HRI
      go_wp2
      go_ret
      exact ⟨by simp, HBW.out.trans (HK4.out.mono HBW.out.size)⟩
theorem valueRight_tab {W : World} (hL : laidMetH Tryz.prog Rows.valueRightRow.laid W) : TabP W := by
  have h1 : laidMet Tryz.prog [("internal/strconv.uint64pow10", Rows.laid_internal_strconv_uint64pow10)] W := laidMet.tail (laidMet.tail (show laidMet Tryz.prog Rows.valueRightRow.laid W from hL))
  have e : (Rows.laid_internal_strconv_uint64pow10 : DataW Unit) = Lib.tabData .u64 Lib.pow10Tab := by kernel_rfl
  rw [e] at h1
  exact Lib.tabIs_of_head (g := 2) (t := 122) (e := 63) (n := 20) (by kernel_rfl) (by kernel_rfl) Tryz.underlying122 Tryz.underlying63 (by kernel_rfl) (by kernel_rfl) h1


noncomputable def valueRightWorld (os : Os) : World :=
  { World.holding Tryz.prog os ⟨#[], #[], []⟩ with heap := ((((World.holding Tryz.prog os ⟨#[], #[], []⟩).heap).modify 2 (fun x => match x with | .cells _ t frozen => .cells #[.int .u64 1, .int .u64 10, .int .u64 100, .int .u64 1000, .int .u64 10000, .int .u64 100000, .int .u64 1000000, .int .u64 10000000, .int .u64 100000000, .int .u64 1000000000, .int .u64 10000000000, .int .u64 100000000000, .int .u64 1000000000000, .int .u64 10000000000000, .int .u64 100000000000000, .int .u64 1000000000000000, .int .u64 10000000000000000, .int .u64 100000000000000000, .int .u64 1000000000000000000, .int .u64 10000000000000000000] t frozen | o => o)).modify 3 (fun x => match x with | .cells _ t frozen => .cells #[.int .u8 0, .int .u8 1, .int .u8 28, .int .u8 2, .int .u8 29, .int .u8 14, .int .u8 24, .int .u8 3, .int .u8 30, .int .u8 22, .int .u8 20, .int .u8 15, .int .u8 25, .int .u8 17, .int .u8 4, .int .u8 8, .int .u8 31, .int .u8 27, .int .u8 13, .int .u8 23, .int .u8 21, .int .u8 19, .int .u8 16, .int .u8 7, .int .u8 26, .int .u8 12, .int .u8 18, .int .u8 6, .int .u8 11, .int .u8 5, .int .u8 10, .int .u8 9] t frozen | o => o)).modify 4 (fun x => match x with | .cells _ t frozen => .cells #[.int .u8 0, .int .u8 1, .int .u8 56, .int .u8 2, .int .u8 57, .int .u8 49, .int .u8 28, .int .u8 3, .int .u8 61, .int .u8 58, .int .u8 42, .int .u8 50, .int .u8 38, .int .u8 29, .int .u8 17, .int .u8 4, .int .u8 62, .int .u8 47, .int .u8 59, .int .u8 36, .int .u8 45, .int .u8 43, .int .u8 51, .int .u8 22, .int .u8 53, .int .u8 39, .int .u8 33, .int .u8 30, .int .u8 24, .int .u8 18, .int .u8 12, .int .u8 5, .int .u8 63, .int .u8 55, .int .u8 48, .int .u8 27, .int .u8 60, .int .u8 41, .int .u8 37, .int .u8 16, .int .u8 46, .int .u8 35, .int .u8 44, .int .u8 21, .int .u8 52, .int .u8 32, .int .u8 23, .int .u8 11, .int .u8 54, .int .u8 26, .int .u8 40, .int .u8 15, .int .u8 34, .int .u8 20, .int .u8 31, .int .u8 10, .int .u8 25, .int .u8 14, .int .u8 19, .int .u8 9, .int .u8 13, .int .u8 8, .int .u8 7, .int .u8 6] t frozen | o => o) }
set_option maxRecDepth 100000 in
theorem valueRight_laid (os : Os) : laidMet Tryz.prog Rows.valueRightRow.laid ((valueRightWorld os).forCall (fun _ _ => 0) ⟨#[], #[.agg #[.int .i64 0, .int .i64 0, .float .f64 0, .string .empty, .slice none 0 0, .slice none 0 0]], []⟩).memory :=
  laidMet_of_run' 8 (by kernel_rfl) (by kernel_rfl)
set_option maxRecDepth 100000 in
theorem valueRight_reads (os : Os) {H : Type} (enc : TypeId × Value → H) : ∃ x, DataW.whole enc Tryz.prog ((valueRightWorld os).forCall (fun _ _ => 0) ⟨#[], #[.agg #[.int .i64 0, .int .i64 0, .float .f64 0, .string .empty, .slice none 0 0, .slice none 0 0]], []⟩).memory Tryz.f3.params.toList Rows.valueRightSpec.vars false (#[.agg #[.int .i64 0, .int .i64 0, .float .f64 0, .string .empty, .slice none 0 0, .slice none 0 0]] : Array Value).toList 8 = some x :=
  Option.isSome_iff_exists.1 (by kernel_rfl)
set_option maxRecDepth 100000 in
theorem valueRight_contract (H : Type) (enc : TypeId × Value → H) (W : World) (base : Nat) (args : Array Value) (ds gs : List (DataW H)) (before : List MemPlace)
    (hval0 : ∀ (j : Nat) t v, Tryz.f3.params[j]? = some t → args[j]? = some v → Value.okWide Tryz.prog W .any base t v)
    (hW : DataW.Whole enc Tryz.prog Tryz.f3.params.toList Rows.valueRightSpec.vars false W args.toList ds gs before)
    (hL : laidMetH Tryz.prog Rows.valueRightRow.laid W) :
    Calls Tryz.prog 3 args W fun e W' => ∃ v, e = .returned v ∧ Rows.valueRightSpec.post enc Tryz.prog Tryz.f3 false true false false W args v W' := by
  have hval : ∀ (j : Nat) t v, Tryz.f3.params[j]? = some t → args[j]? = some v → Value.okWide Tryz.prog W .any base t v := hval0
  have hW' := hW
  obtain ⟨p, q, hA0, hV, rfl, hfz, hnd⟩ := hW
  have hA : DataW.TrodAll enc Tryz.prog W 0 (fun _ => true) true Tryz.f3.params.toList args.toList ds p := hA0
  rw [Tryz.params3] at hA hval
  obtain ⟨v0, vs0, d0, ds0, p0, q0, hargs, rfl, rfl, h0, r0⟩ := trodAll_cons hA
  obtain ⟨rfl, rfl, rfl⟩ := trodAll_nil r0
  obtain rfl : args = #[v0] := by cases args; simp_all
  obtain ⟨rfl, rfl⟩ := trodVars_none hV
  have k0 := h0
  have lt0 := lt_of_trod k0
  obtain ⟨cs0, m0, rfl, hm0⟩ := val_arg (hval 0 26 v0 rfl rfl) h0
  clear hA0 hval0
  refine (valueRight_walk W (valueRight_tab hL) cs0 m0 hm0).mono fun e W' ⟨he, bel⟩ => ?_
  subst he
  exact ⟨_, rfl, _, _, _, [], _, [], hW', trodAll_mk1 (shut_bool Tryz.underlying4 _), (trodAll_cons_mk (Below.trod laidOut (by kernel_rfl) (of_decide_eq_true (by kernel_rfl)) k0 bel lt0) trodAll_mk0), rfl, bel.frame _, fun h => by cases h⟩
set_option maxRecDepth 100000 in
theorem valueRight_lifted (os : Os) (started : os.Started) (H : Type) (enc : TypeId × Value → H) (F : Stop.Interp) :
    ReturnsInHanded {} Tryz.checked os 3 .any ((OpenSpec.ofChange Rows.valueRightSpec).preRow enc Tryz.prog Tryz.f3 Rows.valueRightRow.domain false Rows.valueRightRow.laid) (((OpenSpec.ofChange Rows.valueRightSpec).at F).post enc Tryz.prog Tryz.f3 false true false false) := by
  obtain ⟨x, hx⟩ := valueRight_reads os enc
  refine returnsInHanded_of_row (C := Tryz.checked) (s := OpenSpec.ofChange Rows.valueRightSpec) own started (by kernel_rfl) Tryz.func3
    (witness_row_at (enc := enc) (C := Tryz.checked) false (valueRightWorld os) #[.agg #[.int .i64 0, .int .i64 0, .float .f64 0, .string .empty, .slice none 0 0, .slice none 0 0]] rfl (by kernel_rfl) (by kernel_rfl) (by kernel_rfl)
      (OpenSpec.preRow_of_cond 8 hx rfl (fun k hk => by cases hk) (by kernel_rfl) (valueRight_laid os))) ?_
  intro W base args ds gs before hval hW _ _ hsz hL _ _
  exact valueRight_contract H enc W base args ds gs before hval hW hL
theorem valueRight_said : Rows.ValueRightSaid :=
  OpenClaim.holds_of_cond 3 Tryz.f3 rfl rfl rfl rfl rfl rfl rfl ⟨rfl, rfl, rfl, rfl, rfl⟩ rfl rfl rfl rfl rfl (by kernel_rfl) Tryz.func3 (by kernel_rfl)
    (of_decide_eq_true (by kernel_rfl)) (by unfold Func.isWrapper; first | (rw [if_pos (by decide +kernel)]; kernel_rfl) | (rw [if_neg (by decide +kernel)]; exact ⟨rfl, rfl⟩))
    (fun os started H enc _ F => by rw [OpenClaim.pre_eq_preRow]; exact valueRight_lifted os started H enc F)
theorem valueRight_plain (f : FuncId) (fn : Func) (hf : Tryz.pinned.checked.prog.funcNamed "bascule/basculelaw04.ValueRight" = some f) (hfn : Tryz.pinned.checked.prog.funcs[f]? = some fn) :
    false = Tryz.pinned.checked.prog.looks [] ∧ ∀ (j : Nat) t, fn.params[j]? = some t → Tryz.pinned.checked.prog.wantsStandIn t = false := by
  obtain rfl : f = 3 := Option.some.inj ((show Tryz.prog.funcNamed "bascule/basculelaw04.ValueRight" = some 3 by kernel_rfl).symm.trans hf) |>.symm
  obtain rfl : fn = Tryz.f3 := (Option.some.inj (Tryz.func3.symm.trans hfn)).symm
  refine ⟨by kernel_rfl, fun j t ht => ?_⟩
  rw [Tryz.params3] at ht
  obtain rfl : t = 26 := by simpa using Array.mem_of_getElem? ht
  exact (show Tryz.prog.wantsStandIn 26 = false by kernel_rfl)
/-- the card -/
theorem valueRight_proved : Rows.ValueRightCardSaid :=
  Claim7.holds_tied_plain_at .later [] _ _ _ _ valueRight_said (fun _ h => by cases h) (by kernel_rfl) (fun _ h => by cases h) valueRight_row_tie rfl ⟨rfl, rfl⟩ (by kernel_rfl) rfl valueRight_plain (by kernel_rfl)
#print axioms valueRight_proved
end Go.Proofs.YtieciegfloldhaaGreatDoor
