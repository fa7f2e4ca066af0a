/- THE STATEMENT ValueRow is proved: for all three values the Go function ValueRow returns true, and its arguments read afterwards as before; without conditions. -/
import Derived.Test.YtieciegfloldhaaDoorVRowP
import Derived.Test.YtieciegfloldhaaDoorVAwake
import Derived.Test.YtieciegfloldhaaDoorTri
import Derived.Test.YtieciegfloldhaaDoorOpenV
import Derived.Test.YtieciegfloldhaaDoorCards
import Derived.Test.YtieciegfloldhaaDoorTie
import Derived.WalkKit
import Derived.Deep.DeepHandedRow
import Derived.SevenTiedAt
import Derived.Lib.LaidTab
namespace Go.Proofs.YtieciegfloldhaaDoor
open Go.ChangeShapes Go.WideShapes Go.ChangeAt Go.RowKit Go
set_option linter.unusedVariables false

set_option maxHeartbeats 8000000 in
set_option maxRecDepth 100000 in
theorem valueRow_walk (w : World) (cs1 : List Value) (t1 : VT) (hv1 : ValAt w w.heap.size cs1 t1) (cs2 : List Value) (t2 : VT) (hv2 : ValAt w w.heap.size cs2 t2) (cs3 : List Value) (t3 : VT) (hv3 : ValAt w w.heap.size cs3 t3) :
    Calls Tryd.prog 3 #[.agg ⟨cs1⟩, .agg ⟨cs2⟩, .agg ⟨cs3⟩] w fun e w' => e = .returned (.bool true) ∧ Below w.heap.size w w' := by
  have HC1 := Lib.hid (val_one hv1).1
  have HV1 := Lib.hid hv1
  have HC2 := Lib.hid (val_one hv2).1
  have HV2 := Lib.hid hv2
  have HC3 := Lib.hid (val_one hv3).1
  have HV3 := Lib.hid hv3
  clear hv1 hv2 hv3
  go_enter Tryd.func3, Tryd.ntmps3
  go_upto_region 1 with (fail)
  have HR1 := Lib.hid (range_box w cs1 26)
  have HB1 := Lib.hid (box_below w (.cells ⟨cs1⟩ 26))
  have HS1 : Hid ((w.alloc (.cells ⟨cs1⟩ 26)).heap.size = w.heap.size + 1) := Lib.hid (by simp)
  generalize w.alloc (.cells ⟨cs1⟩ 26) = U1 at *
  have HR2 := Lib.hid (range_box U1 cs2 26)
  have HB2 := Lib.hid (box_below U1 (.cells ⟨cs2⟩ 26))
  have HS2 : Hid ((U1.alloc (.cells ⟨cs2⟩ 26)).heap.size = U1.heap.size + 1) := Lib.hid (by simp)
  generalize U1.alloc (.cells ⟨cs2⟩ 26) = U2 at *
  have HR3 := Lib.hid (range_box U2 cs3 26)
  have HB3 := Lib.hid (box_below U2 (.cells ⟨cs3⟩ 26))
  have HS3 : Hid ((U2.alloc (.cells ⟨cs3⟩ 26)).heap.size = U2.heap.size + 1) := Lib.hid (by simp)
  generalize U2.alloc (.cells ⟨cs3⟩ 26) = U3 at *
  obtain ⟨p1, hp1⟩ : ∃ p1, w.heap.size = p1 := ⟨_, rfl⟩
  obtain ⟨p2, hp2⟩ : ∃ p2, p1 + 1 = p2 := ⟨_, rfl⟩
  obtain ⟨p3, hp3⟩ : ∃ p3, p2 + 1 = p3 := ⟨_, rfl⟩
  rw [hp1, hp2, hp3]
  have e1 : w.heap.size = p1 := by exact hp1
  have e2 : U1.heap.size = p2 := by have := HS1.out; omega
  have e3 : U2.heap.size = p3 := by have := HS1.out; have := HS2.out; omega
  have eW : U3.heap.size = p3 + 1 := by have := HS3.out; omega
  have HZ3 := Lib.hid (Below.refl U3.heap.size U3)
  have HZ2 : Hid (Below U2.heap.size U2 U3) := Lib.hid (HB3.out.trans (HZ3.out.mono (by have := HS3.out; omega)))
  have HZ1 : Hid (Below U1.heap.size U1 U3) := Lib.hid (HB2.out.trans (HZ2.out.mono (by have := HS2.out; omega)))
  have HX1 : Hid (U3.rangeAt p1 0 cs1) := Lib.hid (by have h := rangeAt_below HR1.out HZ1.out (show w.heap.size < U1.heap.size by have := HS1.out; omega); rw [e1] at h; exact h)
  have HX2 : Hid (U3.rangeAt p2 0 cs2) := Lib.hid (by have h := rangeAt_below HR2.out HZ2.out (show U1.heap.size < U2.heap.size by have := HS2.out; omega); rw [e2] at h; exact h)
  have HX3 : Hid (U3.rangeAt p3 0 cs3) := Lib.hid (by have h := rangeAt_below HR3.out HZ3.out (show U2.heap.size < U3.heap.size by have := HS3.out; omega); rw [e3] at h; exact h)
  have HBW : Hid (Below w.heap.size w U3) := Lib.hid (HB1.out.trans (HZ1.out.mono (by have := HS1.out; omega)))
  have HY1 : Hid (ValAt U3 U3.heap.size cs1 t1) := Lib.hid (HV1.out.next HBW.out)
  have HY2 : Hid (ValAt U3 U3.heap.size cs2 t2) := Lib.hid (HV2.out.next HBW.out)
  have HY3 : Hid (ValAt U3 U3.heap.size cs3 t3) := Lib.hid (HV3.out.next HBW.out)
  have HLT : Hid (p1 < U3.heap.size ∧ p2 < U3.heap.size ∧ p3 < U3.heap.size) := Lib.hid (by omega)
  clear HR1 HB1 HS1 HZ1 HV1 e1 hp1 HR2 HB2 HS2 HZ2 HV2 e2 hp2 HR3 HB3 HS3 HZ3 HV3 e3 hp3 eW
  obtain ⟨W, rfl⟩ : ∃ W, W = U3 := ⟨_, rfl⟩
  go_wp2_with (go_at_call 7; fail)
  refine (awake04 _).mono ?_
  rintro e v0 ⟨rfl, hb⟩
  have HK0 := Lib.hid hb
  clear hb
  have HRI1 := Lib.hid (rangeAt_below HX1.out HK0.out HLT.out.1)
  go_wp2_with (first | ((with_reducible refine wl_sload 26 _ rfl ?hwg p1 0 cs1 _ rfl HRI1.out Tryd.underlying26 rfl ?hig ?_); (case hwg => first | exact wanted_none rfl | exact wanted_if rfl rfl rfl rfl); (case hig => rw [HC1.out]; kernel_rfl)) | (go_at_call 8; fail))
  refine (vsmall t1 cs1 v0 (HY1.out.next HK0.out)).mono ?_
  rintro e v1 ⟨b, rfl, hb⟩
  have HK1 := Lib.hid (HK0.out.trans (hb.mono HK0.out.size))
  clear hb HRI1
  cases b with
  | false =>
    go_wp2_with (go_at_call 7; fail)
    refine (awake04 _).mono ?_
    rintro e wf ⟨rfl, hbf⟩
    have HBF := Lib.hid hbf
    clear hbf
    go_wp2
    go_ret
    exact ⟨rfl, HBW.out.trans ((HK1.out.trans (HBF.out.mono HK1.out.size)).mono HBW.out.size)⟩
  | true =>
    have HRI2 := Lib.hid (rangeAt_below HX2.out HK1.out HLT.out.2.1)
    go_wp2_with (first | ((with_reducible refine wl_sload 26 _ rfl ?hwg p2 0 cs2 _ rfl HRI2.out Tryd.underlying26 rfl ?hig ?_); (case hwg => first | exact wanted_none rfl | exact wanted_if rfl rfl rfl rfl); (case hig => rw [HC2.out]; kernel_rfl)) | (go_at_call 8; fail))
    refine (vsmall t2 cs2 v1 (HY2.out.next HK1.out)).mono ?_
    rintro e v2 ⟨b, rfl, hb⟩
    have HK2 := Lib.hid (HK1.out.trans (hb.mono HK1.out.size))
    clear hb HRI2
    cases b with
    | false =>
      go_wp2_with (go_at_call 7; fail)
      refine (awake04 _).mono ?_
      rintro e wf ⟨rfl, hbf⟩
      have HBF := Lib.hid hbf
      clear hbf
      go_wp2
      go_ret
      exact ⟨rfl, HBW.out.trans ((HK2.out.trans (HBF.out.mono HK2.out.size)).mono HBW.out.size)⟩
    | true =>
      have HRI3 := Lib.hid (rangeAt_below HX3.out HK2.out HLT.out.2.2)
      go_wp2_with (first | ((with_reducible refine wl_sload 26 _ rfl ?hwg p3 0 cs3 _ rfl HRI3.out Tryd.underlying26 rfl ?hig ?_); (case hwg => first | exact wanted_none rfl | exact wanted_if rfl rfl rfl rfl); (case hig => rw [HC3.out]; kernel_rfl)) | (go_at_call 8; fail))
      refine (vsmall t3 cs3 v2 (HY3.out.next HK2.out)).mono ?_
      rintro e v3 ⟨b, rfl, hb⟩
      have HK3 := Lib.hid (HK2.out.trans (hb.mono HK2.out.size))
      clear hb HRI3
      cases b with
      | false =>
        go_wp2_with (go_at_call 7; fail)
        refine (awake04 _).mono ?_
        rintro e wf ⟨rfl, hbf⟩
        have HBF := Lib.hid hbf
        clear hbf
        go_wp2
        go_ret
        exact ⟨rfl, HBW.out.trans ((HK3.out.trans (HBF.out.mono HK3.out.size)).mono HBW.out.size)⟩
      | true =>
        have HT3 := Lib.hid (ordV_tri t1 t2)
        have haa : ordV t1 t1 = 0 := ordV_good.refl t1
        have han := ordV_good.anti t1 t2
        rcases HT3.out with hab | hab | hab
        · have hba : ordV t2 t1 = 1 := by omega
          have hsm : (ordV t1 t2 == 0) = false := by rw [hab]; rfl
          clear han HT3
          go_wp2_with (fail)
          refine wp_region_ord [(0, true), (1, true), (3, true), (4, true), (2, false), (5, false), (6, true), (7, true), (8, true), (9, true), (10, true), (11, false), (12, true), (13, true), (14, true), (15, true), (16, true), (18, true), (19, true), (17, false), (20, false), (21, true), (22, true), (23, true)]
            (fun z => Below W.heap.size W z) (by kernel_rfl) (by kernel_rfl) (by kernel_rfl) rfl (by intro c a d v w h; cases d <;> exact h) ?_
          have hs0 : Below W.heap.size W v3.drew := HK3.out.drew
          refine ord_load (some 25) (.agg ⟨cs1⟩) _ rfl rfl (by first | exact wanted_none rfl | exact wanted_if rfl rfl rfl rfl) hs0 (fun z hz => exec_sload 26 rfl p1 0 cs1 _ rfl (rangeAt_below HX1.out hz HLT.out.1) Tryd.underlying26 rfl (by rw [HC1.out]; kernel_rfl)) ?_
          go_frame
          refine ord_load (some 26) (.agg ⟨cs2⟩) _ rfl rfl (by first | exact wanted_none rfl | exact wanted_if rfl rfl rfl rfl) hs0 (fun z hz => exec_sload 26 rfl p2 0 cs2 _ rfl (rangeAt_below HX2.out hz HLT.out.2.1) Tryd.underlying26 rfl (by rw [HC2.out]; kernel_rfl)) ?_
          go_frame
          refine ord_load (some 28) (.agg ⟨cs2⟩) _ rfl rfl (by first | exact wanted_none rfl | exact wanted_if rfl rfl rfl rfl) hs0 (fun z hz => exec_sload 26 rfl p2 0 cs2 _ rfl (rangeAt_below HX2.out hz HLT.out.2.1) Tryd.underlying26 rfl (by rw [HC2.out]; kernel_rfl)) ?_
          go_frame
          refine ord_load (some 29) (.agg ⟨cs1⟩) _ rfl rfl (by first | exact wanted_none rfl | exact wanted_if rfl rfl rfl rfl) hs0 (fun z hz => exec_sload 26 rfl p1 0 cs1 _ rfl (rangeAt_below HX1.out hz HLT.out.1) Tryd.underlying26 rfl (by rw [HC1.out]; kernel_rfl)) ?_
          go_frame
          refine ord_to (some 27) 9 Tryd.func9 (by kernel_rfl) (by kernel_rfl) [.agg ⟨cs1⟩, .agg ⟨cs2⟩] _ _ _ rfl rfl rfl (by first | exact wanted_none rfl | exact wanted_if rfl rfl rfl rfl) rfl ?_
          refine (vorder t1 t2 cs1 cs2 _ (HY1.out.next hs0) (HY2.out.next hs0)).mono ?_
          rintro e z1 ⟨rfl, hb⟩
          rw [hab]
          have hs1 : Below W.heap.size W z1 := hs0.trans (hb.mono hs0.size)
          refine ⟨(.int .i64 (-1)), rfl, hs1, ?_⟩
          clear hb
          go_frame
          refine ord_to (some 30) 9 Tryd.func9 (by kernel_rfl) (by kernel_rfl) [.agg ⟨cs2⟩, .agg ⟨cs1⟩] _ _ _ rfl rfl rfl (by first | exact wanted_none rfl | exact wanted_if rfl rfl rfl rfl) rfl ?_
          refine (vorder t2 t1 cs2 cs1 _ (HY2.out.next hs1) (HY1.out.next hs1)).mono ?_
          rintro e z2 ⟨rfl, hb⟩
          rw [hba]
          have hs2 : Below W.heap.size W z2 := hs1.trans (hb.mono hs1.size)
          refine ⟨(.int .i64 (1)), rfl, hs2, ?_⟩
          clear hb
          go_frame
          refine ord_load (some 31) (.int .i64 (-1)) _ rfl rfl (by first | exact wanted_none rfl | exact wanted_if rfl rfl rfl rfl) hs2 (fun z hz => by go_simp; decide) ?_
          go_frame
          refine ord_load (some 32) (.bool false) _ rfl rfl (by first | exact wanted_none rfl | exact wanted_if rfl rfl rfl rfl) hs2 (fun z hz => by go_simp) ?_
          go_frame
          refine ord_move (some 33) (.bool false) _ _ rfl rfl rfl (by first | exact wanted_none rfl | exact wanted_if rfl rfl rfl rfl) hs2 rfl ?_
          go_frame
          refine ord_load (some 34) (.agg ⟨cs1⟩) _ rfl rfl (by first | exact wanted_none rfl | exact wanted_if rfl rfl rfl rfl) hs2 (fun z hz => exec_sload 26 rfl p1 0 cs1 _ rfl (rangeAt_below HX1.out hz HLT.out.1) Tryd.underlying26 rfl (by rw [HC1.out]; kernel_rfl)) ?_
          go_frame
          refine ord_load (some 35) (.agg ⟨cs1⟩) _ rfl rfl (by first | exact wanted_none rfl | exact wanted_if rfl rfl rfl rfl) hs2 (fun z hz => exec_sload 26 rfl p1 0 cs1 _ rfl (rangeAt_below HX1.out hz HLT.out.1) Tryd.underlying26 rfl (by rw [HC1.out]; kernel_rfl)) ?_
          go_frame
          refine ord_to (some 36) 9 Tryd.func9 (by kernel_rfl) (by kernel_rfl) [.agg ⟨cs1⟩, .agg ⟨cs1⟩] _ _ _ rfl rfl rfl (by first | exact wanted_none rfl | exact wanted_if rfl rfl rfl rfl) rfl ?_
          refine (vorder t1 t1 cs1 cs1 _ (HY1.out.next hs2) (HY1.out.next hs2)).mono ?_
          rintro e z3 ⟨rfl, hb⟩
          rw [haa]
          have hs3 : Below W.heap.size W z3 := hs2.trans (hb.mono hs2.size)
          refine ⟨(.int .i64 0), rfl, hs3, ?_⟩
          clear hb
          go_frame
          refine ord_load (some 37) (.bool false) _ rfl rfl (by first | exact wanted_none rfl | exact wanted_if rfl rfl rfl rfl) hs3 (fun z hz => by go_simp) ?_
          go_frame
          refine ord_pick (some 38) (.bool false) _ _ _ _ false rfl rfl rfl rfl (by first | exact wanted_none rfl | exact wanted_if rfl rfl rfl rfl) hs3 rfl ?_
          go_frame
          refine ord_move (some 39) (.bool false) _ _ rfl rfl rfl (by first | exact wanted_none rfl | exact wanted_if rfl rfl rfl rfl) hs3 rfl ?_
          go_frame
          refine ord_load (some 40) (.agg ⟨cs1⟩) _ rfl rfl (by first | exact wanted_none rfl | exact wanted_if rfl rfl rfl rfl) hs3 (fun z hz => exec_sload 26 rfl p1 0 cs1 _ rfl (rangeAt_below HX1.out hz HLT.out.1) Tryd.underlying26 rfl (by rw [HC1.out]; kernel_rfl)) ?_
          go_frame
          refine ord_load (some 41) (.agg ⟨cs2⟩) _ rfl rfl (by first | exact wanted_none rfl | exact wanted_if rfl rfl rfl rfl) hs3 (fun z hz => exec_sload 26 rfl p2 0 cs2 _ rfl (rangeAt_below HX2.out hz HLT.out.2.1) Tryd.underlying26 rfl (by rw [HC2.out]; kernel_rfl)) ?_
          go_frame
          refine ord_load (some 43) (.agg ⟨cs1⟩) _ rfl rfl (by first | exact wanted_none rfl | exact wanted_if rfl rfl rfl rfl) hs3 (fun z hz => exec_sload 26 rfl p1 0 cs1 _ rfl (rangeAt_below HX1.out hz HLT.out.1) Tryd.underlying26 rfl (by rw [HC1.out]; kernel_rfl)) ?_
          go_frame
          refine ord_load (some 44) (.agg ⟨cs2⟩) _ rfl rfl (by first | exact wanted_none rfl | exact wanted_if rfl rfl rfl rfl) hs3 (fun z hz => exec_sload 26 rfl p2 0 cs2 _ rfl (rangeAt_below HX2.out hz HLT.out.2.1) Tryd.underlying26 rfl (by rw [HC2.out]; kernel_rfl)) ?_
          go_frame
          refine ord_to (some 42) 10 Tryd.func10 (by kernel_rfl) (by kernel_rfl) [.agg ⟨cs1⟩, .agg ⟨cs2⟩] _ _ _ rfl rfl rfl (by first | exact wanted_none rfl | exact wanted_if rfl rfl rfl rfl) rfl ?_
          refine (vsame t1 t2 cs1 cs2 _ (HY1.out.next hs3) (HY2.out.next hs3)).mono ?_
          rintro e z4 ⟨rfl, hb⟩
          rw [hsm]
          have hs4 : Below W.heap.size W z4 := hs3.trans (hb.mono hs3.size)
          refine ⟨(.bool false), rfl, hs4, ?_⟩
          clear hb
          go_frame
          refine ord_to (some 45) 9 Tryd.func9 (by kernel_rfl) (by kernel_rfl) [.agg ⟨cs1⟩, .agg ⟨cs2⟩] _ _ _ rfl rfl rfl (by first | exact wanted_none rfl | exact wanted_if rfl rfl rfl rfl) rfl ?_
          refine (vorder t1 t2 cs1 cs2 _ (HY1.out.next hs4) (HY2.out.next hs4)).mono ?_
          rintro e z5 ⟨rfl, hb⟩
          rw [hab]
          have hs5 : Below W.heap.size W z5 := hs4.trans (hb.mono hs4.size)
          refine ⟨(.int .i64 (-1)), rfl, hs5, ?_⟩
          clear hb
          go_frame
          refine ord_load (some 46) (.bool false) _ rfl rfl (by first | exact wanted_none rfl | exact wanted_if rfl rfl rfl rfl) hs5 (fun z hz => by go_simp) ?_
          go_frame
          refine ord_load (some 47) (.bool false) _ rfl rfl (by first | exact wanted_none rfl | exact wanted_if rfl rfl rfl rfl) hs5 (fun z hz => by go_simp) ?_
          go_frame
          refine ord_pick (some 48) (.bool false) _ _ _ _ false rfl rfl rfl rfl (by first | exact wanted_none rfl | exact wanted_if rfl rfl rfl rfl) hs5 rfl ?_
          go_frame
          refine ord_end ?_
          have HK4 := Lib.hid hs5
          clear hs0 hs1 hs2 hs3 hs4 hs5
          generalize z5 = v4 at *
          have HQ1 := Lib.hid (rangeAt_below HX1.out HK4.out HLT.out.1)
          have HQ2 := Lib.hid (rangeAt_below HX2.out HK4.out HLT.out.2.1)
          have HO1 := Lib.hid (vorder t1 t2 cs1 cs2 v4 (HY1.out.next HK4.out) (HY2.out.next HK4.out))
          rw [hab] at HO1
          go_wp2_with (first | ((with_reducible refine wl_sload 26 _ rfl ?hwq p1 0 cs1 _ rfl HQ1.out Tryd.underlying26 rfl ?hiq ?_); (case hwq => first | exact wanted_none rfl | exact wanted_if rfl rfl rfl rfl); (case hiq => rw [HC1.out]; kernel_rfl)) | ((with_reducible refine wl_sload 26 _ rfl ?hwr p2 0 cs2 _ rfl HQ2.out Tryd.underlying26 rfl ?hir ?_); (case hwr => first | exact wanted_none rfl | exact wanted_if rfl rfl rfl rfl); (case hir => rw [HC2.out]; kernel_rfl)) | (go_at_call 9; fail))
          refine HO1.out.mono ?_
          rintro e v5 ⟨rfl, hb⟩
          have HK5 := Lib.hid (HK4.out.trans (hb.mono HK4.out.size))
          clear hb HQ1 HQ2
          have HQ2 := Lib.hid (rangeAt_below HX2.out HK5.out HLT.out.2.1)
          have HQ3 := Lib.hid (rangeAt_below HX3.out HK5.out HLT.out.2.2)
          have HO2 := Lib.hid (vorder t2 t3 cs2 cs3 v5 (HY2.out.next HK5.out) (HY3.out.next HK5.out))
          go_wp2_with (first | ((with_reducible refine wl_sload 26 _ rfl ?hwq p2 0 cs2 _ rfl HQ2.out Tryd.underlying26 rfl ?hiq ?_); (case hwq => first | exact wanted_none rfl | exact wanted_if rfl rfl rfl rfl); (case hiq => rw [HC2.out]; kernel_rfl)) | ((with_reducible refine wl_sload 26 _ rfl ?hwr p3 0 cs3 _ rfl HQ3.out Tryd.underlying26 rfl ?hir ?_); (case hwr => first | exact wanted_none rfl | exact wanted_if rfl rfl rfl rfl); (case hir => rw [HC3.out]; kernel_rfl)) | (go_at_call 9; fail))
          refine HO2.out.mono ?_
          rintro e v6 ⟨rfl, hb⟩
          have HK6 := Lib.hid (HK5.out.trans (hb.mono HK5.out.size))
          clear hb HQ2 HQ3
          have HTR := Lib.hid (ordV_good.trans t1 t2 t3)
          have HAB : Hid (ordV t1 t2 ≤ 0) := Lib.hid (by rw [hab]; decide)
          have HQ1 := Lib.hid (rangeAt_below HX1.out HK6.out HLT.out.1)
          have HQ3 := Lib.hid (rangeAt_below HX3.out HK6.out HLT.out.2.2)
          have HO3 := Lib.hid (vorder t1 t3 cs1 cs3 v6 (HY1.out.next HK6.out) (HY3.out.next HK6.out))
          generalize ordV t2 t3 = y at *
          generalize ordV t1 t3 = zz at *
          by_cases hy : 0 < y
          · have t1 : decide (0 < y) = true := decide_eq_true hy
            go_wp2
            go_ret
            exact ⟨rfl, HBW.out.trans (HK6.out.mono HBW.out.size)⟩
          · have t1 : decide (0 < y) = false := decide_eq_false hy
            have hz : zz ≤ 0 := HTR.out HAB.out (by omega)
            have t2 : decide (zz ≤ 0) = true := decide_eq_true hz
            go_wp2_with (first | ((with_reducible refine wl_sload 26 _ rfl ?hwq p1 0 cs1 _ rfl HQ1.out Tryd.underlying26 rfl ?hiq ?_); (case hwq => first | exact wanted_none rfl | exact wanted_if rfl rfl rfl rfl); (case hiq => rw [HC1.out]; kernel_rfl)) | ((with_reducible refine wl_sload 26 _ rfl ?hwr p3 0 cs3 _ rfl HQ3.out Tryd.underlying26 rfl ?hir ?_); (case hwr => first | exact wanted_none rfl | exact wanted_if rfl rfl rfl rfl); (case hir => rw [HC3.out]; kernel_rfl)) | (go_at_call 9; fail))
            refine HO3.out.mono ?_
            rintro e v7 ⟨rfl, hb⟩
            have HK7 := Lib.hid (HK6.out.trans (hb.mono HK6.out.size))
            clear hb
            go_wp2
            go_ret
            exact ⟨rfl, HBW.out.trans (HK7.out.mono HBW.out.size)⟩
        · have hba : ordV t2 t1 = 0 := by omega
          have hsm : (ordV t1 t2 == 0) = true := by rw [hab]; rfl
          clear han HT3
          go_wp2_with (fail)
          refine wp_region_ord [(0, true), (1, true), (3, true), (4, true), (2, false), (5, false), (6, true), (7, true), (8, true), (9, true), (10, true), (11, false), (12, true), (13, true), (14, true), (15, true), (16, true), (18, true), (19, true), (17, false), (20, false), (21, true), (22, true), (23, true)]
            (fun z => Below W.heap.size W z) (by kernel_rfl) (by kernel_rfl) (by kernel_rfl) rfl (by intro c a d v w h; cases d <;> exact h) ?_
          have hs0 : Below W.heap.size W v3.drew := HK3.out.drew
          refine ord_load (some 25) (.agg ⟨cs1⟩) _ rfl rfl (by first | exact wanted_none rfl | exact wanted_if rfl rfl rfl rfl) hs0 (fun z hz => exec_sload 26 rfl p1 0 cs1 _ rfl (rangeAt_below HX1.out hz HLT.out.1) Tryd.underlying26 rfl (by rw [HC1.out]; kernel_rfl)) ?_
          go_frame
          refine ord_load (some 26) (.agg ⟨cs2⟩) _ rfl rfl (by first | exact wanted_none rfl | exact wanted_if rfl rfl rfl rfl) hs0 (fun z hz => exec_sload 26 rfl p2 0 cs2 _ rfl (rangeAt_below HX2.out hz HLT.out.2.1) Tryd.underlying26 rfl (by rw [HC2.out]; kernel_rfl)) ?_
          go_frame
          refine ord_load (some 28) (.agg ⟨cs2⟩) _ rfl rfl (by first | exact wanted_none rfl | exact wanted_if rfl rfl rfl rfl) hs0 (fun z hz => exec_sload 26 rfl p2 0 cs2 _ rfl (rangeAt_below HX2.out hz HLT.out.2.1) Tryd.underlying26 rfl (by rw [HC2.out]; kernel_rfl)) ?_
          go_frame
          refine ord_load (some 29) (.agg ⟨cs1⟩) _ rfl rfl (by first | exact wanted_none rfl | exact wanted_if rfl rfl rfl rfl) hs0 (fun z hz => exec_sload 26 rfl p1 0 cs1 _ rfl (rangeAt_below HX1.out hz HLT.out.1) Tryd.underlying26 rfl (by rw [HC1.out]; kernel_rfl)) ?_
          go_frame
          refine ord_to (some 27) 9 Tryd.func9 (by kernel_rfl) (by kernel_rfl) [.agg ⟨cs1⟩, .agg ⟨cs2⟩] _ _ _ rfl rfl rfl (by first | exact wanted_none rfl | exact wanted_if rfl rfl rfl rfl) rfl ?_
          refine (vorder t1 t2 cs1 cs2 _ (HY1.out.next hs0) (HY2.out.next hs0)).mono ?_
          rintro e z1 ⟨rfl, hb⟩
          rw [hab]
          have hs1 : Below W.heap.size W z1 := hs0.trans (hb.mono hs0.size)
          refine ⟨(.int .i64 (0)), rfl, hs1, ?_⟩
          clear hb
          go_frame
          refine ord_to (some 30) 9 Tryd.func9 (by kernel_rfl) (by kernel_rfl) [.agg ⟨cs2⟩, .agg ⟨cs1⟩] _ _ _ rfl rfl rfl (by first | exact wanted_none rfl | exact wanted_if rfl rfl rfl rfl) rfl ?_
          refine (vorder t2 t1 cs2 cs1 _ (HY2.out.next hs1) (HY1.out.next hs1)).mono ?_
          rintro e z2 ⟨rfl, hb⟩
          rw [hba]
          have hs2 : Below W.heap.size W z2 := hs1.trans (hb.mono hs1.size)
          refine ⟨(.int .i64 (0)), rfl, hs2, ?_⟩
          clear hb
          go_frame
          refine ord_load (some 31) (.int .i64 (0)) _ rfl rfl (by first | exact wanted_none rfl | exact wanted_if rfl rfl rfl rfl) hs2 (fun z hz => by go_simp; decide) ?_
          go_frame
          refine ord_load (some 32) (.bool false) _ rfl rfl (by first | exact wanted_none rfl | exact wanted_if rfl rfl rfl rfl) hs2 (fun z hz => by go_simp) ?_
          go_frame
          refine ord_move (some 33) (.bool false) _ _ rfl rfl rfl (by first | exact wanted_none rfl | exact wanted_if rfl rfl rfl rfl) hs2 rfl ?_
          go_frame
          refine ord_load (some 34) (.agg ⟨cs1⟩) _ rfl rfl (by first | exact wanted_none rfl | exact wanted_if rfl rfl rfl rfl) hs2 (fun z hz => exec_sload 26 rfl p1 0 cs1 _ rfl (rangeAt_below HX1.out hz HLT.out.1) Tryd.underlying26 rfl (by rw [HC1.out]; kernel_rfl)) ?_
          go_frame
          refine ord_load (some 35) (.agg ⟨cs1⟩) _ rfl rfl (by first | exact wanted_none rfl | exact wanted_if rfl rfl rfl rfl) hs2 (fun z hz => exec_sload 26 rfl p1 0 cs1 _ rfl (rangeAt_below HX1.out hz HLT.out.1) Tryd.underlying26 rfl (by rw [HC1.out]; kernel_rfl)) ?_
          go_frame
          refine ord_to (some 36) 9 Tryd.func9 (by kernel_rfl) (by kernel_rfl) [.agg ⟨cs1⟩, .agg ⟨cs1⟩] _ _ _ rfl rfl rfl (by first | exact wanted_none rfl | exact wanted_if rfl rfl rfl rfl) rfl ?_
          refine (vorder t1 t1 cs1 cs1 _ (HY1.out.next hs2) (HY1.out.next hs2)).mono ?_
          rintro e z3 ⟨rfl, hb⟩
          rw [haa]
          have hs3 : Below W.heap.size W z3 := hs2.trans (hb.mono hs2.size)
          refine ⟨(.int .i64 0), rfl, hs3, ?_⟩
          clear hb
          go_frame
          refine ord_load (some 37) (.bool false) _ rfl rfl (by first | exact wanted_none rfl | exact wanted_if rfl rfl rfl rfl) hs3 (fun z hz => by go_simp) ?_
          go_frame
          refine ord_pick (some 38) (.bool false) _ _ _ _ false rfl rfl rfl rfl (by first | exact wanted_none rfl | exact wanted_if rfl rfl rfl rfl) hs3 rfl ?_
          go_frame
          refine ord_move (some 39) (.bool false) _ _ rfl rfl rfl (by first | exact wanted_none rfl | exact wanted_if rfl rfl rfl rfl) hs3 rfl ?_
          go_frame
          refine ord_load (some 40) (.agg ⟨cs1⟩) _ rfl rfl (by first | exact wanted_none rfl | exact wanted_if rfl rfl rfl rfl) hs3 (fun z hz => exec_sload 26 rfl p1 0 cs1 _ rfl (rangeAt_below HX1.out hz HLT.out.1) Tryd.underlying26 rfl (by rw [HC1.out]; kernel_rfl)) ?_
          go_frame
          refine ord_load (some 41) (.agg ⟨cs2⟩) _ rfl rfl (by first | exact wanted_none rfl | exact wanted_if rfl rfl rfl rfl) hs3 (fun z hz => exec_sload 26 rfl p2 0 cs2 _ rfl (rangeAt_below HX2.out hz HLT.out.2.1) Tryd.underlying26 rfl (by rw [HC2.out]; kernel_rfl)) ?_
          go_frame
          refine ord_load (some 43) (.agg ⟨cs1⟩) _ rfl rfl (by first | exact wanted_none rfl | exact wanted_if rfl rfl rfl rfl) hs3 (fun z hz => exec_sload 26 rfl p1 0 cs1 _ rfl (rangeAt_below HX1.out hz HLT.out.1) Tryd.underlying26 rfl (by rw [HC1.out]; kernel_rfl)) ?_
          go_frame
          refine ord_load (some 44) (.agg ⟨cs2⟩) _ rfl rfl (by first | exact wanted_none rfl | exact wanted_if rfl rfl rfl rfl) hs3 (fun z hz => exec_sload 26 rfl p2 0 cs2 _ rfl (rangeAt_below HX2.out hz HLT.out.2.1) Tryd.underlying26 rfl (by rw [HC2.out]; kernel_rfl)) ?_
          go_frame
          refine ord_to (some 42) 10 Tryd.func10 (by kernel_rfl) (by kernel_rfl) [.agg ⟨cs1⟩, .agg ⟨cs2⟩] _ _ _ rfl rfl rfl (by first | exact wanted_none rfl | exact wanted_if rfl rfl rfl rfl) rfl ?_
          refine (vsame t1 t2 cs1 cs2 _ (HY1.out.next hs3) (HY2.out.next hs3)).mono ?_
          rintro e z4 ⟨rfl, hb⟩
          rw [hsm]
          have hs4 : Below W.heap.size W z4 := hs3.trans (hb.mono hs3.size)
          refine ⟨(.bool true), rfl, hs4, ?_⟩
          clear hb
          go_frame
          refine ord_to (some 45) 9 Tryd.func9 (by kernel_rfl) (by kernel_rfl) [.agg ⟨cs1⟩, .agg ⟨cs2⟩] _ _ _ rfl rfl rfl (by first | exact wanted_none rfl | exact wanted_if rfl rfl rfl rfl) rfl ?_
          refine (vorder t1 t2 cs1 cs2 _ (HY1.out.next hs4) (HY2.out.next hs4)).mono ?_
          rintro e z5 ⟨rfl, hb⟩
          rw [hab]
          have hs5 : Below W.heap.size W z5 := hs4.trans (hb.mono hs4.size)
          refine ⟨(.int .i64 (0)), rfl, hs5, ?_⟩
          clear hb
          go_frame
          refine ord_load (some 46) (.bool true) _ rfl rfl (by first | exact wanted_none rfl | exact wanted_if rfl rfl rfl rfl) hs5 (fun z hz => by go_simp) ?_
          go_frame
          refine ord_load (some 47) (.bool false) _ rfl rfl (by first | exact wanted_none rfl | exact wanted_if rfl rfl rfl rfl) hs5 (fun z hz => by go_simp) ?_
          go_frame
          refine ord_pick (some 48) (.bool false) _ _ _ _ false rfl rfl rfl rfl (by first | exact wanted_none rfl | exact wanted_if rfl rfl rfl rfl) hs5 rfl ?_
          go_frame
          refine ord_end ?_
          have HK4 := Lib.hid hs5
          clear hs0 hs1 hs2 hs3 hs4 hs5
          generalize z5 = v4 at *
          have HQ1 := Lib.hid (rangeAt_below HX1.out HK4.out HLT.out.1)
          have HQ2 := Lib.hid (rangeAt_below HX2.out HK4.out HLT.out.2.1)
          have HO1 := Lib.hid (vorder t1 t2 cs1 cs2 v4 (HY1.out.next HK4.out) (HY2.out.next HK4.out))
          rw [hab] at HO1
          go_wp2_with (first | ((with_reducible refine wl_sload 26 _ rfl ?hwq p1 0 cs1 _ rfl HQ1.out Tryd.underlying26 rfl ?hiq ?_); (case hwq => first | exact wanted_none rfl | exact wanted_if rfl rfl rfl rfl); (case hiq => rw [HC1.out]; kernel_rfl)) | ((with_reducible refine wl_sload 26 _ rfl ?hwr p2 0 cs2 _ rfl HQ2.out Tryd.underlying26 rfl ?hir ?_); (case hwr => first | exact wanted_none rfl | exact wanted_if rfl rfl rfl rfl); (case hir => rw [HC2.out]; kernel_rfl)) | (go_at_call 9; fail))
          refine HO1.out.mono ?_
          rintro e v5 ⟨rfl, hb⟩
          have HK5 := Lib.hid (HK4.out.trans (hb.mono HK4.out.size))
          clear hb HQ1 HQ2
          have HQ2 := Lib.hid (rangeAt_below HX2.out HK5.out HLT.out.2.1)
          have HQ3 := Lib.hid (rangeAt_below HX3.out HK5.out HLT.out.2.2)
          have HO2 := Lib.hid (vorder t2 t3 cs2 cs3 v5 (HY2.out.next HK5.out) (HY3.out.next HK5.out))
          go_wp2_with (first | ((with_reducible refine wl_sload 26 _ rfl ?hwq p2 0 cs2 _ rfl HQ2.out Tryd.underlying26 rfl ?hiq ?_); (case hwq => first | exact wanted_none rfl | exact wanted_if rfl rfl rfl rfl); (case hiq => rw [HC2.out]; kernel_rfl)) | ((with_reducible refine wl_sload 26 _ rfl ?hwr p3 0 cs3 _ rfl HQ3.out Tryd.underlying26 rfl ?hir ?_); (case hwr => first | exact wanted_none rfl | exact wanted_if rfl rfl rfl rfl); (case hir => rw [HC3.out]; kernel_rfl)) | (go_at_call 9; fail))
          refine HO2.out.mono ?_
          rintro e v6 ⟨rfl, hb⟩
          have HK6 := Lib.hid (HK5.out.trans (hb.mono HK5.out.size))
          clear hb HQ2 HQ3
          have HTR := Lib.hid (ordV_good.trans t1 t2 t3)
          have HAB : Hid (ordV t1 t2 ≤ 0) := Lib.hid (by rw [hab]; decide)
          have HQ1 := Lib.hid (rangeAt_below HX1.out HK6.out HLT.out.1)
          have HQ3 := Lib.hid (rangeAt_below HX3.out HK6.out HLT.out.2.2)
          have HO3 := Lib.hid (vorder t1 t3 cs1 cs3 v6 (HY1.out.next HK6.out) (HY3.out.next HK6.out))
          generalize ordV t2 t3 = y at *
          generalize ordV t1 t3 = zz at *
          by_cases hy : 0 < y
          · have t1 : decide (0 < y) = true := decide_eq_true hy
            go_wp2
            go_ret
            exact ⟨rfl, HBW.out.trans (HK6.out.mono HBW.out.size)⟩
          · have t1 : decide (0 < y) = false := decide_eq_false hy
            have hz : zz ≤ 0 := HTR.out HAB.out (by omega)
            have t2 : decide (zz ≤ 0) = true := decide_eq_true hz
            go_wp2_with (first | ((with_reducible refine wl_sload 26 _ rfl ?hwq p1 0 cs1 _ rfl HQ1.out Tryd.underlying26 rfl ?hiq ?_); (case hwq => first | exact wanted_none rfl | exact wanted_if rfl rfl rfl rfl); (case hiq => rw [HC1.out]; kernel_rfl)) | ((with_reducible refine wl_sload 26 _ rfl ?hwr p3 0 cs3 _ rfl HQ3.out Tryd.underlying26 rfl ?hir ?_); (case hwr => first | exact wanted_none rfl | exact wanted_if rfl rfl rfl rfl); (case hir => rw [HC3.out]; kernel_rfl)) | (go_at_call 9; fail))
            refine HO3.out.mono ?_
            rintro e v7 ⟨rfl, hb⟩
            have HK7 := Lib.hid (HK6.out.trans (hb.mono HK6.out.size))
            clear hb
            go_wp2
            go_ret
            exact ⟨rfl, HBW.out.trans (HK7.out.mono HBW.out.size)⟩
        · have hba : ordV t2 t1 = -1 := by omega
          have hsm : (ordV t1 t2 == 0) = false := by rw [hab]; rfl
          clear han HT3
          go_wp2_with (fail)
          refine wp_region_ord [(0, true), (1, true), (3, true), (4, true), (2, false), (5, false), (6, true), (7, true), (8, true), (9, true), (10, true), (11, false), (12, true), (13, true), (14, true), (15, true), (16, true), (18, true), (19, true), (17, false), (20, false), (21, true), (22, true), (23, true)]
            (fun z => Below W.heap.size W z) (by kernel_rfl) (by kernel_rfl) (by kernel_rfl) rfl (by intro c a d v w h; cases d <;> exact h) ?_
          have hs0 : Below W.heap.size W v3.drew := HK3.out.drew
          refine ord_load (some 25) (.agg ⟨cs1⟩) _ rfl rfl (by first | exact wanted_none rfl | exact wanted_if rfl rfl rfl rfl) hs0 (fun z hz => exec_sload 26 rfl p1 0 cs1 _ rfl (rangeAt_below HX1.out hz HLT.out.1) Tryd.underlying26 rfl (by rw [HC1.out]; kernel_rfl)) ?_
          go_frame
          refine ord_load (some 26) (.agg ⟨cs2⟩) _ rfl rfl (by first | exact wanted_none rfl | exact wanted_if rfl rfl rfl rfl) hs0 (fun z hz => exec_sload 26 rfl p2 0 cs2 _ rfl (rangeAt_below HX2.out hz HLT.out.2.1) Tryd.underlying26 rfl (by rw [HC2.out]; kernel_rfl)) ?_
          go_frame
          refine ord_load (some 28) (.agg ⟨cs2⟩) _ rfl rfl (by first | exact wanted_none rfl | exact wanted_if rfl rfl rfl rfl) hs0 (fun z hz => exec_sload 26 rfl p2 0 cs2 _ rfl (rangeAt_below HX2.out hz HLT.out.2.1) Tryd.underlying26 rfl (by rw [HC2.out]; kernel_rfl)) ?_
          go_frame
          refine ord_load (some 29) (.agg ⟨cs1⟩) _ rfl rfl (by first | exact wanted_none rfl | exact wanted_if rfl rfl rfl rfl) hs0 (fun z hz => exec_sload 26 rfl p1 0 cs1 _ rfl (rangeAt_below HX1.out hz HLT.out.1) Tryd.underlying26 rfl (by rw [HC1.out]; kernel_rfl)) ?_
          go_frame
          refine ord_to (some 27) 9 Tryd.func9 (by kernel_rfl) (by kernel_rfl) [.agg ⟨cs1⟩, .agg ⟨cs2⟩] _ _ _ rfl rfl rfl (by first | exact wanted_none rfl | exact wanted_if rfl rfl rfl rfl) rfl ?_
          refine (vorder t1 t2 cs1 cs2 _ (HY1.out.next hs0) (HY2.out.next hs0)).mono ?_
          rintro e z1 ⟨rfl, hb⟩
          rw [hab]
          have hs1 : Below W.heap.size W z1 := hs0.trans (hb.mono hs0.size)
          refine ⟨(.int .i64 (1)), rfl, hs1, ?_⟩
          clear hb
          go_frame
          refine ord_to (some 30) 9 Tryd.func9 (by kernel_rfl) (by kernel_rfl) [.agg ⟨cs2⟩, .agg ⟨cs1⟩] _ _ _ rfl rfl rfl (by first | exact wanted_none rfl | exact wanted_if rfl rfl rfl rfl) rfl ?_
          refine (vorder t2 t1 cs2 cs1 _ (HY2.out.next hs1) (HY1.out.next hs1)).mono ?_
          rintro e z2 ⟨rfl, hb⟩
          rw [hba]
          have hs2 : Below W.heap.size W z2 := hs1.trans (hb.mono hs1.size)
          refine ⟨(.int .i64 (-1)), rfl, hs2, ?_⟩
          clear hb
          go_frame
          refine ord_load (some 31) (.int .i64 (1)) _ rfl rfl (by first | exact wanted_none rfl | exact wanted_if rfl rfl rfl rfl) hs2 (fun z hz => by go_simp; decide) ?_
          go_frame
          refine ord_load (some 32) (.bool false) _ rfl rfl (by first | exact wanted_none rfl | exact wanted_if rfl rfl rfl rfl) hs2 (fun z hz => by go_simp) ?_
          go_frame
          refine ord_move (some 33) (.bool false) _ _ rfl rfl rfl (by first | exact wanted_none rfl | exact wanted_if rfl rfl rfl rfl) hs2 rfl ?_
          go_frame
          refine ord_load (some 34) (.agg ⟨cs1⟩) _ rfl rfl (by first | exact wanted_none rfl | exact wanted_if rfl rfl rfl rfl) hs2 (fun z hz => exec_sload 26 rfl p1 0 cs1 _ rfl (rangeAt_below HX1.out hz HLT.out.1) Tryd.underlying26 rfl (by rw [HC1.out]; kernel_rfl)) ?_
          go_frame
          refine ord_load (some 35) (.agg ⟨cs1⟩) _ rfl rfl (by first | exact wanted_none rfl | exact wanted_if rfl rfl rfl rfl) hs2 (fun z hz => exec_sload 26 rfl p1 0 cs1 _ rfl (rangeAt_below HX1.out hz HLT.out.1) Tryd.underlying26 rfl (by rw [HC1.out]; kernel_rfl)) ?_
          go_frame
          refine ord_to (some 36) 9 Tryd.func9 (by kernel_rfl) (by kernel_rfl) [.agg ⟨cs1⟩, .agg ⟨cs1⟩] _ _ _ rfl rfl rfl (by first | exact wanted_none rfl | exact wanted_if rfl rfl rfl rfl) rfl ?_
          refine (vorder t1 t1 cs1 cs1 _ (HY1.out.next hs2) (HY1.out.next hs2)).mono ?_
          rintro e z3 ⟨rfl, hb⟩
          rw [haa]
          have hs3 : Below W.heap.size W z3 := hs2.trans (hb.mono hs2.size)
          refine ⟨(.int .i64 0), rfl, hs3, ?_⟩
          clear hb
          go_frame
          refine ord_load (some 37) (.bool false) _ rfl rfl (by first | exact wanted_none rfl | exact wanted_if rfl rfl rfl rfl) hs3 (fun z hz => by go_simp) ?_
          go_frame
          refine ord_pick (some 38) (.bool false) _ _ _ _ false rfl rfl rfl rfl (by first | exact wanted_none rfl | exact wanted_if rfl rfl rfl rfl) hs3 rfl ?_
          go_frame
          refine ord_move (some 39) (.bool false) _ _ rfl rfl rfl (by first | exact wanted_none rfl | exact wanted_if rfl rfl rfl rfl) hs3 rfl ?_
          go_frame
          refine ord_load (some 40) (.agg ⟨cs1⟩) _ rfl rfl (by first | exact wanted_none rfl | exact wanted_if rfl rfl rfl rfl) hs3 (fun z hz => exec_sload 26 rfl p1 0 cs1 _ rfl (rangeAt_below HX1.out hz HLT.out.1) Tryd.underlying26 rfl (by rw [HC1.out]; kernel_rfl)) ?_
          go_frame
          refine ord_load (some 41) (.agg ⟨cs2⟩) _ rfl rfl (by first | exact wanted_none rfl | exact wanted_if rfl rfl rfl rfl) hs3 (fun z hz => exec_sload 26 rfl p2 0 cs2 _ rfl (rangeAt_below HX2.out hz HLT.out.2.1) Tryd.underlying26 rfl (by rw [HC2.out]; kernel_rfl)) ?_
          go_frame
          refine ord_load (some 43) (.agg ⟨cs1⟩) _ rfl rfl (by first | exact wanted_none rfl | exact wanted_if rfl rfl rfl rfl) hs3 (fun z hz => exec_sload 26 rfl p1 0 cs1 _ rfl (rangeAt_below HX1.out hz HLT.out.1) Tryd.underlying26 rfl (by rw [HC1.out]; kernel_rfl)) ?_
          go_frame
          refine ord_load (some 44) (.agg ⟨cs2⟩) _ rfl rfl (by first | exact wanted_none rfl | exact wanted_if rfl rfl rfl rfl) hs3 (fun z hz => exec_sload 26 rfl p2 0 cs2 _ rfl (rangeAt_below HX2.out hz HLT.out.2.1) Tryd.underlying26 rfl (by rw [HC2.out]; kernel_rfl)) ?_
          go_frame
          refine ord_to (some 42) 10 Tryd.func10 (by kernel_rfl) (by kernel_rfl) [.agg ⟨cs1⟩, .agg ⟨cs2⟩] _ _ _ rfl rfl rfl (by first | exact wanted_none rfl | exact wanted_if rfl rfl rfl rfl) rfl ?_
          refine (vsame t1 t2 cs1 cs2 _ (HY1.out.next hs3) (HY2.out.next hs3)).mono ?_
          rintro e z4 ⟨rfl, hb⟩
          rw [hsm]
          have hs4 : Below W.heap.size W z4 := hs3.trans (hb.mono hs3.size)
          refine ⟨(.bool false), rfl, hs4, ?_⟩
          clear hb
          go_frame
          refine ord_to (some 45) 9 Tryd.func9 (by kernel_rfl) (by kernel_rfl) [.agg ⟨cs1⟩, .agg ⟨cs2⟩] _ _ _ rfl rfl rfl (by first | exact wanted_none rfl | exact wanted_if rfl rfl rfl rfl) rfl ?_
          refine (vorder t1 t2 cs1 cs2 _ (HY1.out.next hs4) (HY2.out.next hs4)).mono ?_
          rintro e z5 ⟨rfl, hb⟩
          rw [hab]
          have hs5 : Below W.heap.size W z5 := hs4.trans (hb.mono hs4.size)
          refine ⟨(.int .i64 (1)), rfl, hs5, ?_⟩
          clear hb
          go_frame
          refine ord_load (some 46) (.bool false) _ rfl rfl (by first | exact wanted_none rfl | exact wanted_if rfl rfl rfl rfl) hs5 (fun z hz => by go_simp) ?_
          go_frame
          refine ord_load (some 47) (.bool false) _ rfl rfl (by first | exact wanted_none rfl | exact wanted_if rfl rfl rfl rfl) hs5 (fun z hz => by go_simp) ?_
          go_frame
          refine ord_pick (some 48) (.bool false) _ _ _ _ false rfl rfl rfl rfl (by first | exact wanted_none rfl | exact wanted_if rfl rfl rfl rfl) hs5 rfl ?_
          go_frame
          refine ord_end ?_
          have HK4 := Lib.hid hs5
          clear hs0 hs1 hs2 hs3 hs4 hs5
          generalize z5 = v4 at *
          have HQ1 := Lib.hid (rangeAt_below HX1.out HK4.out HLT.out.1)
          have HQ2 := Lib.hid (rangeAt_below HX2.out HK4.out HLT.out.2.1)
          have HO1 := Lib.hid (vorder t1 t2 cs1 cs2 v4 (HY1.out.next HK4.out) (HY2.out.next HK4.out))
          rw [hab] at HO1
          go_wp2_with (first | ((with_reducible refine wl_sload 26 _ rfl ?hwq p1 0 cs1 _ rfl HQ1.out Tryd.underlying26 rfl ?hiq ?_); (case hwq => first | exact wanted_none rfl | exact wanted_if rfl rfl rfl rfl); (case hiq => rw [HC1.out]; kernel_rfl)) | ((with_reducible refine wl_sload 26 _ rfl ?hwr p2 0 cs2 _ rfl HQ2.out Tryd.underlying26 rfl ?hir ?_); (case hwr => first | exact wanted_none rfl | exact wanted_if rfl rfl rfl rfl); (case hir => rw [HC2.out]; kernel_rfl)) | (go_at_call 9; fail))
          refine HO1.out.mono ?_
          rintro e v5 ⟨rfl, hb⟩
          have HK5 := Lib.hid (HK4.out.trans (hb.mono HK4.out.size))
          clear hb HQ1 HQ2
          go_wp2
          go_ret
          exact ⟨rfl, HBW.out.trans (HK5.out.mono HBW.out.size)⟩

noncomputable def valueRowWorld (os : Os) : World :=
  { World.holding Tryd.prog os ⟨#[], #[], []⟩ with heap := ((((World.holding Tryd.prog os ⟨#[], #[], []⟩).heap).modify 2 (fun x => match x with | .cells _ t frozen => .cells #[.int .u64 1, .int .u64 10, .int .u64 100, .int .u64 1000, .int .u64 10000, .int .u64 100000, .int .u64 1000000, .int .u64 10000000, .int .u64 100000000, .int .u64 1000000000, .int .u64 10000000000, .int .u64 100000000000, .int .u64 1000000000000, .int .u64 10000000000000, .int .u64 100000000000000, .int .u64 1000000000000000, .int .u64 10000000000000000, .int .u64 100000000000000000, .int .u64 1000000000000000000, .int .u64 10000000000000000000] t frozen | o => o)).modify 3 (fun x => match x with | .cells _ t frozen => .cells #[.int .u8 0, .int .u8 1, .int .u8 28, .int .u8 2, .int .u8 29, .int .u8 14, .int .u8 24, .int .u8 3, .int .u8 30, .int .u8 22, .int .u8 20, .int .u8 15, .int .u8 25, .int .u8 17, .int .u8 4, .int .u8 8, .int .u8 31, .int .u8 27, .int .u8 13, .int .u8 23, .int .u8 21, .int .u8 19, .int .u8 16, .int .u8 7, .int .u8 26, .int .u8 12, .int .u8 18, .int .u8 6, .int .u8 11, .int .u8 5, .int .u8 10, .int .u8 9] t frozen | o => o)).modify 4 (fun x => match x with | .cells _ t frozen => .cells #[.int .u8 0, .int .u8 1, .int .u8 56, .int .u8 2, .int .u8 57, .int .u8 49, .int .u8 28, .int .u8 3, .int .u8 61, .int .u8 58, .int .u8 42, .int .u8 50, .int .u8 38, .int .u8 29, .int .u8 17, .int .u8 4, .int .u8 62, .int .u8 47, .int .u8 59, .int .u8 36, .int .u8 45, .int .u8 43, .int .u8 51, .int .u8 22, .int .u8 53, .int .u8 39, .int .u8 33, .int .u8 30, .int .u8 24, .int .u8 18, .int .u8 12, .int .u8 5, .int .u8 63, .int .u8 55, .int .u8 48, .int .u8 27, .int .u8 60, .int .u8 41, .int .u8 37, .int .u8 16, .int .u8 46, .int .u8 35, .int .u8 44, .int .u8 21, .int .u8 52, .int .u8 32, .int .u8 23, .int .u8 11, .int .u8 54, .int .u8 26, .int .u8 40, .int .u8 15, .int .u8 34, .int .u8 20, .int .u8 31, .int .u8 10, .int .u8 25, .int .u8 14, .int .u8 19, .int .u8 9, .int .u8 13, .int .u8 8, .int .u8 7, .int .u8 6] t frozen | o => o) }
set_option maxRecDepth 100000 in
theorem valueRow_laid (os : Os) : laidMet Tryd.prog Rows.valueRowRow.laid ((valueRowWorld os).forCall (fun _ _ => 0) ⟨#[], #[.agg #[.int .i64 0, .int .i64 0, .float .f64 0, .string .empty, .slice none 0 0, .slice none 0 0], .agg #[.int .i64 0, .int .i64 0, .float .f64 0, .string .empty, .slice none 0 0, .slice none 0 0], .agg #[.int .i64 0, .int .i64 0, .float .f64 0, .string .empty, .slice none 0 0, .slice none 0 0]], []⟩).memory :=
  laidMet_of_run' 8 (by kernel_rfl) (by kernel_rfl)
set_option maxRecDepth 100000 in
theorem valueRow_reads (os : Os) {H : Type} (enc : TypeId × Value → H) : ∃ x, DataW.whole enc Tryd.prog ((valueRowWorld os).forCall (fun _ _ => 0) ⟨#[], #[.agg #[.int .i64 0, .int .i64 0, .float .f64 0, .string .empty, .slice none 0 0, .slice none 0 0], .agg #[.int .i64 0, .int .i64 0, .float .f64 0, .string .empty, .slice none 0 0, .slice none 0 0], .agg #[.int .i64 0, .int .i64 0, .float .f64 0, .string .empty, .slice none 0 0, .slice none 0 0]], []⟩).memory Tryd.f3.params.toList Rows.valueRowSpec.vars false (#[.agg #[.int .i64 0, .int .i64 0, .float .f64 0, .string .empty, .slice none 0 0, .slice none 0 0], .agg #[.int .i64 0, .int .i64 0, .float .f64 0, .string .empty, .slice none 0 0, .slice none 0 0], .agg #[.int .i64 0, .int .i64 0, .float .f64 0, .string .empty, .slice none 0 0, .slice none 0 0]] : Array Value).toList 8 = some x :=
  Option.isSome_iff_exists.1 (by kernel_rfl)
set_option maxRecDepth 100000 in
theorem valueRow_contract (H : Type) (enc : TypeId × Value → H) (W : World) (base : Nat) (args : Array Value) (ds gs : List (DataW H)) (before : List MemPlace)
    (hval0 : ∀ (j : Nat) t v, Tryd.f3.params[j]? = some t → args[j]? = some v → Value.okWide Tryd.prog W .any base t v)
    (hW : DataW.Whole enc Tryd.prog Tryd.f3.params.toList Rows.valueRowSpec.vars false W args.toList ds gs before) :
    Calls Tryd.prog 3 args W fun e W' => ∃ v, e = .returned v ∧ Rows.valueRowSpec.post enc Tryd.prog Tryd.f3 false true false false W args v W' := by
  have hval : ∀ (j : Nat) t v, Tryd.f3.params[j]? = some t → args[j]? = some v → Value.okWide Tryd.prog W .any base t v := hval0
  have hW' := hW
  obtain ⟨p, q, hA0, hV, rfl, hfz, hnd⟩ := hW
  have hA : DataW.TrodAll enc Tryd.prog W 0 (fun _ => true) true Tryd.f3.params.toList args.toList ds p := hA0
  rw [Tryd.params3] at hA hval
  obtain ⟨v0, vs0, d0, ds0, p0, q0, hargs, rfl, rfl, h0, r0⟩ := trodAll_cons hA
  obtain ⟨v1, vs1, d1, ds1, p1, q1, rfl, rfl, rfl, h1, r1⟩ := trodAll_cons r0
  obtain ⟨v2, vs2, d2, ds2, p2, q2, rfl, rfl, rfl, h2, r2⟩ := trodAll_cons r1
  obtain ⟨rfl, rfl, rfl⟩ := trodAll_nil r2
  obtain rfl : args = #[v0, v1, v2] := by cases args; simp_all
  obtain ⟨rfl, rfl⟩ := trodVars_none hV
  have k0 := h0
  have lt0 := lt_of_trod k0
  obtain ⟨cs0, m0, rfl, hm0⟩ := val_arg (hval 0 26 v0 rfl rfl) h0
  have k1 := h1
  have lt1 := lt_of_trod k1
  obtain ⟨cs1, m1, rfl, hm1⟩ := val_arg (hval 1 26 v1 rfl rfl) h1
  have k2 := h2
  have lt2 := lt_of_trod k2
  obtain ⟨cs2, m2, rfl, hm2⟩ := val_arg (hval 2 26 v2 rfl rfl) h2
  clear hA0 hval0
  refine (valueRow_walk W cs0 m0 hm0 cs1 m1 hm1 cs2 m2 hm2).mono fun e W' ⟨he, bel⟩ => ?_
  subst he
  exact ⟨_, rfl, _, _, _, [], _, [], hW', trodAll_mk1 (shut_bool Tryd.underlying4 _), (trodAll_cons_mk (Below.trod laidOut (by kernel_rfl) (of_decide_eq_true (by kernel_rfl)) k0 bel lt0) (trodAll_cons_mk (Below.trod laidOut (by kernel_rfl) (of_decide_eq_true (by kernel_rfl)) k1 bel lt1) (trodAll_cons_mk (Below.trod laidOut (by kernel_rfl) (of_decide_eq_true (by kernel_rfl)) k2 bel lt2) trodAll_mk0))), rfl, bel.frame _, fun h => by cases h⟩
set_option maxRecDepth 100000 in
theorem valueRow_lifted (os : Os) (started : os.Started) (H : Type) (enc : TypeId × Value → H) (F : Stop.Interp) :
    ReturnsInHanded {} Tryd.checked os 3 .any ((OpenSpec.ofChange Rows.valueRowSpec).preRow enc Tryd.prog Tryd.f3 Rows.valueRowRow.domain false Rows.valueRowRow.laid) (((OpenSpec.ofChange Rows.valueRowSpec).at F).post enc Tryd.prog Tryd.f3 false true false false) := by
  obtain ⟨x, hx⟩ := valueRow_reads os enc
  refine returnsInHanded_of_row (C := Tryd.checked) (s := OpenSpec.ofChange Rows.valueRowSpec) own started (by kernel_rfl) Tryd.func3
    (witness_row_at (enc := enc) (C := Tryd.checked) false (valueRowWorld os) #[.agg #[.int .i64 0, .int .i64 0, .float .f64 0, .string .empty, .slice none 0 0, .slice none 0 0], .agg #[.int .i64 0, .int .i64 0, .float .f64 0, .string .empty, .slice none 0 0, .slice none 0 0], .agg #[.int .i64 0, .int .i64 0, .float .f64 0, .string .empty, .slice none 0 0, .slice none 0 0]] rfl (by kernel_rfl) (by kernel_rfl) (by kernel_rfl)
      (OpenSpec.preRow_of_cond 8 hx rfl (fun k hk => by cases hk) (by kernel_rfl) (valueRow_laid os))) ?_
  intro W base args ds gs before hval hW _ _ _ hL _ _
  exact valueRow_contract H enc W base args ds gs before hval hW
theorem valueRow_said : Rows.ValueRowSaid :=
  OpenClaim.holds_of_cond 3 Tryd.f3 rfl rfl rfl rfl rfl rfl rfl ⟨rfl, rfl, rfl, rfl, rfl⟩ rfl rfl rfl rfl rfl (by kernel_rfl) Tryd.func3 (by kernel_rfl)
    (of_decide_eq_true (by kernel_rfl)) (by unfold Func.isWrapper; first | (rw [if_pos (by decide +kernel)]; kernel_rfl) | (rw [if_neg (by decide +kernel)]; exact ⟨rfl, rfl⟩))
    (fun os started H enc _ F => by rw [OpenClaim.pre_eq_preRow]; exact valueRow_lifted os started H enc F)
theorem valueRow_plain (f : FuncId) (fn : Func) (hf : Tryd.pinned.checked.prog.funcNamed "bascule/basculelaw04.ValueRow" = some f) (hfn : Tryd.pinned.checked.prog.funcs[f]? = some fn) :
    false = Tryd.pinned.checked.prog.looks [] ∧ ∀ (j : Nat) t, fn.params[j]? = some t → Tryd.pinned.checked.prog.wantsStandIn t = false := by
  obtain rfl : f = 3 := Option.some.inj ((show Tryd.prog.funcNamed "bascule/basculelaw04.ValueRow" = some 3 by kernel_rfl).symm.trans hf) |>.symm
  obtain rfl : fn = Tryd.f3 := (Option.some.inj (Tryd.func3.symm.trans hfn)).symm
  refine ⟨by kernel_rfl, fun j t ht => ?_⟩
  rw [Tryd.params3] at ht
  obtain rfl : t = 26 := by simpa using Array.mem_of_getElem? ht
  exact (show Tryd.prog.wantsStandIn 26 = false by kernel_rfl)
/-- the card -/
theorem valueRow_proved : Rows.ValueRowCardSaid :=
  Claim7.holds_tied_plain_at .later [] _ _ _ _ valueRow_said (fun _ h => by cases h) (by kernel_rfl) (fun _ h => by cases h) valueRow_row_tie rfl ⟨rfl, rfl⟩ (by kernel_rfl) rfl valueRow_plain (by kernel_rfl)
#print axioms valueRow_proved
end Go.Proofs.YtieciegfloldhaaDoor
