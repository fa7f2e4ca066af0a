/- THE STATEMENT ValueTypes is proved: for every value, type and string the Go function ValueTypes returns true, and its arguments read afterwards as before; without conditions. -/
import Derived.Test.YtieciegfloldhaaGreatDoorRFits
import Derived.Test.YtieciegfloldhaaGreatDoorVAwake
import Derived.Test.YtieciegfloldhaaGreatDoorOpenV
import Derived.Test.YtieciegfloldhaaGreatDoorCards
import Derived.Test.YtieciegfloldhaaGreatDoorTie
import Derived.WalkKit
import Derived.Deep.DeepHandedRow
import Derived.SevenTiedAt
import Derived.Lib.LaidTab
namespace Go.Proofs.YtieciegfloldhaaGreatDoor
open Go.ChangeShapes Go.WideShapes Go.ChangeAt Go.RowKit Go
set_option linter.unusedVariables false

set_option maxHeartbeats 8000000 in
set_option maxRecDepth 100000 in
theorem valueTypes_walk (w : World) (cs1 : List Value) (t1 : VT) (hv1 : ValAt w w.heap.size cs1 t1) (cs2 : List Value) (t2 : TT) (hv2 : TypAt w w.heap.size cs2 t2) (s : ByteArray) :
    Calls Tryz.prog 4 #[.agg ⟨cs1⟩, .agg ⟨cs2⟩, .string s] w fun e w' => e = .returned (.bool true) ∧ Below w.heap.size w w' := by
  have HC1 := Lib.hid (val_one hv1).1
  have HV1 := Lib.hid hv1
  have HC2 := Lib.hid (typ_one hv2).1
  have HV2 := Lib.hid hv2
  clear hv1 hv2
  go_enter Tryz.func4, Tryz.ntmps4
  go_upto_region 1 with (fail)
  have HR1 := Lib.hid (range_box w cs1 26)
  have HB1 := Lib.hid (box_below w (.cells ⟨cs1⟩ 26))
  have HS1 : Hid ((w.alloc (.cells ⟨cs1⟩ 26)).heap.size = w.heap.size + 1) := Lib.hid (by simp)
  generalize w.alloc (.cells ⟨cs1⟩ 26) = U1 at *
  have HR2 := Lib.hid (range_box U1 cs2 36)
  have HB2 := Lib.hid (box_below U1 (.cells ⟨cs2⟩ 36))
  have HS2 : Hid ((U1.alloc (.cells ⟨cs2⟩ 36)).heap.size = U1.heap.size + 1) := Lib.hid (by simp)
  generalize U1.alloc (.cells ⟨cs2⟩ 36) = U2 at *
  obtain ⟨p1, hp1⟩ : ∃ p1, w.heap.size = p1 := ⟨_, rfl⟩
  obtain ⟨p2, hp2⟩ : ∃ p2, p1 + 1 = p2 := ⟨_, rfl⟩
  rw [hp1, hp2]
  have e1 : w.heap.size = p1 := by exact hp1
  have e2 : U1.heap.size = p2 := by have := HS1.out; omega
  have eW : U2.heap.size = p2 + 1 := by have := HS2.out; omega
  have HZ2 := Lib.hid (Below.refl U2.heap.size U2)
  have HZ1 : Hid (Below U1.heap.size U1 U2) := Lib.hid (HB2.out.trans (HZ2.out.mono (by have := HS2.out; omega)))
  have HX1 : Hid (U2.rangeAt p1 0 cs1) := Lib.hid (by have h := rangeAt_below HR1.out HZ1.out (show w.heap.size < U1.heap.size by have := HS1.out; omega); rw [e1] at h; exact h)
  have HX2 : Hid (U2.rangeAt p2 0 cs2) := Lib.hid (by have h := rangeAt_below HR2.out HZ2.out (show U1.heap.size < U2.heap.size by have := HS2.out; omega); rw [e2] at h; exact h)
  have HBW : Hid (Below w.heap.size w U2) := Lib.hid (HB1.out.trans (HZ1.out.mono (by have := HS1.out; omega)))
  have HY1 : Hid (ValAt U2 U2.heap.size cs1 t1) := Lib.hid (HV1.out.next HBW.out)
  have HY2 : Hid (TypAt U2 U2.heap.size cs2 t2) := Lib.hid (HV2.out.next HBW.out)
  have HLT : Hid (p1 < U2.heap.size ∧ p2 < U2.heap.size) := Lib.hid (by omega)
  clear HR1 HB1 HS1 HZ1 HV1 e1 hp1 HR2 HB2 HS2 HZ2 HV2 e2 hp2 eW
  obtain ⟨W, rfl⟩ : ∃ W, W = U2 := ⟨_, rfl⟩

  go_wp2_with (go_at_call 5; fail)
  refine (awake04 _).mono ?_
  rintro e v0 ⟨rfl, hb⟩
  have HK0 := Lib.hid hb
  clear hb
  have HRI1 := Lib.hid (rangeAt_below HX1.out HK0.out HLT.out.1)
  go_wp2_with (first | ((with_reducible refine wl_sload 26 _ rfl ?hwg p1 0 cs1 _ rfl HRI1.out Tryz.underlying26 rfl ?hig ?_); (case hwg => first | exact wanted_none rfl | exact wanted_if rfl rfl rfl rfl); (case hig => rw [HC1.out]; kernel_rfl)) | (go_at_call 6; fail))
  refine (vsmall t1 cs1 v0 (HY1.out.next HK0.out)).mono ?_
  rintro e v1 ⟨b, rfl, hb⟩
  have HK1 := Lib.hid (HK0.out.trans (hb.mono HK0.out.size))
  clear hb HRI1
  cases b with
  | false =>
    go_wp2_with (go_at_call 5; fail)
    refine (awake04 _).mono ?_
    rintro e wf ⟨rfl, hbf⟩
    have HBF := Lib.hid hbf
    clear hbf
    go_wp2
    go_ret
    exact ⟨rfl, HBW.out.trans ((HK1.out.trans (HBF.out.mono HK1.out.size)).mono HBW.out.size)⟩
  | true =>
    have HRI2 := Lib.hid (rangeAt_below HX2.out HK1.out HLT.out.2)
    go_wp2_with (first | ((with_reducible refine wl_sload 36 _ rfl ?hwg p2 0 cs2 _ rfl HRI2.out Tryz.underlying36 rfl ?hig ?_); (case hwg => first | exact wanted_none rfl | exact wanted_if rfl rfl rfl rfl); (case hig => rw [HC2.out]; kernel_rfl)) | (go_at_call 13; fail))
    refine (tsmall t2 cs2 v1 (HY2.out.next HK1.out)).mono ?_
    rintro e v2 ⟨b, rfl, hb⟩
    have HK2 := Lib.hid (HK1.out.trans (hb.mono HK1.out.size))
    clear hb HRI2
    cases b with
    | false =>
      go_wp2_with (go_at_call 5; fail)
      refine (awake04 _).mono ?_
      rintro e wf ⟨rfl, hbf⟩
      have HBF := Lib.hid hbf
      clear hbf
      go_wp2
      go_ret
      exact ⟨rfl, HBW.out.trans ((HK2.out.trans (HBF.out.mono HK2.out.size)).mono HBW.out.size)⟩
    | true =>
      by_cases hs : s.size ≤ 300
      case neg =>
        have q1 : (300 : Int) < (s.size : Int) := by omega
        go_wp2_with (go_at_call 5; fail)
        refine (awake04 _).mono ?_
        rintro e wf ⟨rfl, hbf⟩
        have HBF := Lib.hid hbf
        clear hbf
        go_wp2
        go_ret
        exact ⟨rfl, HBW.out.trans ((HK2.out.trans (HBF.out.mono HK2.out.size)).mono HBW.out.size)⟩
      have q1 : ¬ ((300 : Int) < (s.size : Int)) := by omega
      clear hs
      have C1 : Hid (∀ z : World, Below W.heap.size W z → Calls Tryz.prog 14 #[.agg ⟨cs2⟩] z fun e w' => e = .returned (.bool (typeT t2)) ∧ Below z.heap.size z w') := Lib.hid (fun z hz => typeRight_any t2 cs2 z (HY2.out.next hz))
      have C2 : Hid (∀ z : World, Below W.heap.size W z → Calls Tryz.prog 15 #[.agg ⟨cs2⟩] z fun e w' => e = .returned (.bool (typeT t2)) ∧ Below z.heap.size z w') := Lib.hid (fun z hz => rtypeRight_any t2 cs2 z (HY2.out.next hz))
      have C3 : Hid (∀ z : World, Below W.heap.size W z → Calls Tryz.prog 16 #[.agg ⟨cs1⟩, .agg ⟨cs2⟩] z fun e w' => e = .returned (.bool (fitT t1 t2)) ∧ Below z.heap.size z w') := Lib.hid (fun z hz => fits_top t1 t2 cs1 cs2 z (HY1.out.next hz) (HY2.out.next hz))
      have C4 : Hid (∀ z : World, Below W.heap.size W z → Calls Tryz.prog 17 #[.agg ⟨cs1⟩, .agg ⟨cs2⟩] z fun e w' => e = .returned (.bool (fitT t1 t2)) ∧ Below z.heap.size z w') := Lib.hid (fun z hz => rfits_top t1 t2 cs1 cs2 z (HY1.out.next hz) (HY2.out.next hz))
      have C5 : Hid (∀ z : World, Below W.heap.size W z → Calls Tryz.prog 18 #[.string s] z fun e w' => e = .returned (.bool (nameB s)) ∧ Below z.heap.size z w') := Lib.hid (fun z hz => name_any s z)
      have C6 : Hid (∀ z : World, Below W.heap.size W z → Calls Tryz.prog 19 #[.string s] z fun e w' => e = .returned (.bool (nameB s)) ∧ Below z.heap.size z w') := Lib.hid (fun z hz => (rname_any s z).mono fun e w' h => ⟨h.1, by rw [h.2]; exact Below.refl _ _⟩)
      generalize typeT t2 = x at *
      generalize fitT t1 t2 = y at *
      generalize nameB s = u at *
      go_upto_region 3 with (fail)
      refine wp_region_ord [(0, true), (2, true), (1, false), (3, false), (4, true), (5, true), (6, true), (7, true), (9, true), (10, true), (8, false), (11, false), (12, true), (13, true), (14, true), (15, true), (17, true), (16, false), (18, false), (19, true), (20, true), (21, true)]
        (fun z => Below W.heap.size W z) (by kernel_rfl) (by kernel_rfl) (by kernel_rfl) rfl (by intro c a d v w h; cases d <;> exact h) ?_
      have hs0 : Below W.heap.size W v2.drew := HK2.out.drew
      refine ord_load (some 25) (.agg ⟨cs2⟩) _ rfl rfl (by first | exact wanted_none rfl | exact wanted_if rfl rfl rfl rfl) hs0 (fun z hz => exec_sload 36 rfl p2 0 cs2 _ rfl (rangeAt_below HX2.out hz HLT.out.2) Tryz.underlying36 rfl (by rw [HC2.out]; kernel_rfl)) ?_
      go_frame
      refine ord_load (some 27) (.agg ⟨cs2⟩) _ rfl rfl (by first | exact wanted_none rfl | exact wanted_if rfl rfl rfl rfl) hs0 (fun z hz => exec_sload 36 rfl p2 0 cs2 _ rfl (rangeAt_below HX2.out hz HLT.out.2) Tryz.underlying36 rfl (by rw [HC2.out]; kernel_rfl)) ?_
      go_frame
      refine ord_to (some 26) 14 Tryz.func14 (by kernel_rfl) (by kernel_rfl) [.agg ⟨cs2⟩] _ _ _ rfl rfl rfl (by first | exact wanted_none rfl | exact wanted_if rfl rfl rfl rfl) rfl ?_
      refine (C1.out _ hs0).mono ?_
      rintro e z1 ⟨rfl, hb⟩
      have hs1 : Below W.heap.size W z1 := hs0.trans (hb.mono hs0.size)
      refine ⟨.bool x, rfl, hs1, ?_⟩
      clear hb
      go_frame
      refine ord_to (some 28) 15 Tryz.func15 (by kernel_rfl) (by kernel_rfl) [.agg ⟨cs2⟩] _ _ _ rfl rfl rfl (by first | exact wanted_none rfl | exact wanted_if rfl rfl rfl rfl) rfl ?_
      refine (C2.out _ hs1).mono ?_
      rintro e z2 ⟨rfl, hb⟩
      have hs2 : Below W.heap.size W z2 := hs1.trans (hb.mono hs1.size)
      refine ⟨.bool x, rfl, hs2, ?_⟩
      clear hb
      go_frame
      refine ord_load (some 29) (.bool true) _ rfl rfl (by first | exact wanted_none rfl | exact wanted_if rfl rfl rfl rfl) hs2 (fun z hz => by cases x <;> go_simp) ?_
      go_frame
      refine ord_move (some 30) (.bool true) _ _ rfl rfl rfl (by first | exact wanted_none rfl | exact wanted_if rfl rfl rfl rfl) hs2 rfl ?_
      go_frame
      refine ord_load (some 31) (.agg ⟨cs1⟩) _ rfl rfl (by first | exact wanted_none rfl | exact wanted_if rfl rfl rfl rfl) hs2 (fun z hz => exec_sload 26 rfl p1 0 cs1 _ rfl (rangeAt_below HX1.out hz HLT.out.1) Tryz.underlying26 rfl (by rw [HC1.out]; kernel_rfl)) ?_
      go_frame
      refine ord_load (some 32) (.agg ⟨cs2⟩) _ rfl rfl (by first | exact wanted_none rfl | exact wanted_if rfl rfl rfl rfl) hs2 (fun z hz => exec_sload 36 rfl p2 0 cs2 _ rfl (rangeAt_below HX2.out hz HLT.out.2) Tryz.underlying36 rfl (by rw [HC2.out]; kernel_rfl)) ?_
      go_frame
      refine ord_load (some 34) (.agg ⟨cs1⟩) _ rfl rfl (by first | exact wanted_none rfl | exact wanted_if rfl rfl rfl rfl) hs2 (fun z hz => exec_sload 26 rfl p1 0 cs1 _ rfl (rangeAt_below HX1.out hz HLT.out.1) Tryz.underlying26 rfl (by rw [HC1.out]; kernel_rfl)) ?_
      go_frame
      refine ord_load (some 35) (.agg ⟨cs2⟩) _ rfl rfl (by first | exact wanted_none rfl | exact wanted_if rfl rfl rfl rfl) hs2 (fun z hz => exec_sload 36 rfl p2 0 cs2 _ rfl (rangeAt_below HX2.out hz HLT.out.2) Tryz.underlying36 rfl (by rw [HC2.out]; kernel_rfl)) ?_
      go_frame
      refine ord_to (some 33) 16 Tryz.func16 (by kernel_rfl) (by kernel_rfl) [.agg ⟨cs1⟩, .agg ⟨cs2⟩] _ _ _ rfl rfl rfl (by first | exact wanted_none rfl | exact wanted_if rfl rfl rfl rfl) rfl ?_
      refine (C3.out _ hs2).mono ?_
      rintro e z3 ⟨rfl, hb⟩
      have hs3 : Below W.heap.size W z3 := hs2.trans (hb.mono hs2.size)
      refine ⟨.bool y, rfl, hs3, ?_⟩
      clear hb
      go_frame
      refine ord_to (some 36) 17 Tryz.func17 (by kernel_rfl) (by kernel_rfl) [.agg ⟨cs1⟩, .agg ⟨cs2⟩] _ _ _ rfl rfl rfl (by first | exact wanted_none rfl | exact wanted_if rfl rfl rfl rfl) rfl ?_
      refine (C4.out _ hs3).mono ?_
      rintro e z4 ⟨rfl, hb⟩
      have hs4 : Below W.heap.size W z4 := hs3.trans (hb.mono hs3.size)
      refine ⟨.bool y, rfl, hs4, ?_⟩
      clear hb
      go_frame
      refine ord_load (some 37) (.bool true) _ rfl rfl (by first | exact wanted_none rfl | exact wanted_if rfl rfl rfl rfl) hs4 (fun z hz => by cases y <;> go_simp) ?_
      go_frame
      refine ord_pick (some 38) (.bool true) _ _ _ _ true rfl rfl rfl rfl (by first | exact wanted_none rfl | exact wanted_if rfl rfl rfl rfl) hs4 rfl ?_
      go_frame
      refine ord_move (some 39) (.bool true) _ _ rfl rfl rfl (by first | exact wanted_none rfl | exact wanted_if rfl rfl rfl rfl) hs4 rfl ?_
      go_frame
      refine ord_move (some 40) (.string s) _ _ rfl rfl rfl (by first | exact wanted_none rfl | exact wanted_if rfl rfl rfl rfl) hs4 rfl ?_
      go_frame
      refine ord_move (some 42) (.string s) _ _ rfl rfl rfl (by first | exact wanted_none rfl | exact wanted_if rfl rfl rfl rfl) hs4 rfl ?_
      go_frame
      refine ord_to (some 41) 18 Tryz.func18 (by kernel_rfl) (by kernel_rfl) [.string s] _ _ _ rfl rfl rfl (by first | exact wanted_none rfl | exact wanted_if rfl rfl rfl rfl) rfl ?_
      refine (C5.out _ hs4).mono ?_
      rintro e z5 ⟨rfl, hb⟩
      have hs5 : Below W.heap.size W z5 := hs4.trans (hb.mono hs4.size)
      refine ⟨.bool u, rfl, hs5, ?_⟩
      clear hb
      go_frame
      refine ord_to (some 43) 19 Tryz.func19 (by kernel_rfl) (by kernel_rfl) [.string s] _ _ _ rfl rfl rfl (by first | exact wanted_none rfl | exact wanted_if rfl rfl rfl rfl) rfl ?_
      refine (C6.out _ hs5).mono ?_
      rintro e z6 ⟨rfl, hb⟩
      have hs6 : Below W.heap.size W z6 := hs5.trans (hb.mono hs5.size)
      refine ⟨.bool u, rfl, hs6, ?_⟩
      clear hb
      go_frame
      refine ord_load (some 44) (.bool true) _ rfl rfl (by first | exact wanted_none rfl | exact wanted_if rfl rfl rfl rfl) hs6 (fun z hz => by cases u <;> go_simp) ?_
      go_frame
      refine ord_pick (some 45) (.bool true) _ _ _ _ true rfl rfl rfl rfl (by first | exact wanted_none rfl | exact wanted_if rfl rfl rfl rfl) hs6 rfl ?_
      go_frame
      refine ord_assign (some 6) (.bool true) _ _ rfl rfl rfl (by first | exact wanted_none rfl | exact wanted_if rfl rfl rfl rfl) hs6 rfl ?_
      go_frame
      refine ord_end ?_
      have HKE := Lib.hid hs6
      clear hs0 hs1 hs2 hs3 hs4 hs5 hs6
      go_wp2
      go_ret
      exact ⟨rfl, HBW.out.trans (HKE.out.mono HBW.out.size)⟩

noncomputable def valueTypesWorld (os : Os) : World :=
  { World.holding Tryz.prog os ⟨#[], #[], []⟩ with heap := ((((World.holding Tryz.prog os ⟨#[], #[], []⟩).heap).modify 2 (fun x => match x with | .cells _ t frozen => .cells #[.int .u64 1, .int .u64 10, .int .u64 100, .int .u64 1000, .int .u64 10000, .int .u64 100000, .int .u64 1000000, .int .u64 10000000, .int .u64 100000000, .int .u64 1000000000, .int .u64 10000000000, .int .u64 100000000000, .int .u64 1000000000000, .int .u64 10000000000000, .int .u64 100000000000000, .int .u64 1000000000000000, .int .u64 10000000000000000, .int .u64 100000000000000000, .int .u64 1000000000000000000, .int .u64 10000000000000000000] t frozen | o => o)).modify 3 (fun x => match x with | .cells _ t frozen => .cells #[.int .u8 0, .int .u8 1, .int .u8 28, .int .u8 2, .int .u8 29, .int .u8 14, .int .u8 24, .int .u8 3, .int .u8 30, .int .u8 22, .int .u8 20, .int .u8 15, .int .u8 25, .int .u8 17, .int .u8 4, .int .u8 8, .int .u8 31, .int .u8 27, .int .u8 13, .int .u8 23, .int .u8 21, .int .u8 19, .int .u8 16, .int .u8 7, .int .u8 26, .int .u8 12, .int .u8 18, .int .u8 6, .int .u8 11, .int .u8 5, .int .u8 10, .int .u8 9] t frozen | o => o)).modify 4 (fun x => match x with | .cells _ t frozen => .cells #[.int .u8 0, .int .u8 1, .int .u8 56, .int .u8 2, .int .u8 57, .int .u8 49, .int .u8 28, .int .u8 3, .int .u8 61, .int .u8 58, .int .u8 42, .int .u8 50, .int .u8 38, .int .u8 29, .int .u8 17, .int .u8 4, .int .u8 62, .int .u8 47, .int .u8 59, .int .u8 36, .int .u8 45, .int .u8 43, .int .u8 51, .int .u8 22, .int .u8 53, .int .u8 39, .int .u8 33, .int .u8 30, .int .u8 24, .int .u8 18, .int .u8 12, .int .u8 5, .int .u8 63, .int .u8 55, .int .u8 48, .int .u8 27, .int .u8 60, .int .u8 41, .int .u8 37, .int .u8 16, .int .u8 46, .int .u8 35, .int .u8 44, .int .u8 21, .int .u8 52, .int .u8 32, .int .u8 23, .int .u8 11, .int .u8 54, .int .u8 26, .int .u8 40, .int .u8 15, .int .u8 34, .int .u8 20, .int .u8 31, .int .u8 10, .int .u8 25, .int .u8 14, .int .u8 19, .int .u8 9, .int .u8 13, .int .u8 8, .int .u8 7, .int .u8 6] t frozen | o => o) }
set_option maxRecDepth 100000 in
theorem valueTypes_laid (os : Os) : laidMet Tryz.prog Rows.valueTypesRow.laid ((valueTypesWorld os).forCall (fun _ _ => 0) ⟨#[], #[.agg #[.int .i64 0, .int .i64 0, .float .f64 0, .string .empty, .slice none 0 0, .slice none 0 0], .agg #[.int .i64 0, .slice none 0 0, .slice none 0 0], .string .empty], []⟩).memory :=
  laidMet_of_run' 8 (by kernel_rfl) (by kernel_rfl)
set_option maxRecDepth 100000 in
theorem valueTypes_reads (os : Os) {H : Type} (enc : TypeId × Value → H) : ∃ x, DataW.whole enc Tryz.prog ((valueTypesWorld os).forCall (fun _ _ => 0) ⟨#[], #[.agg #[.int .i64 0, .int .i64 0, .float .f64 0, .string .empty, .slice none 0 0, .slice none 0 0], .agg #[.int .i64 0, .slice none 0 0, .slice none 0 0], .string .empty], []⟩).memory Tryz.f4.params.toList Rows.valueTypesSpec.vars false (#[.agg #[.int .i64 0, .int .i64 0, .float .f64 0, .string .empty, .slice none 0 0, .slice none 0 0], .agg #[.int .i64 0, .slice none 0 0, .slice none 0 0], .string .empty] : Array Value).toList 8 = some x :=
  Option.isSome_iff_exists.1 (by kernel_rfl)
set_option maxRecDepth 100000 in
theorem valueTypes_contract (H : Type) (enc : TypeId × Value → H) (W : World) (base : Nat) (args : Array Value) (ds gs : List (DataW H)) (before : List MemPlace)
    (hval0 : ∀ (j : Nat) t v, Tryz.f4.params[j]? = some t → args[j]? = some v → Value.okWide Tryz.prog W .any base t v)
    (hW : DataW.Whole enc Tryz.prog Tryz.f4.params.toList Rows.valueTypesSpec.vars false W args.toList ds gs before) :
    Calls Tryz.prog 4 args W fun e W' => ∃ v, e = .returned v ∧ Rows.valueTypesSpec.post enc Tryz.prog Tryz.f4 false true false false W args v W' := by
  have hval : ∀ (j : Nat) t v, Tryz.f4.params[j]? = some t → args[j]? = some v → Value.okWide Tryz.prog W .any base t v := hval0
  have hW' := hW
  obtain ⟨p, q, hA0, hV, rfl, hfz, hnd⟩ := hW
  have hA : DataW.TrodAll enc Tryz.prog W 0 (fun _ => true) true Tryz.f4.params.toList args.toList ds p := hA0
  rw [Tryz.params4] at hA hval
  obtain ⟨v0, vs0, d0, ds0, p0, q0, hargs, rfl, rfl, h0, r0⟩ := trodAll_cons hA
  obtain ⟨v1, vs1, d1, ds1, p1, q1, rfl, rfl, rfl, h1, r1⟩ := trodAll_cons r0
  obtain ⟨v2, vs2, d2, ds2, p2, q2, rfl, rfl, rfl, h2, r2⟩ := trodAll_cons r1
  obtain ⟨rfl, rfl, rfl⟩ := trodAll_nil r2
  obtain rfl : args = #[v0, v1, v2] := by cases args; simp_all
  obtain ⟨rfl, rfl⟩ := trodVars_none hV
  have k0 := h0
  have lt0 := lt_of_trod k0
  obtain ⟨cs0, m0, rfl, hm0⟩ := val_arg (hval 0 26 v0 rfl rfl) h0
  have k1 := h1
  have lt1 := lt_of_trod k1
  obtain ⟨cs1, m1, rfl, hm1⟩ := typ_arg (hval 1 36 v1 rfl rfl) h1
  have k2 := h2
  have lt2 := lt_of_trod k2
  obtain ⟨s2, rfl⟩ := okWide_string Tryz.underlying9 (hval 2 9 v2 rfl rfl)
  clear hA0 hval0
  refine (valueTypes_walk W cs0 m0 hm0 cs1 m1 hm1 s2).mono fun e W' ⟨he, bel⟩ => ?_
  subst he
  exact ⟨_, rfl, _, _, _, [], _, [], hW', trodAll_mk1 (shut_bool Tryz.underlying4 _), (trodAll_cons_mk (Below.trod laidOut (by kernel_rfl) (of_decide_eq_true (by kernel_rfl)) k0 bel lt0) (trodAll_cons_mk (Below.trod laidOut (by kernel_rfl) (of_decide_eq_true (by kernel_rfl)) k1 bel lt1) (trodAll_cons_mk (Below.trod laidOut (by kernel_rfl) (of_decide_eq_true (by kernel_rfl)) k2 bel lt2) trodAll_mk0))), rfl, bel.frame _, fun h => by cases h⟩
set_option maxRecDepth 100000 in
theorem valueTypes_lifted (os : Os) (started : os.Started) (H : Type) (enc : TypeId × Value → H) (F : Stop.Interp) :
    ReturnsInHanded {} Tryz.checked os 4 .any ((OpenSpec.ofChange Rows.valueTypesSpec).preRow enc Tryz.prog Tryz.f4 Rows.valueTypesRow.domain false Rows.valueTypesRow.laid) (((OpenSpec.ofChange Rows.valueTypesSpec).at F).post enc Tryz.prog Tryz.f4 false true false false) := by
  obtain ⟨x, hx⟩ := valueTypes_reads os enc
  refine returnsInHanded_of_row (C := Tryz.checked) (s := OpenSpec.ofChange Rows.valueTypesSpec) own started (by kernel_rfl) Tryz.func4
    (witness_row_at (enc := enc) (C := Tryz.checked) false (valueTypesWorld os) #[.agg #[.int .i64 0, .int .i64 0, .float .f64 0, .string .empty, .slice none 0 0, .slice none 0 0], .agg #[.int .i64 0, .slice none 0 0, .slice none 0 0], .string .empty] rfl (by kernel_rfl) (by kernel_rfl) (by kernel_rfl)
      (OpenSpec.preRow_of_cond 8 hx rfl (fun k hk => by cases hk) (by kernel_rfl) (valueTypes_laid os))) ?_
  intro W base args ds gs before hval hW _ _ hsz hL _ _
  exact valueTypes_contract H enc W base args ds gs before hval hW
theorem valueTypes_said : Rows.ValueTypesSaid :=
  OpenClaim.holds_of_cond 4 Tryz.f4 rfl rfl rfl rfl rfl rfl rfl ⟨rfl, rfl, rfl, rfl, rfl⟩ rfl rfl rfl rfl rfl (by kernel_rfl) Tryz.func4 (by kernel_rfl)
    (of_decide_eq_true (by kernel_rfl)) (by unfold Func.isWrapper; first | (rw [if_pos (by decide +kernel)]; kernel_rfl) | (rw [if_neg (by decide +kernel)]; exact ⟨rfl, rfl⟩))
    (fun os started H enc _ F => by rw [OpenClaim.pre_eq_preRow]; exact valueTypes_lifted os started H enc F)
theorem valueTypes_plain (f : FuncId) (fn : Func) (hf : Tryz.pinned.checked.prog.funcNamed "bascule/basculelaw04.ValueTypes" = some f) (hfn : Tryz.pinned.checked.prog.funcs[f]? = some fn) :
    false = Tryz.pinned.checked.prog.looks [] ∧ ∀ (j : Nat) t, fn.params[j]? = some t → Tryz.pinned.checked.prog.wantsStandIn t = false := by
  obtain rfl : f = 4 := Option.some.inj ((show Tryz.prog.funcNamed "bascule/basculelaw04.ValueTypes" = some 4 by kernel_rfl).symm.trans hf) |>.symm
  obtain rfl : fn = Tryz.f4 := (Option.some.inj (Tryz.func4.symm.trans hfn)).symm
  refine ⟨by kernel_rfl, fun j t ht => ?_⟩
  rw [Tryz.params4] at ht
  have hm := Array.mem_of_getElem? ht
  simp only [List.mem_toArray, List.mem_cons, List.not_mem_nil, or_false] at hm
  rcases hm with rfl | rfl | rfl
  · exact (show Tryz.prog.wantsStandIn 26 = false by kernel_rfl)
  · exact (show Tryz.prog.wantsStandIn 36 = false by kernel_rfl)
  · exact (show Tryz.prog.wantsStandIn 9 = false by kernel_rfl)
/-- the card -/
theorem valueTypes_proved : Rows.ValueTypesCardSaid :=
  Claim7.holds_tied_plain_at .later [] _ _ _ _ valueTypes_said (fun _ h => by cases h) (by kernel_rfl) (fun _ h => by cases h) valueTypes_row_tie rfl ⟨rfl, rfl⟩ (by kernel_rfl) rfl valueTypes_plain (by kernel_rfl)
#print axioms valueTypes_proved
end Go.Proofs.YtieciegfloldhaaGreatDoor
