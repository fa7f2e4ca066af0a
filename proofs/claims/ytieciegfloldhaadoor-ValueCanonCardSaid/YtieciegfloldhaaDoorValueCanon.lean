/- THE STATEMENT ValueCanon is proved: for every value the Go function ValueCanon returns true, and its argument read afterwards as before; without conditions. -/
import Derived.Test.YtieciegfloldhaaDoorVCanon2
import Derived.Test.YtieciegfloldhaaDoorVAwake
import Derived.Test.YtieciegfloldhaaDoorOpenV
import Derived.Test.YtieciegfloldhaaDoorCards
import Derived.Test.YtieciegfloldhaaDoorTie
import Derived.WalkKit
import Derived.Deep.DeepHandedRow
import Derived.SevenTiedAt
import Derived.Lib.LaidTab
namespace Go.Proofs.YtieciegfloldhaaDoor
open Go.ChangeShapes Go.WideShapes Go.ChangeAt Go.RowKit Go
set_option linter.unusedVariables false

set_option maxHeartbeats 8000000 in
set_option maxRecDepth 100000 in
theorem valueCanon_walk (w : World) (cs1 : List Value) (t1 : VT) (hv1 : ValAt w w.heap.size cs1 t1) (hf1 : Fit t1) :
    Calls Tryd.prog 6 #[.agg ⟨cs1⟩] w fun e w' => e = .returned (.bool true) ∧ Below w.heap.size w w' := by
  have HFT := Lib.hid hf1
  clear hf1
  have HC1 := Lib.hid (val_one hv1).1
  have HV1 := Lib.hid hv1
  clear hv1
  go_enter Tryd.func6, Tryd.ntmps6
  go_upto_region 1 with (fail)
  have HR1 := Lib.hid (range_box w cs1 26)
  have HB1 := Lib.hid (box_below w (.cells ⟨cs1⟩ 26))
  have HS1 : Hid ((w.alloc (.cells ⟨cs1⟩ 26)).heap.size = w.heap.size + 1) := Lib.hid (by simp)
  generalize w.alloc (.cells ⟨cs1⟩ 26) = U1 at *
  obtain ⟨p1, hp1⟩ : ∃ p1, w.heap.size = p1 := ⟨_, rfl⟩
  rw [hp1]
  have e1 : w.heap.size = p1 := by exact hp1
  have eW : U1.heap.size = p1 + 1 := by have := HS1.out; omega
  have HZ1 := Lib.hid (Below.refl U1.heap.size U1)
  have HX1 : Hid (U1.rangeAt p1 0 cs1) := Lib.hid (by have h := rangeAt_below HR1.out HZ1.out (show w.heap.size < U1.heap.size by have := HS1.out; omega); rw [e1] at h; exact h)
  have HBW : Hid (Below w.heap.size w U1) := Lib.hid (HB1.out.trans (HZ1.out.mono (by have := HS1.out; omega)))
  have HY1 : Hid (ValAt U1 U1.heap.size cs1 t1) := Lib.hid (HV1.out.next HBW.out)
  have HLT : Hid (p1 < U1.heap.size) := Lib.hid (by omega)
  clear HR1 HB1 HS1 HZ1 HV1 e1 hp1 eW
  obtain ⟨W, rfl⟩ : ∃ W, W = U1 := ⟨_, rfl⟩
  go_wp2_with (go_at_call 7; fail)
  refine (awake04 _).mono ?_
  rintro e v0 ⟨rfl, hb⟩
  have HK0 := Lib.hid hb
  clear hb
  have HRI1 := Lib.hid (rangeAt_below HX1.out HK0.out HLT.out)
  go_wp2_with (first | ((with_reducible refine wl_sload 26 _ rfl ?hwg p1 0 cs1 _ rfl HRI1.out Tryd.underlying26 rfl ?hig ?_); (case hwg => first | exact wanted_none rfl | exact wanted_if rfl rfl rfl rfl); (case hig => rw [HC1.out]; kernel_rfl)) | (go_at_call 8; fail))
  refine (vsmall t1 cs1 v0 (HY1.out.next HK0.out)).mono ?_
  rintro e v1 ⟨b, rfl, hb⟩
  have HK1 := Lib.hid (HK0.out.trans (hb.mono HK0.out.size))
  clear hb HRI1
  cases b with
  | false =>
    go_wp2_with (go_at_call 7; fail)
    refine (awake04 _).mono ?_
    rintro e wf ⟨rfl, hbf⟩
    have HBF := Lib.hid hbf
    clear hbf
    go_wp2
    go_ret
    exact ⟨rfl, HBW.out.trans ((HK1.out.trans (HBF.out.mono HK1.out.size)).mono HBW.out.size)⟩
  | true =>
    have HRI1 := Lib.hid (rangeAt_below HX1.out HK1.out HLT.out)
    have HCA := Lib.hid (canon_any t1 cs1 v1 HFT.out (HY1.out.next HK1.out))
    go_wp2_with (first | ((with_reducible refine wl_sload 26 _ rfl ?hwq p1 0 cs1 _ rfl HRI1.out Tryd.underlying26 rfl ?hiq ?_); (case hwq => first | exact wanted_none rfl | exact wanted_if rfl rfl rfl rfl); (case hiq => rw [HC1.out]; kernel_rfl)) | (go_at_call 15; fail))
    refine HCA.out.mono ?_
    rintro e v2 ⟨cs2, rfl, hk2, hb2⟩
    have HC2 := Lib.hid (val_one hk2.val).1
    have HV2 := Lib.hid hk2.val
    have HO2 := Lib.hid (val_one hk2.val).2
    have HK2 := Lib.hid (HK1.out.trans (hb2.mono HK1.out.size))
    clear hk2 hb2 HRI1 HCA
    go_upto_region 4 with ((with_reducible refine wl_sbox 26 _ _ rfl ?hw v2 ?zn cs2 ?hwld ?hz ?hx ?hy ?hi ?h1 ?_); (case hwld => rfl); (case hx => rfl); (case hy => rfl); (case hw => first | exact wanted_none rfl | exact wanted_if rfl rfl rfl rfl); (case hz => exact HC2.out); (case hi => rw [HC2.out]; kernel_rfl); (case h1 => exact HO2.out); intro V hbx; have HX := Lib.hid hbx; clear hbx)
    have HWV := Lib.hid (HK2.out.trans (HX.out.below.mono HK2.out.size))
    have HA1 := Lib.hid (HY1.out.next HWV.out)
    have HA2 := Lib.hid (HV2.out.next HX.out.below)
    have HG1 := Lib.hid (rangeAt_below HX1.out HWV.out HLT.out)
    have HG2 := Lib.hid HX.out.range
    have HP1 : Hid (p1 < V.heap.size) := Lib.hid (Nat.lt_of_lt_of_le HLT.out HWV.out.size)
    have HP2 := Lib.hid HX.out.size
    clear HX HV2 HO2
    obtain ⟨p2, hp2⟩ : ∃ p2, v2.heap.size = p2 := ⟨_, rfl⟩
    rw [hp2] at HG2 HP2 ⊢
    clear hp2
    have hc1 : (ordV (canonV t1) t1 == 0) = true := by rw [canon_same]; rfl
    have hc2 : (ordV (canonV (canonV t1)) (canonV t1) == 0) = true := by rw [canon_same]; rfl
    obtain ⟨r, hr1⟩ : ∃ r, (decide (cntV t1 0 ≤ 200) && rightV t1 1) = r := ⟨_, rfl⟩
    have hr2 : (decide (cntV (canonV t1) 0 ≤ 200) && rightV (canonV t1) 1) = r := by rw [canon_parts, canon_right]; exact hr1
    obtain ⟨n1, hp1⟩ : ∃ n1, cntV t1 0 = n1 := ⟨_, rfl⟩
    have hp2 : cntV (canonV t1) 0 = n1 := by rw [canon_parts]; exact hp1
    refine wp_region_ord [(0, true), (1, true), (2, false), (3, true), (4, true), (6, true), (5, false), (7, false), (8, true), (9, true), (10, true), (12, true), (11, false), (13, false), (14, true), (15, true), (16, true), (17, true), (19, true), (18, false), (20, false), (21, true), (22, true), (23, true)]
      (fun z => Below V.heap.size V z) (by kernel_rfl) (by kernel_rfl) (by kernel_rfl) rfl (by intro c a d v w h; cases d <;> exact h) ?_
    have hs0 : Below V.heap.size V V.drew := (Below.refl V.heap.size V).drew
    refine ord_load (some 14) (.agg ⟨cs2⟩) _ rfl rfl (by first | exact wanted_none rfl | exact wanted_if rfl rfl rfl rfl) hs0 (fun z hz => exec_sload 26 rfl p2 0 cs2 _ rfl (rangeAt_below HG2.out hz HP2.out) Tryd.underlying26 rfl (by rw [HC2.out]; kernel_rfl)) ?_
    go_frame
    refine ord_load (some 15) (.agg ⟨cs1⟩) _ rfl rfl (by first | exact wanted_none rfl | exact wanted_if rfl rfl rfl rfl) hs0 (fun z hz => exec_sload 26 rfl p1 0 cs1 _ rfl (rangeAt_below HG1.out hz HP1.out) Tryd.underlying26 rfl (by rw [HC1.out]; kernel_rfl)) ?_
    go_frame
    refine ord_to (some 16) 10 Tryd.func10 (by kernel_rfl) (by kernel_rfl) [.agg ⟨cs2⟩, .agg ⟨cs1⟩] _ _ _ rfl rfl rfl (by first | exact wanted_none rfl | exact wanted_if rfl rfl rfl rfl) rfl ?_
    refine (vsame (canonV t1) t1 cs2 cs1 _ (HA2.out.next hs0) (HA1.out.next hs0)).mono ?_
    rintro e z1 ⟨rfl, hb⟩
    rw [hc1]
    have hs1 : Below V.heap.size V z1 := hs0.trans (hb.mono hs0.size)
    refine ⟨(.bool true), rfl, hs1, ?_⟩
    clear hb
    go_frame
    refine ord_move (some 17) (.bool true) _ _ rfl rfl rfl (by first | exact wanted_none rfl | exact wanted_if rfl rfl rfl rfl) hs1 rfl ?_
    go_frame
    refine ord_load (some 18) (.agg ⟨cs2⟩) _ rfl rfl (by first | exact wanted_none rfl | exact wanted_if rfl rfl rfl rfl) hs1 (fun z hz => exec_sload 26 rfl p2 0 cs2 _ rfl (rangeAt_below HG2.out hz HP2.out) Tryd.underlying26 rfl (by rw [HC2.out]; kernel_rfl)) ?_
    go_frame
    refine ord_load (some 20) (.agg ⟨cs2⟩) _ rfl rfl (by first | exact wanted_none rfl | exact wanted_if rfl rfl rfl rfl) hs1 (fun z hz => exec_sload 26 rfl p2 0 cs2 _ rfl (rangeAt_below HG2.out hz HP2.out) Tryd.underlying26 rfl (by rw [HC2.out]; kernel_rfl)) ?_
    go_frame
    refine ord_to (some 19) 15 Tryd.func15 (by kernel_rfl) (by kernel_rfl) [.agg ⟨cs2⟩] _ _ _ rfl rfl rfl (by first | exact wanted_none rfl | exact wanted_if rfl rfl rfl rfl) rfl ?_
    refine (canon_any (canonV t1) cs2 _ (canon_fit t1 HFT.out) (HA2.out.next hs1)).mono ?_
    rintro e z2 ⟨cs3, rfl, hk3, hb⟩
    have hs2 : Below V.heap.size V z2 := hs1.trans (hb.mono hs1.size)
    have HA3 := Lib.hid hk3.val
    clear hk3
    refine ⟨(.agg ⟨cs3⟩), rfl, hs2, ?_⟩
    clear hb
    go_frame
    refine ord_to (some 21) 10 Tryd.func10 (by kernel_rfl) (by kernel_rfl) [.agg ⟨cs3⟩, .agg ⟨cs2⟩] _ _ _ rfl rfl rfl (by first | exact wanted_none rfl | exact wanted_if rfl rfl rfl rfl) rfl ?_
    refine (vsame (canonV (canonV t1)) (canonV t1) cs3 cs2 _ HA3.out (HA2.out.next hs2)).mono ?_
    rintro e z3 ⟨rfl, hb⟩
    rw [hc2]
    have hs3 : Below V.heap.size V z3 := hs2.trans (hb.mono hs2.size)
    refine ⟨(.bool true), rfl, hs3, ?_⟩
    clear hb
    go_frame
    refine ord_pick (some 22) (.bool true) _ _ _ _ true rfl rfl rfl rfl (by first | exact wanted_none rfl | exact wanted_if rfl rfl rfl rfl) hs3 rfl ?_
    go_frame
    refine ord_move (some 23) (.bool true) _ _ rfl rfl rfl (by first | exact wanted_none rfl | exact wanted_if rfl rfl rfl rfl) hs3 rfl ?_
    go_frame
    refine ord_load (some 24) (.agg ⟨cs2⟩) _ rfl rfl (by first | exact wanted_none rfl | exact wanted_if rfl rfl rfl rfl) hs3 (fun z hz => exec_sload 26 rfl p2 0 cs2 _ rfl (rangeAt_below HG2.out hz HP2.out) Tryd.underlying26 rfl (by rw [HC2.out]; kernel_rfl)) ?_
    go_frame
    refine ord_load (some 26) (.agg ⟨cs1⟩) _ rfl rfl (by first | exact wanted_none rfl | exact wanted_if rfl rfl rfl rfl) hs3 (fun z hz => exec_sload 26 rfl p1 0 cs1 _ rfl (rangeAt_below HG1.out hz HP1.out) Tryd.underlying26 rfl (by rw [HC1.out]; kernel_rfl)) ?_
    go_frame
    refine ord_to (some 25) 16 Tryd.func16 (by kernel_rfl) (by kernel_rfl) [.agg ⟨cs2⟩] _ _ _ rfl rfl rfl (by first | exact wanted_none rfl | exact wanted_if rfl rfl rfl rfl) rfl ?_
    refine (right_top (canonV t1) cs2 _ (HA2.out.next hs3)).mono ?_
    rintro e z4 ⟨rfl, hb⟩
    rw [hr2]
    have hs4 : Below V.heap.size V z4 := hs3.trans (hb.mono hs3.size)
    refine ⟨(.bool r), rfl, hs4, ?_⟩
    clear hb
    go_frame
    refine ord_to (some 27) 16 Tryd.func16 (by kernel_rfl) (by kernel_rfl) [.agg ⟨cs1⟩] _ _ _ rfl rfl rfl (by first | exact wanted_none rfl | exact wanted_if rfl rfl rfl rfl) rfl ?_
    refine (right_top t1 cs1 _ (HA1.out.next hs4)).mono ?_
    rintro e z5 ⟨rfl, hb⟩
    rw [hr1]
    have hs5 : Below V.heap.size V z5 := hs4.trans (hb.mono hs4.size)
    refine ⟨(.bool r), rfl, hs5, ?_⟩
    clear hb
    go_frame
    refine ord_load (some 28) (.bool true) _ rfl rfl (by first | exact wanted_none rfl | exact wanted_if rfl rfl rfl rfl) hs5 (fun z hz => by go_simp) ?_
    go_frame
    refine ord_pick (some 29) (.bool true) _ _ _ _ true rfl rfl rfl rfl (by first | exact wanted_none rfl | exact wanted_if rfl rfl rfl rfl) hs5 rfl ?_
    go_frame
    refine ord_move (some 30) (.bool true) _ _ rfl rfl rfl (by first | exact wanted_none rfl | exact wanted_if rfl rfl rfl rfl) hs5 rfl ?_
    go_frame
    refine ord_load (some 31) (.agg ⟨cs2⟩) _ rfl rfl (by first | exact wanted_none rfl | exact wanted_if rfl rfl rfl rfl) hs5 (fun z hz => exec_sload 26 rfl p2 0 cs2 _ rfl (rangeAt_below HG2.out hz HP2.out) Tryd.underlying26 rfl (by rw [HC2.out]; kernel_rfl)) ?_
    go_frame
    refine ord_load (some 33) (.agg ⟨cs1⟩) _ rfl rfl (by first | exact wanted_none rfl | exact wanted_if rfl rfl rfl rfl) hs5 (fun z hz => exec_sload 26 rfl p1 0 cs1 _ rfl (rangeAt_below HG1.out hz HP1.out) Tryd.underlying26 rfl (by rw [HC1.out]; kernel_rfl)) ?_
    go_frame
    refine ord_to (some 32) 17 Tryd.func17 (by kernel_rfl) (by kernel_rfl) [.agg ⟨cs2⟩] _ _ _ rfl rfl rfl (by first | exact wanted_none rfl | exact wanted_if rfl rfl rfl rfl) rfl ?_
    refine (parts_any (canonV t1) cs2 _ (HA2.out.next hs5)).mono ?_
    rintro e z6 ⟨rfl, hb⟩
    rw [hp2]
    have hs6 : Below V.heap.size V z6 := hs5.trans (hb.mono hs5.size)
    refine ⟨(.int .i64 (n1 : Nat)), rfl, hs6, ?_⟩
    clear hb
    go_frame
    refine ord_to (some 34) 17 Tryd.func17 (by kernel_rfl) (by kernel_rfl) [.agg ⟨cs1⟩] _ _ _ rfl rfl rfl (by first | exact wanted_none rfl | exact wanted_if rfl rfl rfl rfl) rfl ?_
    refine (parts_any t1 cs1 _ (HA1.out.next hs6)).mono ?_
    rintro e z7 ⟨rfl, hb⟩
    rw [hp1]
    have hs7 : Below V.heap.size V z7 := hs6.trans (hb.mono hs6.size)
    refine ⟨(.int .i64 (n1 : Nat)), rfl, hs7, ?_⟩
    clear hb
    go_frame
    refine ord_load (some 35) (.bool true) _ rfl rfl (by first | exact wanted_none rfl | exact wanted_if rfl rfl rfl rfl) hs7 (fun z hz => by go_simp) ?_
    go_frame
    refine ord_pick (some 36) (.bool true) _ _ _ _ true rfl rfl rfl rfl (by first | exact wanted_none rfl | exact wanted_if rfl rfl rfl rfl) hs7 rfl ?_
    go_frame
    refine ord_assign (some 2) (.bool true) _ _ rfl rfl rfl (by first | exact wanted_none rfl | exact wanted_if rfl rfl rfl rfl) hs7 rfl ?_
    go_frame
    refine ord_end ?_
    have HKF := Lib.hid hs7
    clear hs0 hs1 hs2 hs3 hs4 hs5 hs6 hs7
    generalize z7 = VF at *
    go_wp2
    go_ret
    exact ⟨rfl, HBW.out.trans ((HWV.out.trans (HKF.out.mono HWV.out.size)).mono HBW.out.size)⟩

noncomputable def valueCanonWorld (os : Os) : World :=
  { World.holding Tryd.prog os ⟨#[], #[], []⟩ with heap := ((((World.holding Tryd.prog os ⟨#[], #[], []⟩).heap).modify 2 (fun x => match x with | .cells _ t frozen => .cells #[.int .u64 1, .int .u64 10, .int .u64 100, .int .u64 1000, .int .u64 10000, .int .u64 100000, .int .u64 1000000, .int .u64 10000000, .int .u64 100000000, .int .u64 1000000000, .int .u64 10000000000, .int .u64 100000000000, .int .u64 1000000000000, .int .u64 10000000000000, .int .u64 100000000000000, .int .u64 1000000000000000, .int .u64 10000000000000000, .int .u64 100000000000000000, .int .u64 1000000000000000000, .int .u64 10000000000000000000] t frozen | o => o)).modify 3 (fun x => match x with | .cells _ t frozen => .cells #[.int .u8 0, .int .u8 1, .int .u8 28, .int .u8 2, .int .u8 29, .int .u8 14, .int .u8 24, .int .u8 3, .int .u8 30, .int .u8 22, .int .u8 20, .int .u8 15, .int .u8 25, .int .u8 17, .int .u8 4, .int .u8 8, .int .u8 31, .int .u8 27, .int .u8 13, .int .u8 23, .int .u8 21, .int .u8 19, .int .u8 16, .int .u8 7, .int .u8 26, .int .u8 12, .int .u8 18, .int .u8 6, .int .u8 11, .int .u8 5, .int .u8 10, .int .u8 9] t frozen | o => o)).modify 4 (fun x => match x with | .cells _ t frozen => .cells #[.int .u8 0, .int .u8 1, .int .u8 56, .int .u8 2, .int .u8 57, .int .u8 49, .int .u8 28, .int .u8 3, .int .u8 61, .int .u8 58, .int .u8 42, .int .u8 50, .int .u8 38, .int .u8 29, .int .u8 17, .int .u8 4, .int .u8 62, .int .u8 47, .int .u8 59, .int .u8 36, .int .u8 45, .int .u8 43, .int .u8 51, .int .u8 22, .int .u8 53, .int .u8 39, .int .u8 33, .int .u8 30, .int .u8 24, .int .u8 18, .int .u8 12, .int .u8 5, .int .u8 63, .int .u8 55, .int .u8 48, .int .u8 27, .int .u8 60, .int .u8 41, .int .u8 37, .int .u8 16, .int .u8 46, .int .u8 35, .int .u8 44, .int .u8 21, .int .u8 52, .int .u8 32, .int .u8 23, .int .u8 11, .int .u8 54, .int .u8 26, .int .u8 40, .int .u8 15, .int .u8 34, .int .u8 20, .int .u8 31, .int .u8 10, .int .u8 25, .int .u8 14, .int .u8 19, .int .u8 9, .int .u8 13, .int .u8 8, .int .u8 7, .int .u8 6] t frozen | o => o) }
set_option maxRecDepth 100000 in
theorem valueCanon_laid (os : Os) : laidMet Tryd.prog Rows.valueCanonRow.laid ((valueCanonWorld os).forCall (fun _ _ => 0) ⟨#[], #[.agg #[.int .i64 0, .int .i64 0, .float .f64 0, .string .empty, .slice none 0 0, .slice none 0 0]], []⟩).memory :=
  laidMet_of_run' 8 (by kernel_rfl) (by kernel_rfl)
set_option maxRecDepth 100000 in
theorem valueCanon_reads (os : Os) {H : Type} (enc : TypeId × Value → H) : ∃ x, DataW.whole enc Tryd.prog ((valueCanonWorld os).forCall (fun _ _ => 0) ⟨#[], #[.agg #[.int .i64 0, .int .i64 0, .float .f64 0, .string .empty, .slice none 0 0, .slice none 0 0]], []⟩).memory Tryd.f6.params.toList Rows.valueCanonSpec.vars false (#[.agg #[.int .i64 0, .int .i64 0, .float .f64 0, .string .empty, .slice none 0 0, .slice none 0 0]] : Array Value).toList 8 = some x :=
  Option.isSome_iff_exists.1 (by kernel_rfl)
set_option maxRecDepth 100000 in
theorem valueCanon_contract (H : Type) (enc : TypeId × Value → H) (W : World) (base : Nat) (args : Array Value) (ds gs : List (DataW H)) (before : List MemPlace)
    (hval0 : ∀ (j : Nat) t v, Tryd.f6.params[j]? = some t → args[j]? = some v → Value.okWide Tryd.prog W .any base t v)
    (hW : DataW.Whole enc Tryd.prog Tryd.f6.params.toList Rows.valueCanonSpec.vars false W args.toList ds gs before)
    (hsz : (DataW.weightsEach Tryd.prog (Tryd.f6.params.toList ++ (OpenSpec.ofChange Rows.valueCanonSpec).bare.plain.varTypes Tryd.prog) (ds ++ gs)).all (· ≤ reachBytes) = true) :
    Calls Tryd.prog 6 args W fun e W' => ∃ v, e = .returned v ∧ Rows.valueCanonSpec.post enc Tryd.prog Tryd.f6 false true false false W args v W' := by
  have hval : ∀ (j : Nat) t v, Tryd.f6.params[j]? = some t → args[j]? = some v → Value.okWide Tryd.prog W .any base t v := hval0
  have hW' := hW
  obtain ⟨p, q, hA0, hV, rfl, hfz, hnd⟩ := hW
  have hA : DataW.TrodAll enc Tryd.prog W 0 (fun _ => true) true Tryd.f6.params.toList args.toList ds p := hA0
  rw [Tryd.params6] at hA hval
  obtain ⟨v0, vs0, d0, ds0, p0, q0, hargs, rfl, rfl, h0, r0⟩ := trodAll_cons hA
  obtain ⟨rfl, rfl, rfl⟩ := trodAll_nil r0
  obtain rfl : args = #[v0] := by cases args; simp_all
  obtain ⟨rfl, rfl⟩ := trodVars_none hV
  have k0 := h0
  have lt0 := lt_of_trod k0
  obtain ⟨cs0, m0, rfl, hm0, hf0⟩ := val_argF (hval 0 26 v0 rfl rfl) h0 fun n hn => by simpa using List.all_eq_true.1 hsz _ (DataW.weights_mem_each (j := 0) rfl rfl n hn)
  clear hA0 hval0
  refine (valueCanon_walk W cs0 m0 hm0 hf0).mono fun e W' ⟨he, bel⟩ => ?_
  subst he
  exact ⟨_, rfl, _, _, _, [], _, [], hW', trodAll_mk1 (shut_bool Tryd.underlying4 _), (trodAll_cons_mk (Below.trod laidOut (by kernel_rfl) (of_decide_eq_true (by kernel_rfl)) k0 bel lt0) trodAll_mk0), rfl, bel.frame _, fun h => by cases h⟩
set_option maxRecDepth 100000 in
theorem valueCanon_lifted (os : Os) (started : os.Started) (H : Type) (enc : TypeId × Value → H) (F : Stop.Interp) :
    ReturnsInHanded {} Tryd.checked os 6 .any ((OpenSpec.ofChange Rows.valueCanonSpec).preRow enc Tryd.prog Tryd.f6 Rows.valueCanonRow.domain false Rows.valueCanonRow.laid) (((OpenSpec.ofChange Rows.valueCanonSpec).at F).post enc Tryd.prog Tryd.f6 false true false false) := by
  obtain ⟨x, hx⟩ := valueCanon_reads os enc
  refine returnsInHanded_of_row (C := Tryd.checked) (s := OpenSpec.ofChange Rows.valueCanonSpec) own started (by kernel_rfl) Tryd.func6
    (witness_row_at (enc := enc) (C := Tryd.checked) false (valueCanonWorld os) #[.agg #[.int .i64 0, .int .i64 0, .float .f64 0, .string .empty, .slice none 0 0, .slice none 0 0]] rfl (by kernel_rfl) (by kernel_rfl) (by kernel_rfl)
      (OpenSpec.preRow_of_cond 8 hx rfl (fun k hk => by cases hk) (by kernel_rfl) (valueCanon_laid os))) ?_
  intro W base args ds gs before hval hW _ _ hsz hL _ _
  exact valueCanon_contract H enc W base args ds gs before hval hW hsz
theorem valueCanon_said : Rows.ValueCanonSaid :=
  OpenClaim.holds_of_cond 6 Tryd.f6 rfl rfl rfl rfl rfl rfl rfl ⟨rfl, rfl, rfl, rfl, rfl⟩ rfl rfl rfl rfl rfl (by kernel_rfl) Tryd.func6 (by kernel_rfl)
    (of_decide_eq_true (by kernel_rfl)) (by unfold Func.isWrapper; first | (rw [if_pos (by decide +kernel)]; kernel_rfl) | (rw [if_neg (by decide +kernel)]; exact ⟨rfl, rfl⟩))
    (fun os started H enc _ F => by rw [OpenClaim.pre_eq_preRow]; exact valueCanon_lifted os started H enc F)
theorem valueCanon_plain (f : FuncId) (fn : Func) (hf : Tryd.pinned.checked.prog.funcNamed "bascule/basculelaw04.ValueCanon" = some f) (hfn : Tryd.pinned.checked.prog.funcs[f]? = some fn) :
    false = Tryd.pinned.checked.prog.looks [] ∧ ∀ (j : Nat) t, fn.params[j]? = some t → Tryd.pinned.checked.prog.wantsStandIn t = false := by
  obtain rfl : f = 6 := Option.some.inj ((show Tryd.prog.funcNamed "bascule/basculelaw04.ValueCanon" = some 6 by kernel_rfl).symm.trans hf) |>.symm
  obtain rfl : fn = Tryd.f6 := (Option.some.inj (Tryd.func6.symm.trans hfn)).symm
  refine ⟨by kernel_rfl, fun j t ht => ?_⟩
  rw [Tryd.params6] at ht
  obtain rfl : t = 26 := by simpa using Array.mem_of_getElem? ht
  exact (show Tryd.prog.wantsStandIn 26 = false by kernel_rfl)
/-- the card -/
theorem valueCanon_proved : Rows.ValueCanonCardSaid :=
  Claim7.holds_tied_plain_at .later [] _ _ _ _ valueCanon_said (fun _ h => by cases h) (by kernel_rfl) (fun _ h => by cases h) valueCanon_row_tie rfl ⟨rfl, rfl⟩ (by kernel_rfl) rfl valueCanon_plain (by kernel_rfl)
#print axioms valueCanon_proved
end Go.Proofs.YtieciegfloldhaaDoor
