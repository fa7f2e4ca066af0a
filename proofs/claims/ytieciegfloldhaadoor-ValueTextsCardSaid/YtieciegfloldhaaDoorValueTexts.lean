/- THE STATEMENT ValueTexts is proved: for both values the Go function ValueTexts returns true, and its arguments read afterwards as before; without conditions. -/
import Derived.Test.YtieciegfloldhaaDoorTextI
import Derived.Test.YtieciegfloldhaaDoorRRight
import Derived.Test.YtieciegfloldhaaDoorVAwake
import Derived.Test.YtieciegfloldhaaDoorOpenV
import Derived.Test.YtieciegfloldhaaDoorCards
import Derived.Test.YtieciegfloldhaaDoorTie
import Derived.WalkKit
import Derived.Deep.DeepHandedRow
import Derived.SevenTiedAt
import Derived.Lib.LaidTab
import Derived.Stop.LaidErr
namespace Go.Proofs.YtieciegfloldhaaDoor
open Go.ChangeShapes Go.WideShapes Go.ChangeAt Go.RowKit Go
set_option linter.unusedVariables false

theorem rrightT (t : VT) (cs : List Value) (w : World) (hv : ValAt w w.heap.size cs t) : Calls Tryd.prog 11 #[.agg ⟨cs⟩] w fun e w' => e = .returned (.bool (rightT t)) ∧ Below w.heap.size w w' := rright_top t cs w hv
theorem texts_same {a b : VT} (hs : saneV a) (hs' : saneV b) (hr : rightT a = true) (hr' : rightT b = true) : ((⟨(textV a).toArray⟩ : ByteArray).toList == (⟨(textV b).toArray⟩ : ByteArray).toList) = (ordV a b == 0) := by
  have h := texts_iff hs hs' hr hr'
  rw [toList_eq, toList_eq]
  show (textV a == textV b) = (ordV a b == 0)
  by_cases e : textV a = textV b
  · rw [h.1 e, e]; simp
  · rw [beq_eq_false_iff_ne.2 e, beq_eq_false_iff_ne.2 (fun x => e (h.2 x))]
set_option maxHeartbeats 8000000 in
set_option maxRecDepth 100000 in
theorem valueTexts_walk (w : World) (htb : TabP w) (cs1 : List Value) (t1 : VT) (hv1 : ValAt w w.heap.size cs1 t1) (cs2 : List Value) (t2 : VT) (hv2 : ValAt w w.heap.size cs2 t2) :
    Calls Tryd.prog 4 #[.agg ⟨cs1⟩, .agg ⟨cs2⟩] w fun e w' => e = .returned (.bool true) ∧ Below w.heap.size w w' := by
  have HTB := Lib.hid htb
  clear htb
  have HC1 := Lib.hid (val_one hv1).1
  have HV1 := Lib.hid hv1
  have HC2 := Lib.hid (val_one hv2).1
  have HV2 := Lib.hid hv2
  clear hv1 hv2
  go_enter Tryd.func4, Tryd.ntmps4
  go_upto_region 1 with (fail)
  have HR1 := Lib.hid (range_box w cs1 26)
  have HB1 := Lib.hid (box_below w (.cells ⟨cs1⟩ 26))
  have HS1 : Hid ((w.alloc (.cells ⟨cs1⟩ 26)).heap.size = w.heap.size + 1) := Lib.hid (by simp)
  generalize w.alloc (.cells ⟨cs1⟩ 26) = U1 at *
  have HR2 := Lib.hid (range_box U1 cs2 26)
  have HB2 := Lib.hid (box_below U1 (.cells ⟨cs2⟩ 26))
  have HS2 : Hid ((U1.alloc (.cells ⟨cs2⟩ 26)).heap.size = U1.heap.size + 1) := Lib.hid (by simp)
  generalize U1.alloc (.cells ⟨cs2⟩ 26) = U2 at *
  obtain ⟨p1, hp1⟩ : ∃ p1, w.heap.size = p1 := ⟨_, rfl⟩
  obtain ⟨p2, hp2⟩ : ∃ p2, p1 + 1 = p2 := ⟨_, rfl⟩
  rw [hp1, hp2]
  have e1 : w.heap.size = p1 := by exact hp1
  have e2 : U1.heap.size = p2 := by have := HS1.out; omega
  have eW : U2.heap.size = p2 + 1 := by have := HS2.out; omega
  have HZ2 := Lib.hid (Below.refl U2.heap.size U2)
  have HZ1 : Hid (Below U1.heap.size U1 U2) := Lib.hid (HB2.out.trans (HZ2.out.mono (by have := HS2.out; omega)))
  have HX1 : Hid (U2.rangeAt p1 0 cs1) := Lib.hid (by have h := rangeAt_below HR1.out HZ1.out (show w.heap.size < U1.heap.size by have := HS1.out; omega); rw [e1] at h; exact h)
  have HX2 : Hid (U2.rangeAt p2 0 cs2) := Lib.hid (by have h := rangeAt_below HR2.out HZ2.out (show U1.heap.size < U2.heap.size by have := HS2.out; omega); rw [e2] at h; exact h)
  have HBW : Hid (Below w.heap.size w U2) := Lib.hid (HB1.out.trans (HZ1.out.mono (by have := HS1.out; omega)))
  have HY1 : Hid (ValAt U2 U2.heap.size cs1 t1) := Lib.hid (HV1.out.next HBW.out)
  have HY2 : Hid (ValAt U2 U2.heap.size cs2 t2) := Lib.hid (HV2.out.next HBW.out)
  have HLT : Hid (p1 < U2.heap.size ∧ p2 < U2.heap.size) := Lib.hid (by omega)
  clear HR1 HB1 HS1 HZ1 HV1 e1 hp1 HR2 HB2 HS2 HZ2 HV2 e2 hp2 eW
  obtain ⟨W, rfl⟩ : ∃ W, W = U2 := ⟨_, rfl⟩
  go_wp2_with (go_at_call 7; fail)
  refine (awake04 _).mono ?_
  rintro e v0 ⟨rfl, hb⟩
  have HK0 := Lib.hid hb
  clear hb
  have HRI1 := Lib.hid (rangeAt_below HX1.out HK0.out HLT.out.1)
  go_wp2_with (first | ((with_reducible refine wl_sload 26 _ rfl ?hwg p1 0 cs1 _ rfl HRI1.out Tryd.underlying26 rfl ?hig ?_); (case hwg => first | exact wanted_none rfl | exact wanted_if rfl rfl rfl rfl); (case hig => rw [HC1.out]; kernel_rfl)) | (go_at_call 8; fail))
  refine (vsmall t1 cs1 v0 (HY1.out.next HK0.out)).mono ?_
  rintro e v1 ⟨b, rfl, hb⟩
  have HK1 := Lib.hid (HK0.out.trans (hb.mono HK0.out.size))
  clear hb HRI1
  cases b with
  | false =>
    go_wp2_with (go_at_call 7; fail)
    refine (awake04 _).mono ?_
    rintro e wf ⟨rfl, hbf⟩
    have HBF := Lib.hid hbf
    clear hbf
    go_wp2
    go_ret
    exact ⟨rfl, HBW.out.trans ((HK1.out.trans (HBF.out.mono HK1.out.size)).mono HBW.out.size)⟩
  | true =>
    have HRI2 := Lib.hid (rangeAt_below HX2.out HK1.out HLT.out.2)
    go_wp2_with (first | ((with_reducible refine wl_sload 26 _ rfl ?hwg p2 0 cs2 _ rfl HRI2.out Tryd.underlying26 rfl ?hig ?_); (case hwg => first | exact wanted_none rfl | exact wanted_if rfl rfl rfl rfl); (case hig => rw [HC2.out]; kernel_rfl)) | (go_at_call 8; fail))
    refine (vsmall t2 cs2 v1 (HY2.out.next HK1.out)).mono ?_
    rintro e v2 ⟨b, rfl, hb⟩
    have HK2 := Lib.hid (HK1.out.trans (hb.mono HK1.out.size))
    clear hb HRI2
    cases b with
    | false =>
      go_wp2_with (go_at_call 7; fail)
      refine (awake04 _).mono ?_
      rintro e wf ⟨rfl, hbf⟩
      have HBF := Lib.hid hbf
      clear hbf
      go_wp2
      go_ret
      exact ⟨rfl, HBW.out.trans ((HK2.out.trans (HBF.out.mono HK2.out.size)).mono HBW.out.size)⟩
    | true =>
      have HRI := Lib.hid (rangeAt_below HX1.out HK2.out HLT.out.1)
      go_wp2_with (first | ((with_reducible refine wl_sload 26 _ rfl ?hwg p1 0 cs1 _ rfl HRI.out Tryd.underlying26 rfl ?hig ?_); (case hwg => first | exact wanted_none rfl | exact wanted_if rfl rfl rfl rfl); (case hig => rw [HC1.out]; kernel_rfl)) | (go_at_call 11; fail))
      refine (rrightT t1 cs1 v2 (HY1.out.next HK2.out)).mono ?_
      rintro e v3 ⟨rfl, hb⟩
      have HK3 := Lib.hid (HK2.out.trans (hb.mono HK2.out.size))
      clear hb HRI
      cases hr1 : rightT t1 with
      | false =>
        go_wp2_with (go_at_call 7; fail)
        refine (awake04 _).mono ?_
        rintro e wf ⟨rfl, hbf⟩
        have HBF := Lib.hid hbf
        clear hbf
        go_wp2
        go_ret
        exact ⟨rfl, HBW.out.trans ((HK3.out.trans (HBF.out.mono HK3.out.size)).mono HBW.out.size)⟩
      | true =>
        have HRI := Lib.hid (rangeAt_below HX2.out HK3.out HLT.out.2)
        go_wp2_with (first | ((with_reducible refine wl_sload 26 _ rfl ?hwg p2 0 cs2 _ rfl HRI.out Tryd.underlying26 rfl ?hig ?_); (case hwg => first | exact wanted_none rfl | exact wanted_if rfl rfl rfl rfl); (case hig => rw [HC2.out]; kernel_rfl)) | (go_at_call 11; fail))
        refine (rrightT t2 cs2 v3 (HY2.out.next HK3.out)).mono ?_
        rintro e v4 ⟨rfl, hb⟩
        have HK4 := Lib.hid (HK3.out.trans (hb.mono HK3.out.size))
        clear hb HRI
        cases hr2 : rightT t2 with
        | false =>
          go_wp2_with (go_at_call 7; fail)
          refine (awake04 _).mono ?_
          rintro e wf ⟨rfl, hbf⟩
          have HBF := Lib.hid hbf
          clear hbf
          go_wp2
          go_ret
          exact ⟨rfl, HBW.out.trans ((HK4.out.trans (HBF.out.mono HK4.out.size)).mono HBW.out.size)⟩
        | true =>
          have HRI := Lib.hid (rangeAt_below HX1.out HK4.out HLT.out.1)
          have HT1 := Lib.hid (text_any t1 cs1 v4 (HTB.out.next (HBW.out.trans (HK4.out.mono HBW.out.size))) (HY1.out.next HK4.out))
          rw [hr1] at HT1
          go_wp2_with (first | ((with_reducible refine wl_sload 26 _ rfl ?hwg p1 0 cs1 _ rfl HRI.out Tryd.underlying26 rfl ?hig ?_); (case hwg => first | exact wanted_none rfl | exact wanted_if rfl rfl rfl rfl); (case hig => rw [HC1.out]; kernel_rfl)) | (go_at_call 12; fail))
          refine HT1.out.mono ?_
          rintro e v5 ⟨rfl, hb⟩
          have HK5 := Lib.hid (HK4.out.trans (hb.mono HK4.out.size))
          clear hb HRI HT1
          have HRI := Lib.hid (rangeAt_below HX2.out HK5.out HLT.out.2)
          have HT2 := Lib.hid (text_any t2 cs2 v5 (HTB.out.next (HBW.out.trans (HK5.out.mono HBW.out.size))) (HY2.out.next HK5.out))
          rw [hr2] at HT2
          go_wp2_with (first | ((with_reducible refine wl_sload 26 _ rfl ?hwg p2 0 cs2 _ rfl HRI.out Tryd.underlying26 rfl ?hig ?_); (case hwg => first | exact wanted_none rfl | exact wanted_if rfl rfl rfl rfl); (case hig => rw [HC2.out]; kernel_rfl)) | (go_at_call 12; fail))
          refine HT2.out.mono ?_
          rintro e v6 ⟨rfl, hb⟩
          have HK6 := Lib.hid (HK5.out.trans (hb.mono HK5.out.size))
          clear hb HRI HT2
          have HR1 := Lib.hid (rangeAt_below HX1.out HK6.out HLT.out.1)
          have HR2 := Lib.hid (rangeAt_below HX2.out HK6.out HLT.out.2)
          have HEQ := Lib.hid (texts_same (sane_of t1 cs1 HY1.out) (sane_of t2 cs2 HY2.out) hr1 hr2)
          clear hr1 hr2
          generalize (⟨(textV t1).toArray⟩ : ByteArray) = S1 at *
          generalize (⟨(textV t2).toArray⟩ : ByteArray) = S2 at *
          have HSM := Lib.hid (vsame t1 t2 cs1 cs2 v6 (HY1.out.next HK6.out) (HY2.out.next HK6.out))
          rw [← HEQ.out] at HSM
          clear HEQ
          go_wp2_with (first | ((with_reducible refine wl_sload 26 _ rfl ?hwg p1 0 cs1 _ rfl HR1.out Tryd.underlying26 rfl ?hig ?_); (case hwg => first | exact wanted_none rfl | exact wanted_if rfl rfl rfl rfl); (case hig => rw [HC1.out]; kernel_rfl)) | ((with_reducible refine wl_sload 26 _ rfl ?hwh p2 0 cs2 _ rfl HR2.out Tryd.underlying26 rfl ?hih ?_); (case hwh => first | exact wanted_none rfl | exact wanted_if rfl rfl rfl rfl); (case hih => rw [HC2.out]; kernel_rfl)) | (go_at_call 10; fail))
          refine HSM.out.mono ?_
          rintro e v7 ⟨rfl, hb⟩
          have HKE := Lib.hid (HK6.out.trans (hb.mono HK6.out.size))
          clear hb HR1 HR2 HSM
          go_wp2
          go_ret
          exact ⟨by simp, HBW.out.trans (HKE.out.mono HBW.out.size)⟩
theorem valueTexts_tab {W : World} (hL : laidMetH Tryd.prog Rows.valueTextsRow.laid W) : TabP W := by
  have h1 : laidMet Tryd.prog [("internal/strconv.uint64pow10", Rows.laid_internal_strconv_uint64pow10)] W := laidMet.tail (laidMet.tail (show laidMet Tryd.prog Rows.valueTextsRow.laid W from hL))
  have e : (Rows.laid_internal_strconv_uint64pow10 : DataW Unit) = Lib.tabData .u64 Lib.pow10Tab := by kernel_rfl
  rw [e] at h1
  exact Lib.tabIs_of_head (g := 2) (t := 117) (e := 70) (n := 20) (by kernel_rfl) (by kernel_rfl) Tryd.underlying117 Tryd.underlying70 (by kernel_rfl) (by kernel_rfl) h1


noncomputable def valueTextsWorld (os : Os) : World :=
  { World.holding Tryd.prog os ⟨#[], #[], []⟩ with heap := ((((World.holding Tryd.prog os ⟨#[], #[], []⟩).heap).modify 2 (fun x => match x with | .cells _ t frozen => .cells #[.int .u64 1, .int .u64 10, .int .u64 100, .int .u64 1000, .int .u64 10000, .int .u64 100000, .int .u64 1000000, .int .u64 10000000, .int .u64 100000000, .int .u64 1000000000, .int .u64 10000000000, .int .u64 100000000000, .int .u64 1000000000000, .int .u64 10000000000000, .int .u64 100000000000000, .int .u64 1000000000000000, .int .u64 10000000000000000, .int .u64 100000000000000000, .int .u64 1000000000000000000, .int .u64 10000000000000000000] t frozen | o => o)).modify 3 (fun x => match x with | .cells _ t frozen => .cells #[.int .u8 0, .int .u8 1, .int .u8 28, .int .u8 2, .int .u8 29, .int .u8 14, .int .u8 24, .int .u8 3, .int .u8 30, .int .u8 22, .int .u8 20, .int .u8 15, .int .u8 25, .int .u8 17, .int .u8 4, .int .u8 8, .int .u8 31, .int .u8 27, .int .u8 13, .int .u8 23, .int .u8 21, .int .u8 19, .int .u8 16, .int .u8 7, .int .u8 26, .int .u8 12, .int .u8 18, .int .u8 6, .int .u8 11, .int .u8 5, .int .u8 10, .int .u8 9] t frozen | o => o)).modify 4 (fun x => match x with | .cells _ t frozen => .cells #[.int .u8 0, .int .u8 1, .int .u8 56, .int .u8 2, .int .u8 57, .int .u8 49, .int .u8 28, .int .u8 3, .int .u8 61, .int .u8 58, .int .u8 42, .int .u8 50, .int .u8 38, .int .u8 29, .int .u8 17, .int .u8 4, .int .u8 62, .int .u8 47, .int .u8 59, .int .u8 36, .int .u8 45, .int .u8 43, .int .u8 51, .int .u8 22, .int .u8 53, .int .u8 39, .int .u8 33, .int .u8 30, .int .u8 24, .int .u8 18, .int .u8 12, .int .u8 5, .int .u8 63, .int .u8 55, .int .u8 48, .int .u8 27, .int .u8 60, .int .u8 41, .int .u8 37, .int .u8 16, .int .u8 46, .int .u8 35, .int .u8 44, .int .u8 21, .int .u8 52, .int .u8 32, .int .u8 23, .int .u8 11, .int .u8 54, .int .u8 26, .int .u8 40, .int .u8 15, .int .u8 34, .int .u8 20, .int .u8 31, .int .u8 10, .int .u8 25, .int .u8 14, .int .u8 19, .int .u8 9, .int .u8 13, .int .u8 8, .int .u8 7, .int .u8 6] t frozen | o => o) }
set_option maxRecDepth 100000 in
theorem valueTexts_laid (os : Os) : laidMet Tryd.prog Rows.valueTextsRow.laid ((valueTextsWorld os).forCall (fun _ _ => 0) ⟨#[], #[.agg #[.int .i64 0, .int .i64 0, .float .f64 0, .string .empty, .slice none 0 0, .slice none 0 0], .agg #[.int .i64 0, .int .i64 0, .float .f64 0, .string .empty, .slice none 0 0, .slice none 0 0]], []⟩).memory :=
  laidMet_of_run' 8 (by kernel_rfl) (by kernel_rfl)
set_option maxRecDepth 100000 in
theorem valueTexts_reads (os : Os) {H : Type} (enc : TypeId × Value → H) : ∃ x, DataW.whole enc Tryd.prog ((valueTextsWorld os).forCall (fun _ _ => 0) ⟨#[], #[.agg #[.int .i64 0, .int .i64 0, .float .f64 0, .string .empty, .slice none 0 0, .slice none 0 0], .agg #[.int .i64 0, .int .i64 0, .float .f64 0, .string .empty, .slice none 0 0, .slice none 0 0]], []⟩).memory Tryd.f4.params.toList Rows.valueTextsSpec.vars false (#[.agg #[.int .i64 0, .int .i64 0, .float .f64 0, .string .empty, .slice none 0 0, .slice none 0 0], .agg #[.int .i64 0, .int .i64 0, .float .f64 0, .string .empty, .slice none 0 0, .slice none 0 0]] : Array Value).toList 8 = some x :=
  Option.isSome_iff_exists.1 (by kernel_rfl)
set_option maxRecDepth 100000 in
theorem valueTexts_contract (H : Type) (enc : TypeId × Value → H) (W : World) (base : Nat) (args : Array Value) (ds gs : List (DataW H)) (before : List MemPlace)
    (hval0 : ∀ (j : Nat) t v, Tryd.f4.params[j]? = some t → args[j]? = some v → Value.okWide Tryd.prog W .any base t v)
    (hW : DataW.Whole enc Tryd.prog Tryd.f4.params.toList Rows.valueTextsSpec.vars false W args.toList ds gs before)
    (hL : laidMetH Tryd.prog Rows.valueTextsRow.laid W) :
    Calls Tryd.prog 4 args W fun e W' => ∃ v, e = .returned v ∧ Rows.valueTextsSpec.post enc Tryd.prog Tryd.f4 false true false false W args v W' := by
  have hval : ∀ (j : Nat) t v, Tryd.f4.params[j]? = some t → args[j]? = some v → Value.okWide Tryd.prog W .any base t v := hval0
  have hW' := hW
  obtain ⟨p, q, hA0, hV, rfl, hfz, hnd⟩ := hW
  have hA : DataW.TrodAll enc Tryd.prog W 0 (fun _ => true) true Tryd.f4.params.toList args.toList ds p := hA0
  rw [Tryd.params4] at hA hval
  obtain ⟨v0, vs0, d0, ds0, p0, q0, hargs, rfl, rfl, h0, r0⟩ := trodAll_cons hA
  obtain ⟨v1, vs1, d1, ds1, p1, q1, rfl, rfl, rfl, h1, r1⟩ := trodAll_cons r0
  obtain ⟨rfl, rfl, rfl⟩ := trodAll_nil r1
  obtain rfl : args = #[v0, v1] := by cases args; simp_all
  obtain ⟨rfl, rfl⟩ := trodVars_none hV
  have k0 := h0
  have lt0 := lt_of_trod k0
  obtain ⟨cs0, m0, rfl, hm0⟩ := val_arg (hval 0 26 v0 rfl rfl) h0
  have k1 := h1
  have lt1 := lt_of_trod k1
  obtain ⟨cs1, m1, rfl, hm1⟩ := val_arg (hval 1 26 v1 rfl rfl) h1
  clear hA0 hval0
  refine (valueTexts_walk W (valueTexts_tab hL) cs0 m0 hm0 cs1 m1 hm1).mono fun e W' ⟨he, bel⟩ => ?_
  subst he
  exact ⟨_, rfl, _, _, _, [], _, [], hW', trodAll_mk1 (shut_bool Tryd.underlying4 _), (trodAll_cons_mk (Below.trod laidOut (by kernel_rfl) (of_decide_eq_true (by kernel_rfl)) k0 bel lt0) (trodAll_cons_mk (Below.trod laidOut (by kernel_rfl) (of_decide_eq_true (by kernel_rfl)) k1 bel lt1) trodAll_mk0)), rfl, bel.frame _, fun h => by cases h⟩
set_option maxRecDepth 100000 in
theorem valueTexts_lifted (os : Os) (started : os.Started) (H : Type) (enc : TypeId × Value → H) (F : Stop.Interp) :
    ReturnsInHanded {} Tryd.checked os 4 .any ((OpenSpec.ofChange Rows.valueTextsSpec).preRow enc Tryd.prog Tryd.f4 Rows.valueTextsRow.domain false Rows.valueTextsRow.laid) (((OpenSpec.ofChange Rows.valueTextsSpec).at F).post enc Tryd.prog Tryd.f4 false true false false) := by
  obtain ⟨x, hx⟩ := valueTexts_reads os enc
  refine returnsInHanded_of_row (C := Tryd.checked) (s := OpenSpec.ofChange Rows.valueTextsSpec) own started (by kernel_rfl) Tryd.func4
    (witness_row_at (enc := enc) (C := Tryd.checked) false (valueTextsWorld os) #[.agg #[.int .i64 0, .int .i64 0, .float .f64 0, .string .empty, .slice none 0 0, .slice none 0 0], .agg #[.int .i64 0, .int .i64 0, .float .f64 0, .string .empty, .slice none 0 0, .slice none 0 0]] rfl (by kernel_rfl) (by kernel_rfl) (by kernel_rfl)
      (OpenSpec.preRow_of_cond 8 hx rfl (fun k hk => by cases hk) (by kernel_rfl) (valueTexts_laid os))) ?_
  intro W base args ds gs before hval hW _ _ hsz hL _ _
  exact valueTexts_contract H enc W base args ds gs before hval hW hL
theorem valueTexts_said : Rows.ValueTextsSaid :=
  OpenClaim.holds_of_cond 4 Tryd.f4 rfl rfl rfl rfl rfl rfl rfl ⟨rfl, rfl, rfl, rfl, rfl⟩ rfl rfl rfl rfl rfl (by kernel_rfl) Tryd.func4 (by kernel_rfl)
    (of_decide_eq_true (by kernel_rfl)) (by unfold Func.isWrapper; first | (rw [if_pos (by decide +kernel)]; kernel_rfl) | (rw [if_neg (by decide +kernel)]; exact ⟨rfl, rfl⟩))
    (fun os started H enc _ F => by rw [OpenClaim.pre_eq_preRow]; exact valueTexts_lifted os started H enc F)
theorem valueTexts_plain (f : FuncId) (fn : Func) (hf : Tryd.pinned.checked.prog.funcNamed "bascule/basculelaw04.ValueTexts" = some f) (hfn : Tryd.pinned.checked.prog.funcs[f]? = some fn) :
    false = Tryd.pinned.checked.prog.looks [] ∧ ∀ (j : Nat) t, fn.params[j]? = some t → Tryd.pinned.checked.prog.wantsStandIn t = false := by
  obtain rfl : f = 4 := Option.some.inj ((show Tryd.prog.funcNamed "bascule/basculelaw04.ValueTexts" = some 4 by kernel_rfl).symm.trans hf) |>.symm
  obtain rfl : fn = Tryd.f4 := (Option.some.inj (Tryd.func4.symm.trans hfn)).symm
  refine ⟨by kernel_rfl, fun j t ht => ?_⟩
  rw [Tryd.params4] at ht
  obtain rfl : t = 26 := by simpa using Array.mem_of_getElem? ht
  exact (show Tryd.prog.wantsStandIn 26 = false by kernel_rfl)
/-- the card -/
theorem valueTexts_proved : Rows.ValueTextsCardSaid :=
  Claim7.holds_tied_plain_at .later [] _ _ _ _ valueTexts_said (fun _ h => by cases h) (by kernel_rfl) (fun _ h => by cases h) valueTexts_row_tie rfl ⟨rfl, rfl⟩ (by kernel_rfl) rfl valueTexts_plain (by kernel_rfl)
#print axioms valueTexts_proved
end Go.Proofs.YtieciegfloldhaaDoor
