/- THE STATEMENT InferNil is proved: for every expression and all variables the Go function InferNil returns true, and its arguments read afterwards as before; without conditions. -/
import Derived.Test.YtppmkehdhpgdcaaGreatPack13
import Derived.Test.YtppmkehdhpgdcaaGreatPack35
import Derived.Test.YtppmkehdhpgdcaaGreatPack54
namespace Go.Proofs.YtppmkehdhpgdcaaGreat
open Go Go.ChangeShapes Go.WideShapes Go.ChangeAt Go.RowKit P
set_option linter.unusedVariables false
set_option maxHeartbeats 2000000 in
set_option maxRecDepth 100000 in
theorem inferNil_walk (w : World) (cs : List Value) (t : ET) (hv : ExpAt w w.heap.size cs t) (v : Value) (E : List VarT) (hE : SlAt w w.heap.size 11 (VarAt w w.heap.size) v E) (hEl : E.length ≤ maxLen) :
    Calls Tryz.prog 5 #[.agg ⟨cs⟩, v] w fun e w' => e = .returned (.bool true) ∧ Below w.heap.size w w' := by
  have HCL := Lib.hid (eslen hv)
  have HB := Lib.hid (box_below w (.cells ⟨cs⟩ 30))
  have HR := Lib.hid (range_box w cs 30)
  have HS := Lib.hid (box_size w (.cells ⟨cs⟩ 30))
  obtain ⟨_, EA, ec, rfl, _⟩ := hE
  obtain ⟨j0, hi, hz0, hz1, hz2⟩ := info_partsE info_exprO
  have HJ0 := Lib.hid hi
  have HY0 := Lib.hid hz0
  have HY1 := Lib.hid hz1
  clear hv hEl hi hz0 hz1 hz2
  go_enter Tryz.func5, Tryz.ntmps5
  go_upto_region 1 with (fail)
  generalize w.alloc (.cells ⟨cs⟩ 30) = W at *
  go_upto_region 2 with (first | ((with_reducible refine wl_sload 30 _ rfl ?hwa w.heap.size 0 cs _ rfl HR.out Tryz.underlying30 rfl ?hia ?_); (case hwa => (first | exact wanted_none rfl | exact wanted_if rfl rfl rfl rfl)); (case hia => rw [HCL.out]; kernel_rfl)) | (go_at_call 11; refine (ilabel_nil cs _ _).mono ?_; rintro e z ⟨rfl, hb⟩; have HB1 := Lib.hid (HB.out.trans (hb.mono HB.out.size)); have HR1 := Lib.hid (rangeAt_below HR.out hb HS.out); clear hb))
  have HB2 := Lib.hid (HB1.out.alloc HB1.out.size (.cells ⟨cs⟩ 30))
  go_upto_region 3 with (first | ((with_reducible refine wl_sload 30 _ rfl ?hwb w.heap.size 0 cs _ rfl HR1.out Tryz.underlying30 rfl ?hib ?_); (case hwb => (first | exact wanted_none rfl | exact wanted_if rfl rfl rfl rfl)); (case hib => rw [HCL.out]; kernel_rfl)) | ((with_reducible refine wl_build1 28 _ rfl ?hw3 30 j0 _ cs ?hx3 Tryz.underlying28 HJ0.out HY0.out ?hs3 ?h03 ?hm3 ?_); (case hw3 => (first | exact wanted_none rfl | exact wanted_if rfl rfl rfl rfl)); (case hx3 => rfl); (case hs3 => rw [HCL.out, HY1.out]); (case h03 => rw [HCL.out]; decide); (case hm3 => rw [HCL.out]; decide)) | (go_at_call 17; refine (iall_nil _ _ _).mono ?_; rintro e z2 ⟨rfl, hzw⟩; rw [hzw]; clear hzw z2))
  go_wp2_with (go_at_call 7; refine (awake11 _).mono ?_; rintro e z3 ⟨rfl, hb⟩; have HB3 := Lib.hid (HB2.out.trans (hb.mono HB2.out.size)); clear hb)
  go_ret
  exact ⟨rfl, HB3.out⟩
set_option maxRecDepth 100000 in
theorem inferNil_lifted (os : Os) (started : os.Started) (H : Type) (enc : TypeId × Value → H) :
    ReturnsInHanded {} Tryz.checked os 5 .any (Rows.inferNilSpec.pre6 enc Tryz.prog Tryz.f5 Rows.inferNilRow.domain false) (Rows.inferNilSpec.post enc Tryz.prog Tryz.f5 false true false false) := by
  refine returnsInHanded_of_change (C := Tryz.checked) own started (by kernel_rfl) Tryz.func5
    (ChangeSpec.witness6 (enc := enc) (C := Tryz.checked) false ⟨#[], #[.agg #[.int .i64 0, .string ⟨#[]⟩, .int .i64 0, .int .i64 0, .float .f64 0, .string ⟨#[]⟩, .slice none 0 0, .slice none 0 0, .slice none 0 0, .slice none 0 0], .slice none 0 0], []⟩ 8 (by kernel_rfl) (by kernel_rfl) (by kernel_rfl) (by kernel_rfl)) ?_
  intro W base args ds gs before hval0 hW hcnd _
  have hval : ∀ (j : Nat) t v, Tryz.f5.params[j]? = some t → args[j]? = some v → Value.okWide Tryz.prog W .any base t v := hval0
  have hW' := hW
  obtain ⟨p, q, hA0, hV, rfl, hfz, hnd⟩ := hW
  have hA : DataW.TrodAll enc Tryz.prog W 0 (fun _ => true) true Tryz.f5.params.toList args.toList ds p := hA0
  rw [Tryz.params5] at hA hval
  obtain ⟨v0, vs0, d0, ds0, p0, q0, hargs, rfl, rfl, h0, r0⟩ := trodAll_cons hA
  obtain ⟨v1, vs1, d1, ds1, p1, q1, rfl, rfl, rfl, h1, r1⟩ := trodAll_cons r0
  obtain ⟨rfl, rfl, rfl⟩ := trodAll_nil r1
  obtain rfl : args = #[v0, v1] := by cases args; simp_all
  obtain ⟨rfl, rfl⟩ := trodVars_none hV
  have k0 := h0
  have lt0 := lt_of_trod k0
  obtain ⟨cs0, m0, rfl, hm0⟩ := expr_arg (hval 0 30 v0 rfl rfl) h0
  have k1 := h1
  have lt1 := lt_of_trod k1
  obtain ⟨m1, hm1, hl1⟩ := vars_arg (hval 1 31 v1 rfl rfl) h1
  clear hA0 hval0
  refine (inferNil_walk W cs0 m0 hm0 v1 m1 hm1 hl1).mono fun e W' ⟨he, bel⟩ => ?_
  subst he
  exact ⟨_, rfl, _, _, _, [], _, [], hW', trodAll_mk1 (shut_bool Tryz.underlying4 _), (trodAll_cons_mk (Below.trod laidOut (by kernel_rfl) (of_decide_eq_true (by kernel_rfl)) k0 bel lt0) (trodAll_cons_mk (Below.trod laidOut (by kernel_rfl) (of_decide_eq_true (by kernel_rfl)) k1 bel lt1) trodAll_mk0)), rfl, bel.frame _, fun h => by cases h⟩
theorem inferNil_proved : Rows.InferNilSaid :=
  OpenClaim.holds_of_wide 5 Tryz.f5 rfl rfl rfl rfl rfl rfl rfl ⟨rfl, rfl, rfl, rfl, rfl⟩ rfl rfl rfl rfl rfl (by kernel_rfl) Tryz.func5 (by kernel_rfl)
    (of_decide_eq_true (by kernel_rfl)) (by unfold Func.isWrapper; first | (rw [if_pos (by decide +kernel)]; kernel_rfl) | (rw [if_neg (by decide +kernel)]; exact ⟨rfl, rfl⟩))
    (fun os started H enc _ => inferNil_lifted os started H enc)
#print axioms inferNil_proved
end Go.Proofs.YtppmkehdhpgdcaaGreat
