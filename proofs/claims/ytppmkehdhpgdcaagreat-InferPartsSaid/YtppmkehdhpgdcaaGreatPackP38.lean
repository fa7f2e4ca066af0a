/- Parts of a proof: EConst, EConst2. -/
import Derived.Test.YtppmkehdhpgdcaaGreatPackP29
import Derived.Test.YtppmkehdhpgdcaaGreatPackP31
import Derived.Test.YtppmkehdhpgdcaaGreatPackP37
section
namespace Go.Proofs.YtppmkehdhpgdcaaGreat
open Go Go.RowKit
set_option linter.unusedVariables false
set_option linter.unusedSimpArgs false
theorem cmpF_neg {f : Nat} (hf : f < 2 ^ 64) : cmpF f 0 < 0 ↔ ¬ 9218868437227405312 < f % 9223372036854775808 ∧ 9223372036854775808 ≤ f := by
  have nf := nanD_fin hf
  have bf := nanD_val (dat f)
  have n0 : nanD (dat 0) = 0 := by decide +kernel
  have c0 : clsD (dat 0) = 0 := by decide +kernel
  have v0 : valD (dat 0) = 0 := by decide +kernel
  have r0 : rankZ 0 = 0 := rfl
  have rf := rank_val hf
  rw [cmpF_eq]
  unfold cmpF' cmpD
  rw [n0, c0, v0, r0]
  have e1 := cmpI_val (nanD (dat f)) 0
  have e2 := cmpI_val (clsD (dat f)) 0
  have e3 := cmpI_val (valD (dat f)) 0
  have e4 := cmpI_val (rankZ f) 0
  rcases Nat.lt_trichotomy (f % 9223372036854775808) 9218868437227405312 with h | h | h
  · obtain ⟨hv, hc⟩ := val_fin hf h
    have hz := val_zero (r := f % 9223372036854775808)
    have hn : nanD (dat f) = 0 := by
      rcases bf with h2 | h2
      · exact h2
      · have := nf.1 (by omega); omega
    have hrk : (f = 9223372036854775808 ∧ rankZ f = -1) ∨ (f ≠ 9223372036854775808 ∧ rankZ f = 0) := by
      by_cases h2 : f = 9223372036854775808
      · rw [if_pos h2] at rf; exact Or.inl ⟨h2, rf⟩
      · rw [if_neg h2] at rf; exact Or.inr ⟨h2, rf⟩
    have hvv : (9223372036854775808 ≤ f ∧ valD (dat f) = -((valF (f % 9223372036854775808) : Nat) : Int)) ∨ (¬ 9223372036854775808 ≤ f ∧ valD (dat f) = (valF (f % 9223372036854775808) : Nat)) := by
      by_cases hs : 9223372036854775808 ≤ f
      · rw [if_pos hs] at hv; exact Or.inl ⟨hs, hv⟩
      · rw [if_neg hs] at hv; exact Or.inr ⟨hs, hv⟩
    clear rf hv nf bf
    have hz1 := hz.1
    have hz2 := hz.2
    clear hz
    generalize valF (f % 9223372036854775808) = q at *
    generalize cmpI (nanD (dat f)) 0 = a at *
    generalize cmpI (clsD (dat f)) 0 = b at *
    generalize cmpI (valD (dat f)) 0 = c at *
    generalize cmpI (rankZ f) 0 = d at *
    (repeat' split) <;> omega
  · have hd : f = 9218868437227405312 ∨ f = 18442240474082181120 := by omega
    clear rf nf bf
    rcases hd with rfl | rfl
    · have hc : clsD (dat 9218868437227405312) = 1 := by decide +kernel
      have hn : nanD (dat 9218868437227405312) = 0 := by decide +kernel
      rw [hn] at e1 ⊢
      rw [hc] at e2 ⊢
      generalize cmpI 0 0 = a at *
      generalize cmpI 1 0 = b at *
      generalize cmpI (valD (dat 9218868437227405312)) 0 = c at *
      generalize cmpI (rankZ 9218868437227405312) 0 = d at *
      (repeat' split) <;> omega
    · have hc : clsD (dat 18442240474082181120) = -1 := by decide +kernel
      have hn : nanD (dat 18442240474082181120) = 0 := by decide +kernel
      rw [hn] at e1 ⊢
      rw [hc] at e2 ⊢
      generalize cmpI 0 0 = a at *
      generalize cmpI (-1) 0 = b at *
      generalize cmpI (valD (dat 18442240474082181120)) 0 = c at *
      generalize cmpI (rankZ 18442240474082181120) 0 = d at *
      (repeat' split) <;> omega
  · have hn : nanD (dat f) ≠ 0 := nf.2 h
    clear nf rf
    generalize cmpI (nanD (dat f)) 0 = a at *
    generalize cmpI (clsD (dat f)) 0 = b at *
    generalize cmpI (valD (dat f)) 0 = c at *
    generalize cmpI (rankZ f) 0 = d at *
    (repeat' split) <;> omega
theorem lt_neg {f : Nat} (hf : f < 2 ^ 64) (h : (fOrd f 0 == some .lt) = true) : cmpF f 0 < 0 := by
  have hn0 : nanB 0 = false := by decide +kernel
  have hn : nanB f = false := by
    rw [beq_iff_eq] at h
    cases hb : nanB f with
    | false => rfl
    | true =>
      have hd := nanB_eq f
      rw [hb] at hd
      have h1 : nanD (dat f) ≠ 0 := by simpa using hd.symm
      rw [ordB_eq, order_nan _ _ (Or.inl h1)] at h
      cases h
  unfold cmpF
  rw [hn, hn0, if_neg (by simp), if_neg (by simp), if_pos (Or.inl h)]
  decide
def negB (f : Nat) : Bool := decide (cmpF f 0 < 0)
theorem text_first {f : Nat} (hf : f < 2 ^ 64) : ∃ c t, textF f = c :: t ∧ (negB f = true → c = 45) ∧ (negB f = false → nanR f = false → c ≠ 45) := by
  have hn := cmpF_neg hf
  have hnan := nanR_eq hf
  unfold negB textF
  by_cases h1 : 9218868437227405312 < f % 9223372036854775808
  · rw [if_pos h1]
    refine ⟨_, _, rfl, fun h => ?_, fun _ h => ?_⟩
    · have := (hn.1 (of_decide_eq_true h)).1; omega
    · rw [hnan, decide_eq_true h1] at h; cases h
  · rw [if_neg h1]
    by_cases h2 : f < 9223372036854775808
    · rw [if_pos h2, List.nil_append]
      have hf0 : ¬ cmpF f 0 < 0 := fun h => by have := (hn.1 h).2; omega
      by_cases h3 : f % 9223372036854775808 = 9218868437227405312
      · rw [if_pos h3]
        exact ⟨_, _, rfl, fun h => absurd (of_decide_eq_true h) hf0, fun _ _ => by decide⟩
      · rw [if_neg h3]
        obtain ⟨c, t, he, hd⟩ := dec_head (partsF (f % 9223372036854775808)).1 (112 :: Lib.itoa (partsF (f % 9223372036854775808)).2)
        exact ⟨c, t, he, fun h => absurd (of_decide_eq_true h) hf0, fun _ _ h => by subst h; revert hd; decide⟩
    · rw [if_neg h2]
      refine ⟨45, _, rfl, fun _ => rfl, fun h => ?_⟩
      exact absurd (hn.2 ⟨h1, by omega⟩) (of_decide_eq_false h)
def rightW (t : VT) : Bool := decide (cntV t 0 ≤ 200) && rightV t 1
def constV (t : VT) : Bool := match t with
  | .mk k n f s ns its => ((k == 1) || ((k == 4) || (((k == 2) && decide (0 ≤ n)) || ((k == 3) && !(negB f))))) && rightW t
end Go.Proofs.YtppmkehdhpgdcaaGreat
end
section
namespace Go.Proofs.YtppmkehdhpgdcaaGreat
open Go Go.RowKit
set_option linter.unusedVariables false
set_option linter.unusedSimpArgs false
theorem lbyteE_at {s : ByteArray} {k : Nat} {c : UInt8} (h : s.data.toList[k]? = some c) (hk : k < s.size) : s[k]'hk = c := by
  have h2 : s.data[k]? = some c := by simpa using h
  obtain ⟨h3, h4⟩ := Array.getElem?_eq_some_iff.1 h2
  exact h4
set_option maxHeartbeats 2000000 in
set_option maxRecDepth 100000 in
theorem const_any (t : VT) (cs : List Value) (w : World) (hv : ValAt w w.heap.size cs t) : Calls Tryz.prog 86 #[.agg ⟨cs⟩] w fun e w' => e = .returned (.bool (constV t)) ∧ Below w.heap.size w w' := by
  cases t with
  | mk k n f s ns its =>
  obtain ⟨vn, vi, rfl, _, _, hff, _, _, _, _⟩ := hv.inv
  have hf := wf64 hff
  have HB1 := Lib.hid (box_below w (.cells ⟨[.int .i64 k, .int .i64 n, .float .f64 f, .string s, vn, vi]⟩ 27))
  have HRG := Lib.hid (range_box w [.int .i64 k, .int .i64 n, .float .f64 f, .string s, vn, vi] 27)
  have HRT : Hid (Calls Tryz.prog 111 #[.agg ⟨[.int .i64 k, .int .i64 n, .float .f64 f, .string s, vn, vi]⟩] (w.alloc (.cells ⟨[.int .i64 k, .int .i64 n, .float .f64 f, .string s, vn, vi]⟩ 27)) fun e w' => e = .returned (.bool (rightW (.mk k n f s ns its))) ∧ Below (w.alloc (.cells ⟨[.int .i64 k, .int .i64 n, .float .f64 f, .string s, vn, vi]⟩ 27)).heap.size (w.alloc (.cells ⟨[.int .i64 k, .int .i64 n, .float .f64 f, .string s, vn, vi]⟩ 27)) w') := Lib.hid (right_top _ _ _ (hv.next HB1.out))
  have d0 := cell_box w ⟨[.int .i64 k, .int .i64 n, .float .f64 f, .string s, vn, vi]⟩ 27 0
  have d1 := cell_box w ⟨[.int .i64 k, .int .i64 n, .float .f64 f, .string s, vn, vi]⟩ 27 1
  have d2 := cell_box w ⟨[.int .i64 k, .int .i64 n, .float .f64 f, .string s, vn, vi]⟩ 27 2
  simp only [List.getElem?_toArray, List.getElem?_cons_succ, List.getElem?_cons_zero] at d0 d1 d2
  have D1 := Lib.hid d1
  have D2 := Lib.hid d2
  have HSZ := Lib.hid (box_size w (.cells ⟨[.int .i64 k, .int .i64 n, .float .f64 f, .string s, vn, vi]⟩ 27))
  have HCV : Hid (constV (.mk k n f s ns its) = (((k == 1) || ((k == 4) || (((k == 2) && decide (0 ≤ n)) || ((k == 3) && !(negB f))))) && rightW (.mk k n f s ns its))) := Lib.hid rfl
  clear hv hff
  generalize rightW (.mk k n f s ns its) = rr at *
  rcases Classical.em (k = 1) with hk1 | hk1
  · subst hk1
    have HR : Hid (constV (.mk 1 n f s ns its) = rr) := Lib.hid (by rw [HCV.out]; cases rr <;> rfl)
    go_enter Tryz.func86, Tryz.ntmps86
    go_upto_region 1 with (fail)
    generalize w.alloc (.cells ⟨[.int .i64 1, .int .i64 n, .float .f64 f, .string s, vn, vi]⟩ 27) = W at *
    go_wp2_with (first | ((with_reducible refine wl_sload 27 _ rfl ?hwa w.heap.size 0 [.int .i64 1, .int .i64 n, .float .f64 f, .string s, vn, vi] _ rfl HRG.out Tryz.underlying27 rfl ?hia ?_); (case hwa => (first | exact wanted_none rfl | exact wanted_if rfl rfl rfl rfl)); (case hia => kernel_rfl)) | (go_at_call 111; refine HRT.out.mono ?_; rintro e z ⟨rfl, hb⟩; have HB2 := Lib.hid hb; clear hb))
    go_ret
    exact ⟨ret_bool HR.out.symm, HB1.out.trans (HB2.out.mono HB1.out.size)⟩
  rcases Classical.em (k = 4) with hk4 | hk4
  · subst hk4
    have HR : Hid (constV (.mk 4 n f s ns its) = rr) := Lib.hid (by rw [HCV.out]; cases rr <;> rfl)
    go_enter Tryz.func86, Tryz.ntmps86
    go_upto_region 1 with (fail)
    generalize w.alloc (.cells ⟨[.int .i64 4, .int .i64 n, .float .f64 f, .string s, vn, vi]⟩ 27) = W at *
    go_wp2_with (first | ((with_reducible refine wl_sload 27 _ rfl ?hwa w.heap.size 0 [.int .i64 4, .int .i64 n, .float .f64 f, .string s, vn, vi] _ rfl HRG.out Tryz.underlying27 rfl ?hia ?_); (case hwa => (first | exact wanted_none rfl | exact wanted_if rfl rfl rfl rfl)); (case hia => kernel_rfl)) | (go_at_call 111; refine HRT.out.mono ?_; rintro e z ⟨rfl, hb⟩; have HB2 := Lib.hid hb; clear hb))
    go_ret
    exact ⟨ret_bool HR.out.symm, HB1.out.trans (HB2.out.mono HB1.out.size)⟩
  rcases Classical.em (k = 2) with hk2 | hk2
  · subst hk2
    by_cases hn : n < 0
    · have hn2 : ¬ 0 ≤ n := by omega
      have HR : Hid (constV (.mk 2 n f s ns its) = false) := Lib.hid (by rw [HCV.out]; rw [decide_eq_false hn2]; rfl)
      go_enter Tryz.func86, Tryz.ntmps86
      go_upto_region 1 with (fail)
      generalize w.alloc (.cells ⟨[.int .i64 2, .int .i64 n, .float .f64 f, .string s, vn, vi]⟩ 27) = W at *
      go_wp2_with (first | ((with_reducible refine wl_sload 27 _ rfl ?hwa w.heap.size 0 [.int .i64 2, .int .i64 n, .float .f64 f, .string s, vn, vi] _ rfl HRG.out Tryz.underlying27 rfl ?hia ?_); (case hwa => (first | exact wanted_none rfl | exact wanted_if rfl rfl rfl rfl)); (case hia => kernel_rfl)) | (go_at_call 111; refine HRT.out.mono ?_; rintro e z ⟨rfl, hb⟩; have HB2 := Lib.hid hb; clear hb))
      go_ret
      exact ⟨ret_bool HR.out.symm, HB1.out⟩
    · have hn2 : 0 ≤ n := by omega
      have HR : Hid (constV (.mk 2 n f s ns its) = rr) := Lib.hid (by rw [HCV.out]; rw [decide_eq_true hn2]; cases rr <;> rfl)
      go_enter Tryz.func86, Tryz.ntmps86
      go_upto_region 1 with (fail)
      generalize w.alloc (.cells ⟨[.int .i64 2, .int .i64 n, .float .f64 f, .string s, vn, vi]⟩ 27) = W at *
      go_wp2_with (first | ((with_reducible refine wl_sload 27 _ rfl ?hwa w.heap.size 0 [.int .i64 2, .int .i64 n, .float .f64 f, .string s, vn, vi] _ rfl HRG.out Tryz.underlying27 rfl ?hia ?_); (case hwa => (first | exact wanted_none rfl | exact wanted_if rfl rfl rfl rfl)); (case hia => kernel_rfl)) | (go_at_call 111; refine HRT.out.mono ?_; rintro e z ⟨rfl, hb⟩; have HB2 := Lib.hid hb; clear hb))
      go_ret
      exact ⟨ret_bool HR.out.symm, HB1.out.trans (HB2.out.mono HB1.out.size)⟩
  rcases Classical.em (k = 3) with hk3 | hk3
  · subst hk3
    have HFO := Lib.hid (fun w => forder_any f 0 hf (by decide) w)
    cases hlt : (fOrd f 0 == some .lt) with
    | true =>
      have hneg : negB f = true := decide_eq_true (lt_neg hf hlt)
      have t1 : (FloatKind.f64.format.order f 0 == some .lt) = true := hlt
      clear hlt
      have HR : Hid (constV (.mk 3 n f s ns its) = false) := Lib.hid (by rw [HCV.out]; rw [hneg]; rfl)
      go_enter Tryz.func86, Tryz.ntmps86
      go_upto_region 1 with (fail)
      generalize w.alloc (.cells ⟨[.int .i64 3, .int .i64 n, .float .f64 f, .string s, vn, vi]⟩ 27) = W at *
      go_wp2_with (first | ((with_reducible refine wl_sload 27 _ rfl ?hwa w.heap.size 0 [.int .i64 3, .int .i64 n, .float .f64 f, .string s, vn, vi] _ rfl HRG.out Tryz.underlying27 rfl ?hia ?_); (case hwa => (first | exact wanted_none rfl | exact wanted_if rfl rfl rfl rfl)); (case hia => kernel_rfl)) | (go_at_call 111; refine HRT.out.mono ?_; rintro e z ⟨rfl, hb⟩; have HB2 := Lib.hid hb; clear hb) | (go_at_call 110; refine (HFO.out _).mono ?_; rintro e z ⟨rfl, rfl⟩))
      go_ret
      exact ⟨ret_bool HR.out.symm, HB1.out⟩
    | false =>
      have t1 : (FloatKind.f64.format.order f 0 == some .lt) = false := hlt
      clear hlt
      by_cases hc : cmpF f 0 < 0
      · have hneg : negB f = true := decide_eq_true hc
        have HNG := Lib.hid hneg
        generalize cmpF f 0 = cf at *
        have HR : Hid (constV (.mk 3 n f s ns its) = false) := Lib.hid (by rw [HCV.out]; rw [HNG.out]; rfl)
        go_enter Tryz.func86, Tryz.ntmps86
        go_upto_region 1 with (fail)
        generalize w.alloc (.cells ⟨[.int .i64 3, .int .i64 n, .float .f64 f, .string s, vn, vi]⟩ 27) = W at *
        go_wp2_with (first | ((with_reducible refine wl_sload 27 _ rfl ?hwa w.heap.size 0 [.int .i64 3, .int .i64 n, .float .f64 f, .string s, vn, vi] _ rfl HRG.out Tryz.underlying27 rfl ?hia ?_); (case hwa => (first | exact wanted_none rfl | exact wanted_if rfl rfl rfl rfl)); (case hia => kernel_rfl)) | (go_at_call 111; refine HRT.out.mono ?_; rintro e z ⟨rfl, hb⟩; have HB2 := Lib.hid hb; clear hb) | (go_at_call 110; refine (HFO.out _).mono ?_; rintro e z ⟨rfl, rfl⟩))
        go_ret
        exact ⟨ret_bool HR.out.symm, HB1.out⟩
      · have hneg : negB f = false := decide_eq_false hc
        have HNG := Lib.hid hneg
        generalize cmpF f 0 = cf at *
        have HR : Hid (constV (.mk 3 n f s ns its) = rr) := Lib.hid (by rw [HCV.out]; rw [HNG.out]; cases rr <;> rfl)
        go_enter Tryz.func86, Tryz.ntmps86
        go_upto_region 1 with (fail)
        generalize w.alloc (.cells ⟨[.int .i64 3, .int .i64 n, .float .f64 f, .string s, vn, vi]⟩ 27) = W at *
        go_wp2_with (first | ((with_reducible refine wl_sload 27 _ rfl ?hwa w.heap.size 0 [.int .i64 3, .int .i64 n, .float .f64 f, .string s, vn, vi] _ rfl HRG.out Tryz.underlying27 rfl ?hia ?_); (case hwa => (first | exact wanted_none rfl | exact wanted_if rfl rfl rfl rfl)); (case hia => kernel_rfl)) | (go_at_call 111; refine HRT.out.mono ?_; rintro e z ⟨rfl, hb⟩; have HB2 := Lib.hid hb; clear hb) | (go_at_call 110; refine (HFO.out _).mono ?_; rintro e z ⟨rfl, rfl⟩))
        go_ret
        exact ⟨ret_bool HR.out.symm, HB1.out.trans (HB2.out.mono HB1.out.size)⟩
  have e1 : (k == 1) = false := by rw [beq_eq_false_iff_ne]; exact hk1
  have e4 : (k == 4) = false := by rw [beq_eq_false_iff_ne]; exact hk4
  have e2 : (k == 2) = false := by rw [beq_eq_false_iff_ne]; exact hk2
  have e3 : (k == 3) = false := by rw [beq_eq_false_iff_ne]; exact hk3
  have HR : Hid (constV (.mk k n f s ns its) = false) := Lib.hid (by rw [HCV.out]; rw [e1, e2, e3, e4]; rfl)
  go_enter Tryz.func86, Tryz.ntmps86
  go_upto_region 1 with (fail)
  generalize w.alloc (.cells ⟨[.int .i64 k, .int .i64 n, .float .f64 f, .string s, vn, vi]⟩ 27) = W at *
  go_wp2_with (first | ((with_reducible refine wl_sload 27 _ rfl ?hwa w.heap.size 0 [.int .i64 k, .int .i64 n, .float .f64 f, .string s, vn, vi] _ rfl HRG.out Tryz.underlying27 rfl ?hia ?_); (case hwa => (first | exact wanted_none rfl | exact wanted_if rfl rfl rfl rfl)); (case hia => kernel_rfl)) | (go_at_call 111; refine HRT.out.mono ?_; rintro e z ⟨rfl, hb⟩; have HB2 := Lib.hid hb; clear hb))
  go_ret
  exact ⟨ret_bool HR.out.symm, HB1.out⟩
set_option maxHeartbeats 2000000 in
set_option maxRecDepth 100000 in
theorem rconst_any (t : VT) (cs : List Value) (w : World) (hv : ValAt w w.heap.size cs t) : Calls Tryz.prog 57 #[.agg ⟨cs⟩] w fun e w' => e = .returned (.bool (constV t)) ∧ Below w.heap.size w w' := by
  cases t with
  | mk k n f s ns its =>
  obtain ⟨vn, vi, rfl, _, _, hff, _, _, _, _⟩ := hv.inv
  have hf := wf64 hff
  have HB1 := Lib.hid (box_below w (.cells ⟨[.int .i64 k, .int .i64 n, .float .f64 f, .string s, vn, vi]⟩ 27))
  have HRG := Lib.hid (range_box w [.int .i64 k, .int .i64 n, .float .f64 f, .string s, vn, vi] 27)
  have HRT : Hid (Calls Tryz.prog 79 #[.agg ⟨[.int .i64 k, .int .i64 n, .float .f64 f, .string s, vn, vi]⟩] (w.alloc (.cells ⟨[.int .i64 k, .int .i64 n, .float .f64 f, .string s, vn, vi]⟩ 27)) fun e w' => e = .returned (.bool (rightW (.mk k n f s ns its))) ∧ Below (w.alloc (.cells ⟨[.int .i64 k, .int .i64 n, .float .f64 f, .string s, vn, vi]⟩ 27)).heap.size (w.alloc (.cells ⟨[.int .i64 k, .int .i64 n, .float .f64 f, .string s, vn, vi]⟩ 27)) w') := Lib.hid (rright_top _ _ _ (hv.next HB1.out))
  have d0 := cell_box w ⟨[.int .i64 k, .int .i64 n, .float .f64 f, .string s, vn, vi]⟩ 27 0
  have d1 := cell_box w ⟨[.int .i64 k, .int .i64 n, .float .f64 f, .string s, vn, vi]⟩ 27 1
  have d2 := cell_box w ⟨[.int .i64 k, .int .i64 n, .float .f64 f, .string s, vn, vi]⟩ 27 2
  simp only [List.getElem?_toArray, List.getElem?_cons_succ, List.getElem?_cons_zero] at d0 d1 d2
  have D1 := Lib.hid d1
  have D2 := Lib.hid d2
  have HSZ := Lib.hid (box_size w (.cells ⟨[.int .i64 k, .int .i64 n, .float .f64 f, .string s, vn, vi]⟩ 27))
  have HCV : Hid (constV (.mk k n f s ns its) = (((k == 1) || ((k == 4) || (((k == 2) && decide (0 ≤ n)) || ((k == 3) && !(negB f))))) && rightW (.mk k n f s ns its))) := Lib.hid rfl
  clear hv hff
  generalize rightW (.mk k n f s ns its) = rr at *
  rcases Classical.em (k = 1) with hk1 | hk1
  · subst hk1
    cases rr with
    | false =>
      have HR : Hid (constV (.mk 1 n f s ns its) = false) := Lib.hid (by rw [HCV.out]; rfl)
      go_enter Tryz.func57, Tryz.ntmps57
      go_upto_region 1 with (fail)
      generalize w.alloc (.cells ⟨[.int .i64 1, .int .i64 n, .float .f64 f, .string s, vn, vi]⟩ 27) = W at *
      go_wp2_with (first | ((with_reducible refine wl_sload 27 _ rfl ?hwa w.heap.size 0 [.int .i64 1, .int .i64 n, .float .f64 f, .string s, vn, vi] _ rfl HRG.out Tryz.underlying27 rfl ?hia ?_); (case hwa => (first | exact wanted_none rfl | exact wanted_if rfl rfl rfl rfl)); (case hia => kernel_rfl)) | (go_at_call 79; refine HRT.out.mono ?_; rintro e z ⟨rfl, hb⟩; have HB2 := Lib.hid hb; have z1 := (hb.cell (p := ⟨w.heap.size, 1, none⟩) HSZ.out).trans D1.out; have z2 := (hb.cell (p := ⟨w.heap.size, 2, none⟩) HSZ.out).trans D2.out; clear hb))
      go_ret
      exact ⟨ret_bool HR.out.symm, HB1.out.trans (HB2.out.mono HB1.out.size)⟩
    | true =>
      have HR : Hid (constV (.mk 1 n f s ns its) = true) := Lib.hid (by rw [HCV.out]; rfl)
      go_enter Tryz.func57, Tryz.ntmps57
      go_upto_region 1 with (fail)
      generalize w.alloc (.cells ⟨[.int .i64 1, .int .i64 n, .float .f64 f, .string s, vn, vi]⟩ 27) = W at *
      go_wp2_with (first | ((with_reducible refine wl_sload 27 _ rfl ?hwa w.heap.size 0 [.int .i64 1, .int .i64 n, .float .f64 f, .string s, vn, vi] _ rfl HRG.out Tryz.underlying27 rfl ?hia ?_); (case hwa => (first | exact wanted_none rfl | exact wanted_if rfl rfl rfl rfl)); (case hia => kernel_rfl)) | (go_at_call 79; refine HRT.out.mono ?_; rintro e z ⟨rfl, hb⟩; have HB2 := Lib.hid hb; have z1 := (hb.cell (p := ⟨w.heap.size, 1, none⟩) HSZ.out).trans D1.out; have z2 := (hb.cell (p := ⟨w.heap.size, 2, none⟩) HSZ.out).trans D2.out; clear hb))
      go_ret
      exact ⟨ret_bool HR.out.symm, HB1.out.trans (HB2.out.mono HB1.out.size)⟩
  rcases Classical.em (k = 4) with hk4 | hk4
  · subst hk4
    cases rr with
    | false =>
      have HR : Hid (constV (.mk 4 n f s ns its) = false) := Lib.hid (by rw [HCV.out]; rfl)
      go_enter Tryz.func57, Tryz.ntmps57
      go_upto_region 1 with (fail)
      generalize w.alloc (.cells ⟨[.int .i64 4, .int .i64 n, .float .f64 f, .string s, vn, vi]⟩ 27) = W at *
      go_wp2_with (first | ((with_reducible refine wl_sload 27 _ rfl ?hwa w.heap.size 0 [.int .i64 4, .int .i64 n, .float .f64 f, .string s, vn, vi] _ rfl HRG.out Tryz.underlying27 rfl ?hia ?_); (case hwa => (first | exact wanted_none rfl | exact wanted_if rfl rfl rfl rfl)); (case hia => kernel_rfl)) | (go_at_call 79; refine HRT.out.mono ?_; rintro e z ⟨rfl, hb⟩; have HB2 := Lib.hid hb; have z1 := (hb.cell (p := ⟨w.heap.size, 1, none⟩) HSZ.out).trans D1.out; have z2 := (hb.cell (p := ⟨w.heap.size, 2, none⟩) HSZ.out).trans D2.out; clear hb))
      go_ret
      exact ⟨ret_bool HR.out.symm, HB1.out.trans (HB2.out.mono HB1.out.size)⟩
    | true =>
      have HR : Hid (constV (.mk 4 n f s ns its) = true) := Lib.hid (by rw [HCV.out]; rfl)
      go_enter Tryz.func57, Tryz.ntmps57
      go_upto_region 1 with (fail)
      generalize w.alloc (.cells ⟨[.int .i64 4, .int .i64 n, .float .f64 f, .string s, vn, vi]⟩ 27) = W at *
      go_wp2_with (first | ((with_reducible refine wl_sload 27 _ rfl ?hwa w.heap.size 0 [.int .i64 4, .int .i64 n, .float .f64 f, .string s, vn, vi] _ rfl HRG.out Tryz.underlying27 rfl ?hia ?_); (case hwa => (first | exact wanted_none rfl | exact wanted_if rfl rfl rfl rfl)); (case hia => kernel_rfl)) | (go_at_call 79; refine HRT.out.mono ?_; rintro e z ⟨rfl, hb⟩; have HB2 := Lib.hid hb; have z1 := (hb.cell (p := ⟨w.heap.size, 1, none⟩) HSZ.out).trans D1.out; have z2 := (hb.cell (p := ⟨w.heap.size, 2, none⟩) HSZ.out).trans D2.out; clear hb))
      go_ret
      exact ⟨ret_bool HR.out.symm, HB1.out.trans (HB2.out.mono HB1.out.size)⟩
  rcases Classical.em (k = 2) with hk2 | hk2
  · subst hk2
    cases rr with
    | false =>
      have HR : Hid (constV (.mk 2 n f s ns its) = false) := Lib.hid (by rw [HCV.out]; cases decide (0 ≤ n) <;> rfl)
      go_enter Tryz.func57, Tryz.ntmps57
      go_upto_region 1 with (fail)
      generalize w.alloc (.cells ⟨[.int .i64 2, .int .i64 n, .float .f64 f, .string s, vn, vi]⟩ 27) = W at *
      go_wp2_with (first | ((with_reducible refine wl_sload 27 _ rfl ?hwa w.heap.size 0 [.int .i64 2, .int .i64 n, .float .f64 f, .string s, vn, vi] _ rfl HRG.out Tryz.underlying27 rfl ?hia ?_); (case hwa => (first | exact wanted_none rfl | exact wanted_if rfl rfl rfl rfl)); (case hia => kernel_rfl)) | (go_at_call 79; refine HRT.out.mono ?_; rintro e z ⟨rfl, hb⟩; have HB2 := Lib.hid hb; have z1 := (hb.cell (p := ⟨w.heap.size, 1, none⟩) HSZ.out).trans D1.out; have z2 := (hb.cell (p := ⟨w.heap.size, 2, none⟩) HSZ.out).trans D2.out; clear hb))
      go_ret
      exact ⟨ret_bool HR.out.symm, HB1.out.trans (HB2.out.mono HB1.out.size)⟩
    | true =>
      by_cases hn : 0 ≤ n
      · have HR : Hid (constV (.mk 2 n f s ns its) = true) := Lib.hid (by rw [HCV.out]; rw [decide_eq_true hn]; rfl)
        go_enter Tryz.func57, Tryz.ntmps57
        go_upto_region 1 with (fail)
        generalize w.alloc (.cells ⟨[.int .i64 2, .int .i64 n, .float .f64 f, .string s, vn, vi]⟩ 27) = W at *
        go_wp2_with (first | ((with_reducible refine wl_sload 27 _ rfl ?hwa w.heap.size 0 [.int .i64 2, .int .i64 n, .float .f64 f, .string s, vn, vi] _ rfl HRG.out Tryz.underlying27 rfl ?hia ?_); (case hwa => (first | exact wanted_none rfl | exact wanted_if rfl rfl rfl rfl)); (case hia => kernel_rfl)) | (go_at_call 79; refine HRT.out.mono ?_; rintro e z ⟨rfl, hb⟩; have HB2 := Lib.hid hb; have z1 := (hb.cell (p := ⟨w.heap.size, 1, none⟩) HSZ.out).trans D1.out; have z2 := (hb.cell (p := ⟨w.heap.size, 2, none⟩) HSZ.out).trans D2.out; clear hb))
        go_ret
        exact ⟨ret_bool HR.out.symm, HB1.out.trans (HB2.out.mono HB1.out.size)⟩
      · have HN := Lib.hid hn
        have HR : Hid (constV (.mk 2 n f s ns its) = false) := Lib.hid (by rw [HCV.out]; rw [decide_eq_false hn]; rfl)
        go_enter Tryz.func57, Tryz.ntmps57
        go_upto_region 1 with (fail)
        generalize w.alloc (.cells ⟨[.int .i64 2, .int .i64 n, .float .f64 f, .string s, vn, vi]⟩ 27) = W at *
        go_wp2_with (first | ((with_reducible refine wl_sload 27 _ rfl ?hwa w.heap.size 0 [.int .i64 2, .int .i64 n, .float .f64 f, .string s, vn, vi] _ rfl HRG.out Tryz.underlying27 rfl ?hia ?_); (case hwa => (first | exact wanted_none rfl | exact wanted_if rfl rfl rfl rfl)); (case hia => kernel_rfl)) | (go_at_call 79; refine HRT.out.mono ?_; rintro e z ⟨rfl, hb⟩; have HB2 := Lib.hid hb; have z1 := (hb.cell (p := ⟨w.heap.size, 1, none⟩) HSZ.out).trans D1.out; have z2 := (hb.cell (p := ⟨w.heap.size, 2, none⟩) HSZ.out).trans D2.out; clear hb))
        go_ret
        exact ⟨ret_bool ((decide_eq_false (Int.not_le.2 HN.out)).trans HR.out.symm), HB1.out.trans (HB2.out.mono HB1.out.size)⟩
  rcases Classical.em (k = 3) with hk3 | hk3
  · subst hk3
    have HNA := Lib.hid (fun w => rnan_any f hf w)
    have HTX := Lib.hid (fun w => rtext_f f hf w)
    obtain ⟨c, tl, htx, hc1, hc2⟩ := text_first hf
    have hdk : ∃ T : ByteArray, (⟨(textF f).toArray⟩ : ByteArray) = T ∧ 0 < T.size ∧ T.data.toList[0]? = some c := ⟨_, rfl, by rw [htx]; show 0 < (c :: tl).toArray.size; simp, by rw [htx]; rfl⟩
    obtain ⟨T, hT, hT0, hT1⟩ := hdk
    rw [hT] at HTX
    have dk := fun h => lbyteE_at (k := 0) (c := c) hT1 h
    have hnn : nanR f = true → negB f = false := fun h => decide_eq_false fun h2 => by
      have := ((cmpF_neg hf).1 h2).1
      rw [nanR_eq hf] at h
      exact this (of_decide_eq_true h)
    clear hT hT1 htx
    cases rr with
    | false =>
      have HR : Hid (constV (.mk 3 n f s ns its) = false) := Lib.hid (by rw [HCV.out]; cases negB f <;> rfl)
      go_enter Tryz.func57, Tryz.ntmps57
      go_upto_region 1 with (fail)
      generalize w.alloc (.cells ⟨[.int .i64 3, .int .i64 n, .float .f64 f, .string s, vn, vi]⟩ 27) = W at *
      go_wp2_with (first | ((with_reducible refine wl_sload 27 _ rfl ?hwa w.heap.size 0 [.int .i64 3, .int .i64 n, .float .f64 f, .string s, vn, vi] _ rfl HRG.out Tryz.underlying27 rfl ?hia ?_); (case hwa => (first | exact wanted_none rfl | exact wanted_if rfl rfl rfl rfl)); (case hia => kernel_rfl)) | (go_at_call 79; refine HRT.out.mono ?_; rintro e z ⟨rfl, hb⟩; have HB2 := Lib.hid hb; have z1 := (hb.cell (p := ⟨w.heap.size, 1, none⟩) HSZ.out).trans D1.out; have z2 := (hb.cell (p := ⟨w.heap.size, 2, none⟩) HSZ.out).trans D2.out; clear hb) | (go_at_call 80; refine (HNA.out _).mono ?_; rintro e z ⟨rfl, rfl⟩) | (go_at_call 81; refine (HTX.out _).mono ?_; rintro e z3 ⟨rfl, hb⟩; have HB3 := Lib.hid hb; clear hb))
      go_ret
      exact ⟨ret_bool HR.out.symm, HB1.out.trans (HB2.out.mono HB1.out.size)⟩
    | true =>
      cases hna : nanR f with
      | true =>
        have HNG := Lib.hid (hnn hna)
        rw [hna] at HNA
        clear hna hc1 hc2 hnn
        have HR : Hid (constV (.mk 3 n f s ns its) = true) := Lib.hid (by rw [HCV.out]; rw [HNG.out]; rfl)
        go_enter Tryz.func57, Tryz.ntmps57
        go_upto_region 1 with (fail)
        generalize w.alloc (.cells ⟨[.int .i64 3, .int .i64 n, .float .f64 f, .string s, vn, vi]⟩ 27) = W at *
        go_wp2_with (first | ((with_reducible refine wl_sload 27 _ rfl ?hwa w.heap.size 0 [.int .i64 3, .int .i64 n, .float .f64 f, .string s, vn, vi] _ rfl HRG.out Tryz.underlying27 rfl ?hia ?_); (case hwa => (first | exact wanted_none rfl | exact wanted_if rfl rfl rfl rfl)); (case hia => kernel_rfl)) | (go_at_call 79; refine HRT.out.mono ?_; rintro e z ⟨rfl, hb⟩; have HB2 := Lib.hid hb; have z1 := (hb.cell (p := ⟨w.heap.size, 1, none⟩) HSZ.out).trans D1.out; have z2 := (hb.cell (p := ⟨w.heap.size, 2, none⟩) HSZ.out).trans D2.out; clear hb) | (go_at_call 80; refine (HNA.out _).mono ?_; rintro e z ⟨rfl, rfl⟩) | (go_at_call 81; refine (HTX.out _).mono ?_; rintro e z3 ⟨rfl, hb⟩; have HB3 := Lib.hid hb; clear hb))
        go_ret
        exact ⟨ret_bool HR.out.symm, HB1.out.trans (HB2.out.mono HB1.out.size)⟩
      | false =>
        rw [hna] at HNA
        cases hng : negB f with
        | true =>
          have HNG := Lib.hid hng
          obtain rfl := hc1 hng
          clear hna hc1 hc2 hnn hng
          have HR : Hid (constV (.mk 3 n f s ns its) = false) := Lib.hid (by rw [HCV.out]; rw [HNG.out]; rfl)
          go_enter Tryz.func57, Tryz.ntmps57
          go_upto_region 1 with (fail)
          generalize w.alloc (.cells ⟨[.int .i64 3, .int .i64 n, .float .f64 f, .string s, vn, vi]⟩ 27) = W at *
          go_wp2_with (first | ((with_reducible refine wl_sload 27 _ rfl ?hwa w.heap.size 0 [.int .i64 3, .int .i64 n, .float .f64 f, .string s, vn, vi] _ rfl HRG.out Tryz.underlying27 rfl ?hia ?_); (case hwa => (first | exact wanted_none rfl | exact wanted_if rfl rfl rfl rfl)); (case hia => kernel_rfl)) | (go_at_call 79; refine HRT.out.mono ?_; rintro e z ⟨rfl, hb⟩; have HB2 := Lib.hid hb; have z1 := (hb.cell (p := ⟨w.heap.size, 1, none⟩) HSZ.out).trans D1.out; have z2 := (hb.cell (p := ⟨w.heap.size, 2, none⟩) HSZ.out).trans D2.out; clear hb) | (go_at_call 80; refine (HNA.out _).mono ?_; rintro e z ⟨rfl, rfl⟩) | (go_at_call 81; refine (HTX.out _).mono ?_; rintro e z3 ⟨rfl, hb⟩; have HB3 := Lib.hid hb; clear hb))
          go_ret
          exact ⟨ret_bool HR.out.symm, (HB1.out.trans (HB2.out.mono HB1.out.size)).trans (HB3.out.mono (Nat.le_trans HB1.out.size HB2.out.size))⟩
        | false =>
          have HNG := Lib.hid hng
          have hne : ((c.toNat : Int) == 45) = false := by
            rw [beq_eq_false_iff_ne]
            intro h
            have := hc2 hng hna
            exact this (UInt8.toNat_inj.1 (by show c.toNat = 45; omega))
          have HNE := Lib.hid hne
          clear hna hc1 hc2 hnn hng
          have HR : Hid (constV (.mk 3 n f s ns its) = true) := Lib.hid (by rw [HCV.out]; rw [HNG.out]; rfl)
          go_enter Tryz.func57, Tryz.ntmps57
          go_upto_region 1 with (fail)
          generalize w.alloc (.cells ⟨[.int .i64 3, .int .i64 n, .float .f64 f, .string s, vn, vi]⟩ 27) = W at *
          go_wp2_with (first | ((with_reducible refine wl_sload 27 _ rfl ?hwa w.heap.size 0 [.int .i64 3, .int .i64 n, .float .f64 f, .string s, vn, vi] _ rfl HRG.out Tryz.underlying27 rfl ?hia ?_); (case hwa => (first | exact wanted_none rfl | exact wanted_if rfl rfl rfl rfl)); (case hia => kernel_rfl)) | (go_at_call 79; refine HRT.out.mono ?_; rintro e z ⟨rfl, hb⟩; have HB2 := Lib.hid hb; have z1 := (hb.cell (p := ⟨w.heap.size, 1, none⟩) HSZ.out).trans D1.out; have z2 := (hb.cell (p := ⟨w.heap.size, 2, none⟩) HSZ.out).trans D2.out; clear hb) | (go_at_call 80; refine (HNA.out _).mono ?_; rintro e z ⟨rfl, rfl⟩) | (go_at_call 81; refine (HTX.out _).mono ?_; rintro e z3 ⟨rfl, hb⟩; have HB3 := Lib.hid hb; clear hb))
          go_ret
          exact ⟨ret_bool ((by show (!((c.toNat : Int) == 45)) = true; rw [HNE.out]; rfl : ((c.toNat : Int) != 45) = true).trans HR.out.symm), (HB1.out.trans (HB2.out.mono HB1.out.size)).trans (HB3.out.mono (Nat.le_trans HB1.out.size HB2.out.size))⟩
  have e1 : (k == 1) = false := by rw [beq_eq_false_iff_ne]; exact hk1
  have e4 : (k == 4) = false := by rw [beq_eq_false_iff_ne]; exact hk4
  have e2 : (k == 2) = false := by rw [beq_eq_false_iff_ne]; exact hk2
  have e3 : (k == 3) = false := by rw [beq_eq_false_iff_ne]; exact hk3
  have HR : Hid (constV (.mk k n f s ns its) = false) := Lib.hid (by rw [HCV.out]; rw [e1, e2, e3, e4]; rfl)
  go_enter Tryz.func57, Tryz.ntmps57
  go_upto_region 1 with (fail)
  generalize w.alloc (.cells ⟨[.int .i64 k, .int .i64 n, .float .f64 f, .string s, vn, vi]⟩ 27) = W at *
  go_wp2_with (first | ((with_reducible refine wl_sload 27 _ rfl ?hwa w.heap.size 0 [.int .i64 k, .int .i64 n, .float .f64 f, .string s, vn, vi] _ rfl HRG.out Tryz.underlying27 rfl ?hia ?_); (case hwa => (first | exact wanted_none rfl | exact wanted_if rfl rfl rfl rfl)); (case hia => kernel_rfl)) | (go_at_call 79; refine HRT.out.mono ?_; rintro e z ⟨rfl, hb⟩; have HB2 := Lib.hid hb; have z1 := (hb.cell (p := ⟨w.heap.size, 1, none⟩) HSZ.out).trans D1.out; have z2 := (hb.cell (p := ⟨w.heap.size, 2, none⟩) HSZ.out).trans D2.out; clear hb))
  go_ret
  exact ⟨ret_bool HR.out.symm, HB1.out⟩
end Go.Proofs.YtppmkehdhpgdcaaGreat
end
