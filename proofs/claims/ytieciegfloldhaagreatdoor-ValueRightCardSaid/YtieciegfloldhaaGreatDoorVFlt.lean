/- float.Order: which of two floats stands first. -/
import Derived.Test.YtieciegfloldhaaGreatDoorVCmp
namespace Go.Proofs.YtieciegfloldhaaGreatDoor
open Go Go.RowKit
set_option linter.unusedVariables false

theorem wf64 {a : Nat} (h : (Lit.float .f64 a).wf = true) : a < 2 ^ 64 := by
  simpa [Lit.wf] using h
open Ieee in
theorem zero_two {a : Nat} (h : a < 2 ^ 64) (he : (fOrd a 0 == some .eq) = true) : a = 0 ∨ a = 2 ^ 63 := by
  rw [beq_iff_eq, ordB_eq] at he
  have h0 : dat 0 = .number false 0 (-1074) := by decide +kernel
  have hs : FloatKind.f64.format.signWeight = 2 ^ 63 := by decide +kernel
  have hb : FloatKind.f64.format.binade = 2 ^ 52 := by decide +kernel
  rw [h0] at he
  unfold dat Format.read at he
  dsimp only at he
  rw [hs, hb] at he
  have key : ∀ (s : Bool) (m : Nat) (i : Int), -1074 ≤ i → Datum.order (.number s m i) (.number false 0 (-1074)) = some .eq → m = 0 := by
    intro s m i hi h
    have := (order_cmp (.number s m i) (.number false 0 (-1074)) hi (by show (-1074 : Int) ≤ -1074; omega) rfl rfl).2.1.1 h
    unfold cmpD at this
    rw [if_neg (by simp [clsD, cmpI])] at this
    have h2 := cmpI_val (valD (.number s m i)) (valD (.number false 0 (-1074)))
    have h3 : valD (.number s m i) = 0 := by
      have : valD (.number false 0 (-1074)) = 0 := by decide +kernel
      omega
    have h4 : (m <<< (i + 1074).toNat : Nat) = 0 := by
      have h5 : signed s m (i + 1074).toNat = 0 := h3
      unfold signed at h5
      cases s <;> simp at h5 <;> simpa using h5
    rw [Nat.shiftLeft_eq] at h4
    rcases Nat.mul_eq_zero.1 h4 with h | h
    · exact h
    · have : 0 < 2 ^ (i + 1074).toNat := Nat.two_pow_pos _
      omega
  have hp : FloatKind.f64.format.leastPlace = -1074 := by decide +kernel
  split at he
  · have := key _ _ _ (by rw [hp]; omega) he
    omega
  · split at he
    · have := key _ _ _ (by rw [hp]; omega) he
      omega
    · split at he
      · exfalso
        revert he
        cases (a / 2 ^ 63 % 2 == 1) <;> simp [Datum.order]
      · simp [Datum.order] at he
def nanI (a : Nat) : Int := if nanB a = true then 1 else 0
theorem rank_any (a : Nat) (ha : a < 2 ^ 64) (w : World) : Calls Tryz.prog 88 #[.float .f64 a] w fun e w' => e = .returned (.tuple #[.int .i64 (nanI a), .int .i64 (rankZ a)]) ∧ w' = w := by
  have hn0 : nanB a = (FloatKind.f64.format.order a a != some .eq) := rfl
  cases hn : nanB a with
  | true =>
    have hz : rankZ a = 0 := rankZ_nan a (by have := nanB_eq a; rw [hn] at this; simpa using this.symm)
    have hi : nanI a = 1 := by unfold nanI; rw [hn]; rfl
    rw [hz, hi]
    have t1 : (FloatKind.f64.format.order a a != some .eq) = true := hn0.symm.trans hn
    clear hn0 hn hz hi
    go_enter Tryz.func88, Tryz.ntmps88
    go_wp2
    go_ret2
    exact ⟨rfl, rfl⟩
  | false =>
    have hi : nanI a = 0 := by unfold nanI; rw [hn]; rfl
    rw [hi]
    have t1 : (FloatKind.f64.format.order a a != some .eq) = false := hn0.symm.trans hn
    clear hn0 hn hi
    by_cases h0 : (fOrd a 0 == some .eq) = true
    · rcases zero_two ha h0 with rfl | rfl
      · have hz : rankZ 0 = 0 := by unfold rankZ; simp
        rw [hz]
        have t2 : (FloatKind.f64.format.order 0 0 == some .eq) = true := by decide +kernel
        have hq : ∀ (t : TypeId) (w : World), (binOp .quo t (.float .f64 4607182418800017408) (.float .f64 0)).run Tryz.prog w = .ok (.float .f64 9218868437227405312) w := fun t w => run_float_arith w .quo t .f64 _ _ _ (by decide +kernel)
        have t3 : (FloatKind.f64.format.order 9218868437227405312 0 == some .lt) = false := by decide +kernel
        clear h0 hz ha
        go_enter Tryz.func88, Tryz.ntmps88
        go_wp2
        go_ret2
        exact ⟨rfl, rfl⟩
      · have hz : rankZ (2 ^ 63) = -1 := by unfold rankZ; rw [if_pos ⟨h0, by decide⟩]
        rw [hz]
        have e63 : (2 ^ 63 : Nat) = 9223372036854775808 := by decide
        rw [e63] at t1 h0 ⊢
        have t2 : (FloatKind.f64.format.order 9223372036854775808 0 == some .eq) = true := h0
        have hq : ∀ (t : TypeId) (w : World), (binOp .quo t (.float .f64 4607182418800017408) (.float .f64 9223372036854775808)).run Tryz.prog w = .ok (.float .f64 18442240474082181120) w := fun t w => run_float_arith w .quo t .f64 _ _ _ (by decide +kernel)
        have t3 : (FloatKind.f64.format.order 18442240474082181120 0 == some .lt) = true := by decide +kernel
        clear h0 hz ha
        go_enter Tryz.func88, Tryz.ntmps88
        go_wp2
        go_ret2
        exact ⟨rfl, rfl⟩
    · have hz : rankZ a = 0 := by unfold rankZ; rw [if_neg (fun h => h0 h.1)]
      have t2 : (FloatKind.f64.format.order a 0 == some .eq) = false := by rw [Bool.eq_false_iff]; exact h0
      rw [hz]
      clear h0 hz
      go_enter Tryz.func88, Tryz.ntmps88
      go_wp2
      go_ret2
      exact ⟨rfl, rfl⟩
theorem nanI_of {a : Nat} {b : Bool} (h : nanB a = b) : nanI a = if b = true then 1 else 0 := by unfold nanI; rw [h]
set_option maxHeartbeats 1000000 in
set_option maxRecDepth 100000 in
theorem forder_any (a b : Nat) (ha : a < 2 ^ 64) (hb : b < 2 ^ 64) (w : World) : Calls Tryz.prog 70 #[.float .f64 a, .float .f64 b] w fun e w' => e = .returned (.int .i64 (cmpF a b)) ∧ w' = w := by
  have HA := Lib.hid (fun w => rank_any a ha w)
  have HB := Lib.hid (fun w => rank_any b hb w)
  clear ha hb
  cases hn : nanB a with
  | true =>
    rw [nanI_of hn] at HA
    cases hm : nanB b with
    | true =>
      rw [nanI_of hm] at HB
      have hr : cmpF a b = 0 := by unfold cmpF; rw [hn, hm]; rfl
      rw [hr]
      clear hn hm hr
      simp only [if_true] at HA HB
      go_enter Tryz.func70, Tryz.ntmps70
      go_wp2_with (first | (go_at_call 88; with_reducible refine (HA.out _).mono ?_; rintro e z ⟨rfl, rfl⟩) | (go_at_call 88; with_reducible refine (HB.out _).mono ?_; rintro e z ⟨rfl, rfl⟩))
      go_ret
      exact ⟨rfl, rfl⟩
    | false =>
      rw [nanI_of hm] at HB
      have hr : cmpF a b = 1 := by unfold cmpF; rw [hn, hm]; rfl
      rw [hr]
      clear hn hm hr
      simp only [if_true, Bool.false_eq_true, if_false] at HA HB
      go_enter Tryz.func70, Tryz.ntmps70
      go_wp2_with (first | (go_at_call 88; with_reducible refine (HA.out _).mono ?_; rintro e z ⟨rfl, rfl⟩) | (go_at_call 88; with_reducible refine (HB.out _).mono ?_; rintro e z ⟨rfl, rfl⟩))
      go_ret
      exact ⟨rfl, rfl⟩
  | false =>
    rw [nanI_of hn] at HA
    cases hm : nanB b with
    | true =>
      rw [nanI_of hm] at HB
      have hr : cmpF a b = -1 := by unfold cmpF; rw [hn, hm]; rfl
      rw [hr]
      clear hn hm hr
      simp only [if_true, Bool.false_eq_true, if_false] at HA HB
      go_enter Tryz.func70, Tryz.ntmps70
      go_wp2_with (first | (go_at_call 88; with_reducible refine (HA.out _).mono ?_; rintro e z ⟨rfl, rfl⟩) | (go_at_call 88; with_reducible refine (HB.out _).mono ?_; rintro e z ⟨rfl, rfl⟩))
      go_ret
      exact ⟨rfl, rfl⟩
    | false =>
      rw [nanI_of hm] at HB
      simp only [Bool.false_eq_true, if_false] at HA HB
      have hr : cmpF a b = if (fOrd a b == some .lt) = true ∨ (fOrd a b == some .eq) = true ∧ rankZ a < rankZ b then -1
          else if (fOrd a b == some .gt) = true ∨ (fOrd a b == some .eq) = true ∧ rankZ b < rankZ a then 1 else 0 := by unfold cmpF; rw [hn, hm]; rfl
      clear hn hm
      rcases ho : fOrd a b with _ | ⟨_ | _ | _⟩
      · have hr2 : cmpF a b = 0 := by rw [hr, ho]; rfl
        rw [hr2]
        clear hr hr2
        have t1 : (FloatKind.f64.format.order a b == some .lt) = false := by rw [show FloatKind.f64.format.order a b = _ from ho]; rfl
        have t2 : (FloatKind.f64.format.order a b == some .eq) = false := by rw [show FloatKind.f64.format.order a b = _ from ho]; rfl
        have t3 : (FloatKind.f64.format.order a b == some .gt) = false := by rw [show FloatKind.f64.format.order a b = _ from ho]; rfl
        clear ho
        go_enter Tryz.func70, Tryz.ntmps70
        go_wp2_with (first | (go_at_call 88; with_reducible refine (HA.out _).mono ?_; rintro e z ⟨rfl, rfl⟩) | (go_at_call 88; with_reducible refine (HB.out _).mono ?_; rintro e z ⟨rfl, rfl⟩))
        go_ret
        exact ⟨rfl, rfl⟩
      · have hr2 : cmpF a b = (-1) := by rw [hr, ho]; rfl
        rw [hr2]
        clear hr hr2
        have t1 : (FloatKind.f64.format.order a b == some .lt) = true := by rw [show FloatKind.f64.format.order a b = _ from ho]; rfl
        have t2 : (FloatKind.f64.format.order a b == some .eq) = false := by rw [show FloatKind.f64.format.order a b = _ from ho]; rfl
        have t3 : (FloatKind.f64.format.order a b == some .gt) = false := by rw [show FloatKind.f64.format.order a b = _ from ho]; rfl
        clear ho
        go_enter Tryz.func70, Tryz.ntmps70
        go_wp2_with (first | (go_at_call 88; with_reducible refine (HA.out _).mono ?_; rintro e z ⟨rfl, rfl⟩) | (go_at_call 88; with_reducible refine (HB.out _).mono ?_; rintro e z ⟨rfl, rfl⟩))
        go_ret
        exact ⟨rfl, rfl⟩
      · rcases Int.lt_trichotomy (rankZ a) (rankZ b) with hz | hz | hz
        · have hr2 : cmpF a b = (-1) := by rw [hr, ho]; simp [hz]
          rw [hr2]
          clear hr hr2
          have t1 : (FloatKind.f64.format.order a b == some .lt) = false := by rw [show FloatKind.f64.format.order a b = _ from ho]; rfl
          have t2 : (FloatKind.f64.format.order a b == some .eq) = true := by rw [show FloatKind.f64.format.order a b = _ from ho]; rfl
          have t3 : (FloatKind.f64.format.order a b == some .gt) = false := by rw [show FloatKind.f64.format.order a b = _ from ho]; rfl
          clear ho
          have hz2 : ¬ rankZ b < rankZ a := by omega
          go_enter Tryz.func70, Tryz.ntmps70
          go_wp2_with (first | (go_at_call 88; with_reducible refine (HA.out _).mono ?_; rintro e z ⟨rfl, rfl⟩) | (go_at_call 88; with_reducible refine (HB.out _).mono ?_; rintro e z ⟨rfl, rfl⟩))
          go_ret
          exact ⟨rfl, rfl⟩
        · have hr2 : cmpF a b = 0 := by rw [hr, ho]; simp [hz]
          rw [hr2]
          clear hr hr2
          have t1 : (FloatKind.f64.format.order a b == some .lt) = false := by rw [show FloatKind.f64.format.order a b = _ from ho]; rfl
          have t2 : (FloatKind.f64.format.order a b == some .eq) = true := by rw [show FloatKind.f64.format.order a b = _ from ho]; rfl
          have t3 : (FloatKind.f64.format.order a b == some .gt) = false := by rw [show FloatKind.f64.format.order a b = _ from ho]; rfl
          clear ho
          rw [hz] at HA
          have hz2 : ¬ rankZ b < rankZ b := Int.lt_irrefl _
          go_enter Tryz.func70, Tryz.ntmps70
          go_wp2_with (first | (go_at_call 88; with_reducible refine (HA.out _).mono ?_; rintro e z ⟨rfl, rfl⟩) | (go_at_call 88; with_reducible refine (HB.out _).mono ?_; rintro e z ⟨rfl, rfl⟩))
          go_ret
          exact ⟨rfl, rfl⟩
        · have hr2 : cmpF a b = 1 := by rw [hr, ho]; simp [show ¬ rankZ a < rankZ b by omega, hz]
          rw [hr2]
          clear hr hr2
          have t1 : (FloatKind.f64.format.order a b == some .lt) = false := by rw [show FloatKind.f64.format.order a b = _ from ho]; rfl
          have t2 : (FloatKind.f64.format.order a b == some .eq) = true := by rw [show FloatKind.f64.format.order a b = _ from ho]; rfl
          have t3 : (FloatKind.f64.format.order a b == some .gt) = false := by rw [show FloatKind.f64.format.order a b = _ from ho]; rfl
          clear ho
          have hz2 : ¬ rankZ a < rankZ b := by omega
          go_enter Tryz.func70, Tryz.ntmps70
          go_wp2_with (first | (go_at_call 88; with_reducible refine (HA.out _).mono ?_; rintro e z ⟨rfl, rfl⟩) | (go_at_call 88; with_reducible refine (HB.out _).mono ?_; rintro e z ⟨rfl, rfl⟩))
          go_ret
          exact ⟨rfl, rfl⟩
      · have hr2 : cmpF a b = 1 := by rw [hr, ho]; rfl
        rw [hr2]
        clear hr hr2
        have t1 : (FloatKind.f64.format.order a b == some .lt) = false := by rw [show FloatKind.f64.format.order a b = _ from ho]; rfl
        have t2 : (FloatKind.f64.format.order a b == some .eq) = false := by rw [show FloatKind.f64.format.order a b = _ from ho]; rfl
        have t3 : (FloatKind.f64.format.order a b == some .gt) = true := by rw [show FloatKind.f64.format.order a b = _ from ho]; rfl
        clear ho
        go_enter Tryz.func70, Tryz.ntmps70
        go_wp2_with (first | (go_at_call 88; with_reducible refine (HA.out _).mono ?_; rintro e z ⟨rfl, rfl⟩) | (go_at_call 88; with_reducible refine (HB.out _).mono ?_; rintro e z ⟨rfl, rfl⟩))
        go_ret
        exact ⟨rfl, rfl⟩
end Go.Proofs.YtieciegfloldhaaGreatDoor
