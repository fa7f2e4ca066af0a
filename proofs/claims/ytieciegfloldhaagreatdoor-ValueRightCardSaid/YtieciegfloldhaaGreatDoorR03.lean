/- The document's floats: no number, canonical, the same as nought; ref04.zero. -/
import Derived.Test.YtieciegfloldhaaGreatDoorVBare
namespace Go.Proofs.YtieciegfloldhaaGreatDoor
open Go Go.RowKit
set_option linter.unusedVariables false

theorem cmpF_zero_iff (f : Nat) : cmpF f 0 = 0 ↔ f = 0 := by
  constructor
  · intro h
    have h0 : nanB 0 = false := by decide +kernel
    unfold cmpF at h
    rw [h0] at h
    by_cases hn : nanB f = true
    · rw [hn] at h; simp at h
    · have hn' : nanB f = false := by simpa using hn
      rw [hn'] at h
      simp only [ne_eq, not_true_eq_false, if_false, Bool.false_eq_true] at h
      by_cases hf : f = 0
      · exact hf
      · exfalso
        have hr0 : rankZ 0 = 0 := by unfold rankZ; simp
        rw [hr0] at h
        rcases hord : fOrd f 0 with _ | o
        · unfold nanB at hn'
          rw [ordB_eq] at hord hn'
          have ha : nanD (dat f) = 0 := by
            rw [nanB_eq] at *
            by_cases hd : nanD (dat f) = 0
            · exact hd
            · rw [order_nan _ _ (.inl hd)] at hn'; simp at hn'
          have hb : nanD (dat 0) = 0 := by have := nanB_eq 0; rw [h0] at this; simpa using this.symm
          obtain ⟨h1, h2, h3⟩ := order_cmp (dat f) (dat 0) (read_low f) (read_low 0) ha hb
          have h4 := cmpD_val (dat f) (dat 0)
          rw [hord] at h1 h2 h3
          simp at h1 h2 h3
          omega
        · have hz : rankZ f = if (fOrd f 0 == some .eq) = true then -1 else 0 := by unfold rankZ; simp [hf]
          rw [hord] at h hz
          cases o
          · simp at h
          · simp at hz; rw [hz] at h; simp at h
          · simp at h
  · rintro rfl
    exact cmpF_good.refl 0
def nanR (f : Nat) : Bool := decide (18437736874454810624 < IntKind.u64.wrap ((f : Int) * 2))
set_option maxHeartbeats 1000000 in
set_option maxRecDepth 100000 in
theorem rnan_any (f : Nat) (hf : f < 2 ^ 64) (w : World) : Calls Tryz.prog 64 #[.float .f64 f] w fun e w' => e = .returned (.bool (nanR f)) ∧ w' = w := by
  have e1 : ∀ W : World, (callFunc 46 #[.float .f64 f]).run Tryz.prog W = .ok (.value (.int .u64 f)) W := fun W => by
    rw [run_callFunc_extern Tryz.func46 (by kernel_rfl) (by kernel_rfl) (by kernel_rfl) (e := Extern.MathFloatBits.float64bits) (by kernel_rfl)]
    rfl
  go_enter Tryz.func64, Tryz.ntmps64
  go_wp2
  go_ret
  exact ⟨rfl, rfl⟩
def canR (f : Nat) : Nat := if nanR f = true then 9221120237041090560 else f
set_option maxHeartbeats 1000000 in
set_option maxRecDepth 100000 in
theorem rcanonf_any (f : Nat) (hf : f < 2 ^ 64) (w : World) : Calls Tryz.prog 102 #[.float .f64 f] w fun e w' => e = .returned (.float .f64 (canR f)) ∧ w' = w := by
  have e1 : ∀ W : World, (callFunc 45 #[.int .u64 9221120237041090560]).run Tryz.prog W = .ok (.value (.float .f64 9221120237041090560)) W := fun W => by
    rw [run_callFunc_extern Tryz.func45 (by kernel_rfl) (by kernel_rfl) (by kernel_rfl) (e := Extern.MathFloatBits.float64frombits) (by kernel_rfl)]
    rfl
  have HC := Lib.hid (fun w => rnan_any f hf w)
  clear hf
  cases hn : nanR f with
  | true =>
    have HV : Hid (canR f = 9221120237041090560) := Lib.hid (if_pos hn)
    rw [hn] at HC
    clear hn
    go_enter Tryz.func102, Tryz.ntmps102
    go_wp2_with (go_at_call 64; refine (HC.out _).mono ?_; rintro e z ⟨rfl, rfl⟩)
    go_ret
    exact ⟨congrArg (fun x => Ending.returned (.float .f64 x)) HV.out.symm, rfl⟩
  | false =>
    have HV : Hid (canR f = f) := Lib.hid (if_neg (by rw [hn]; decide))
    rw [hn] at HC
    clear hn
    go_enter Tryz.func102, Tryz.ntmps102
    go_wp2_with (go_at_call 64; refine (HC.out _).mono ?_; rintro e z ⟨rfl, rfl⟩)
    go_ret
    exact ⟨congrArg (fun x => Ending.returned (.float .f64 x)) HV.out.symm, rfl⟩
theorem can_lt {f : Nat} (hf : f < 2 ^ 64) : canR f < 2 ^ 64 := by unfold canR; split <;> omega
theorem can_zero {f : Nat} : canR f = 0 ↔ f = 0 := by
  unfold canR
  split
  · next h =>
    constructor
    · intro h2; omega
    · rintro rfl; revert h; decide +kernel
  · exact Iff.rfl
set_option maxHeartbeats 1000000 in
set_option maxRecDepth 100000 in
theorem rsame_zero (f : Nat) (hf : f < 2 ^ 64) (w : World) : Calls Tryz.prog 84 #[.float .f64 f, .float .f64 0] w fun e w' => e = .returned (.bool (cmpF f 0 == 0)) ∧ w' = w := by
  have HC := Lib.hid (fun w => rcanonf_any f hf w)
  have HZ := Lib.hid (fun w => rcanonf_any 0 (by decide) w)
  have hz : canR 0 = 0 := can_zero.2 rfl
  rw [hz] at HZ
  have HV : Hid ((cmpF f 0 == 0) = ((canR f : Int) == 0)) := Lib.hid (by
    have h1 := cmpF_zero_iff f
    have h2 := can_zero (f := f)
    by_cases h : f = 0
    · rw [h1.2 h, h2.2 h]; rfl
    · rw [beq_eq_false_iff_ne.2 fun h3 => h (h1.1 h3), beq_eq_false_iff_ne.2]
      intro h3; exact h (h2.1 (by omega)))
  clear hz hf
  generalize canR f = g at *
  have e1 : ∀ W : World, (callFunc 46 #[.float .f64 g]).run Tryz.prog W = .ok (.value (.int .u64 g)) W := fun W => by
    rw [run_callFunc_extern Tryz.func46 (by kernel_rfl) (by kernel_rfl) (by kernel_rfl) (e := Extern.MathFloatBits.float64bits) (by kernel_rfl)]
    rfl
  have e2 : ∀ W : World, (callFunc 46 #[.float .f64 0]).run Tryz.prog W = .ok (.value (.int .u64 0)) W := fun W => by
    rw [run_callFunc_extern Tryz.func46 (by kernel_rfl) (by kernel_rfl) (by kernel_rfl) (e := Extern.MathFloatBits.float64bits) (by kernel_rfl)]
    rfl
  go_enter Tryz.func84, Tryz.ntmps84
  go_wp2_with (first | (go_at_call 102; refine (HC.out _).mono ?_; rintro e z ⟨rfl, rfl⟩) | (go_at_call 102; refine (HZ.out _).mono ?_; rintro e z ⟨rfl, rfl⟩))
  go_ret
  exact ⟨ret_bool HV.out.symm, rfl⟩
set_option maxHeartbeats 1000000 in
theorem rzero_any (k n : Int) (f : Nat) (s : ByteArray) (vn vi : Value) (hf : f < 2 ^ 64) (w : World) : Calls Tryz.prog 61 #[.agg ⟨[.int .i64 k, .int .i64 n, .float .f64 f, .string s, vn, vi]⟩] w fun e w' => e = .returned (.bool (cmpF f 0 == 0)) ∧ Below w.heap.size w w' := by
  have HC := Lib.hid (fun w => rsame_zero f hf w)
  have HB1 := Lib.hid (box_below w (.cells ⟨[.int .i64 k, .int .i64 n, .float .f64 f, .string s, vn, vi]⟩ 26))
  clear hf
  go_enter Tryz.func61, Tryz.ntmps61
  go_wp2_with (go_at_call 84; refine (HC.out _).mono ?_; rintro e z ⟨rfl, rfl⟩)
  go_ret
  exact ⟨rfl, HB1.out⟩
end Go.Proofs.YtieciegfloldhaaGreatDoor
