/- Parts of a proof: TextP. -/
import Derived.Lib.ItoaNum
import Derived.Test.YtpmjcbjdcjjplaaGreatPack19
namespace Go.Proofs.YtpmjcbjdcjjplaaGreat
open Go
set_option linter.unusedVariables false
def redF : Nat → Nat → Int → Nat × Int
  | 0, m, e => (m, e)
  | k + 1, m, e => if m % 2 = 0 then redF k (m / 2) (e + 1) else (m, e)
theorem red_even {k m : Nat} {e : Int} (h : m % 2 = 0) : redF (k + 1) m e = redF k (m / 2) (e + 1) := by
  show (if m % 2 = 0 then _ else _) = _; rw [if_pos h]
def RedAt (t : Nat × Int) (e0 : Int) (m : Nat) (e : Int) : Prop := ∃ j : Nat, j ≤ 63 ∧ e = e0 + j ∧ 0 < m ∧ m < 2 ^ (64 - j) ∧ redF (64 - j) m e = t
theorem RedAt.start {m : Nat} {e : Int} (h0 : 0 < m) (h : m < 2 ^ 64) : RedAt (redF 64 m e) e m e := ⟨0, by omega, by omega, h0, h, rfl⟩
theorem RedAt.next {t : Nat × Int} {e0 : Int} {m : Nat} {e : Int} (h : RedAt t e0 m e) (hm : m % 2 = 0) : RedAt t e0 (m / 2) (e + 1) := by
  obtain ⟨j, h1, h2, h3, h4, h5⟩ := h
  have hj : j < 63 := by
    apply Nat.lt_of_le_of_ne h1
    rintro rfl
    rw [show 64 - 63 = 1 by omega] at h4
    omega
  refine ⟨j + 1, by omega, by omega, by omega, ?_, ?_⟩
  · rw [show 64 - j = (64 - (j + 1)) + 1 by omega, Nat.pow_succ] at h4; omega
  · rw [show 64 - j = (64 - (j + 1)) + 1 by omega, red_even hm] at h5; exact h5
end Go.Proofs.YtpmjcbjdcjjplaaGreat
