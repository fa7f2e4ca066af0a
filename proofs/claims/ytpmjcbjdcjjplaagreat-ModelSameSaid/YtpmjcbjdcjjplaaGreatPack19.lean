/- Parts of a proof: FltT. -/
import Derived.Laws.FloatArith
import Derived.Test.YtpmjcbjdcjjplaaGreatPack6
namespace Go.Proofs.YtpmjcbjdcjjplaaGreat
open Go
set_option linter.unusedVariables false
theorem dbl_weight : Ieee.double.signWeight = 9223372036854775808 := by decide
theorem dbl_binade : Ieee.double.binade = 4503599627370496 := by decide
theorem dbl_inf : Ieee.double.infRung = 9218868437227405312 := by decide
theorem dbl_least : Ieee.double.leastPlace = -1074 := by decide
def magF (r : Nat) : Nat := if r < 4503599627370496 then r else 4503599627370496 + r % 4503599627370496
def expF (r : Nat) : Int := if r < 4503599627370496 then -1074 else -1074 + ((r / 4503599627370496 - 1 : Nat) : Int)
theorem read_fin {f : Nat} (hf : f < 2 ^ 64) (h : f % 9223372036854775808 < 9218868437227405312) : Ieee.double.read f = .number (decide (9223372036854775808 ≤ f)) (magF (f % 9223372036854775808)) (expF (f % 9223372036854775808)) := by
  unfold Ieee.Format.read
  simp only [dbl_weight, dbl_binade, dbl_inf, dbl_least]
  have hn : (f / 9223372036854775808 % 2 == 1) = decide (9223372036854775808 ≤ f) := by
    by_cases h1 : 9223372036854775808 ≤ f
    · rw [decide_eq_true h1]; have : f / 9223372036854775808 = 1 := by omega
      rw [this]; rfl
    · rw [decide_eq_false h1]; have : f / 9223372036854775808 = 0 := by omega
      rw [this]; rfl
  rw [hn]
  unfold magF expF
  by_cases h2 : f % 9223372036854775808 < 4503599627370496
  · rw [if_pos h2, if_pos h2, if_pos h2]
  · rw [if_neg h2, if_neg h2, if_neg h2, if_pos h]
theorem read_nan {f : Nat} (hf : f < 2 ^ 64) (h : 9218868437227405312 < f % 9223372036854775808) : ∃ s t, Ieee.double.read f = .nan s t := by
  unfold Ieee.Format.read
  simp only [dbl_weight, dbl_binade, dbl_inf, dbl_least]
  rw [if_neg (by omega), if_neg (by omega), if_neg (by omega)]
  exact ⟨_, _, rfl⟩
theorem mag_low {r : Nat} (h : r < 4503599627370496) : magF r = r ∧ expF r = -1074 := ⟨if_pos h, if_pos h⟩
def valF (r : Nat) : Nat := magF r * 2 ^ (expF r + 1074).toNat
theorem val_low {r : Nat} (h : r < 4503599627370496) : valF r = r := by
  unfold valF
  rw [(mag_low h).1, (mag_low h).2]
  show r * 2 ^ (0 : Nat) = r
  rw [Nat.pow_zero, Nat.mul_one]
end Go.Proofs.YtpmjcbjdcjjplaaGreat
