/- Parts of a proof: TextF, KeyZ. -/
import Derived.Lib.ItoaMem
import Derived.Test.YtpmjcbjdcjjplaaGreatPack11
import Derived.Test.YtpmjcbjdcjjplaaGreatPack20
section
namespace Go.Proofs.YtpmjcbjdcjjplaaGreat
open Go
set_option linter.unusedVariables false
theorem dec_more {n : Nat} (h : ¬ n < 10) : Lib.decDigits n = Lib.decDigits (n / 10) ++ [UInt8.ofNat (48 + n % 10)] := by
  rw [Lib.decDigits, dif_neg h]
theorem mag_zero {r : Nat} : magF r = 0 ↔ r = 0 := by
  unfold magF
  by_cases h : r < 4503599627370496
  · rw [if_pos h]
  · rw [if_neg h]; omega
theorem val_zero {r : Nat} : valF r = 0 ↔ r = 0 := by
  unfold valF
  have := Nat.two_pow_pos (expF r + 1074).toNat
  rw [Nat.mul_eq_zero, mag_zero]
  omega
theorem read_inf' {f : Nat} (hf : f < 2 ^ 64) (h : f % 9223372036854775808 = 9218868437227405312) : Ieee.double.read f = .infinity (decide (9223372036854775808 ≤ f)) := by
  have hd : f = 9218868437227405312 ∨ f = 18442240474082181120 := by omega
  rcases hd with rfl | rfl <;> decide +kernel
theorem nanD_fin {f : Nat} (hf : f < 2 ^ 64) : nanD (dat f) ≠ 0 ↔ 9218868437227405312 < f % 9223372036854775808 := by
  show nanD (Ieee.double.read f) ≠ 0 ↔ _
  rcases Nat.lt_trichotomy (f % 9223372036854775808) 9218868437227405312 with h | h | h
  · rw [read_fin hf h]; exact ⟨fun e => (e rfl).elim, fun e => by omega⟩
  · rw [read_inf' hf h]; exact ⟨fun e => (e rfl).elim, fun e => by omega⟩
  · obtain ⟨s, t, e⟩ := read_nan hf h
    rw [e]; exact ⟨fun _ => h, fun _ => Int.one_ne_zero⟩
theorem rank_val {f : Nat} (hf : f < 2 ^ 64) : rankZ f = if f = 9223372036854775808 then -1 else 0 := by
  unfold rankZ
  by_cases h : f = 9223372036854775808
  · subst h; rw [if_pos rfl, if_pos (by decide +kernel)]
  · rw [if_neg h, if_neg]
    rintro ⟨h1, h2⟩
    rcases zero_two hf h1 with h3 | h3
    · exact h2 h3
    · exact h h3
theorem val_fin {f : Nat} (hf : f < 2 ^ 64) (h : f % 9223372036854775808 < 9218868437227405312) :
    valD (dat f) = (if 9223372036854775808 ≤ f then -((valF (f % 9223372036854775808) : Nat) : Int) else (valF (f % 9223372036854775808) : Nat)) ∧ clsD (dat f) = 0 := by
  show valD (Ieee.double.read f) = _ ∧ clsD (Ieee.double.read f) = 0
  rw [read_fin hf h]
  refine ⟨?_, rfl⟩
  show Ieee.signed _ _ (expF (f % 9223372036854775808) + 1074).toNat = _
  unfold Ieee.signed valF
  by_cases hs : 9223372036854775808 ≤ f
  · simp [hs, Nat.shiftLeft_eq]
  · simp [hs, Nat.shiftLeft_eq]
end Go.Proofs.YtpmjcbjdcjjplaaGreat
end
section
namespace Go.Proofs.YtpmjcbjdcjjplaaGreat
open Go Go.RowKit
set_option linter.unusedVariables false
theorem valF_form (r : Nat) : valF r = if r < 4503599627370496 then r else (4503599627370496 + r % 4503599627370496) * 2 ^ (r / 4503599627370496 - 1) := by
  by_cases h : r < 4503599627370496
  · rw [if_pos h]; exact val_low h
  · rw [if_neg h]
    unfold valF magF expF
    rw [if_neg h, if_neg h]
    congr 2
    omega
theorem valF_succ (r : Nat) : valF r < valF (r + 1) := by
  rw [valF_form, valF_form]
  by_cases h : r + 1 < 4503599627370496
  · rw [if_pos (by omega), if_pos h]; omega
  · rw [if_neg h]
    by_cases h1 : r < 4503599627370496
    · have : r + 1 = 4503599627370496 := by omega
      rw [if_pos h1, this]
      show r < (4503599627370496 + 0) * 2 ^ 0
      omega
    · rw [if_neg h1]
      by_cases h2 : r % 4503599627370496 = 4503599627370495
      · have e1 : (r + 1) % 4503599627370496 = 0 := by omega
        have e2 : (r + 1) / 4503599627370496 - 1 = (r / 4503599627370496 - 1) + 1 := by omega
        rw [e1, e2, h2, Nat.pow_succ]
        have := Nat.two_pow_pos (r / 4503599627370496 - 1)
        generalize 2 ^ (r / 4503599627370496 - 1) = p at *
        omega
      · have e1 : (r + 1) % 4503599627370496 = r % 4503599627370496 + 1 := by omega
        have e2 : (r + 1) / 4503599627370496 = r / 4503599627370496 := by omega
        rw [e1, e2]
        exact Nat.mul_lt_mul_of_pos_right (by omega) (Nat.two_pow_pos _)
theorem valF_add (r k : Nat) : valF r < valF (r + k + 1) := by
  induction k with
  | zero => exact valF_succ r
  | succ k ih => exact Nat.lt_trans ih (valF_succ _)
theorem valF_lt {r s : Nat} (h : r < s) : valF r < valF s := by
  obtain ⟨k, rfl⟩ : ∃ k, s = r + k + 1 := ⟨s - r - 1, by omega⟩
  exact valF_add r k
def keyZ (f : Nat) : Int := if 9218868437227405312 < f % 9223372036854775808 then 9223372036854775807 else if 9223372036854775808 ≤ f then -1 - ((f : Int) - 9223372036854775808) else f
theorem cmpF_keyZ {f g : Nat} (hf : f < 2 ^ 64) (hg : g < 2 ^ 64) : cmpF f g = cmpI (keyZ f) (keyZ g) := by
  have nf := nanD_fin hf
  have ng := nanD_fin hg
  have bf := nanD_val (dat f)
  have bg := nanD_val (dat g)
  have hn := cmpI_val (nanD (dat f)) (nanD (dat g))
  have hk := cmpI_val (keyZ f) (keyZ g)
  rw [cmpF_eq]
  unfold cmpF'
  by_cases h1 : 9218868437227405312 < f % 9223372036854775808
  · have kf : keyZ f = 9223372036854775807 := by unfold keyZ; rw [if_pos h1]
    by_cases h2 : 9218868437227405312 < g % 9223372036854775808
    · have kg : keyZ g = 9223372036854775807 := by unfold keyZ; rw [if_pos h2]
      have cf := nan_cls _ (nf.2 h1)
      have cg := nan_cls _ (ng.2 h2)
      have e1 : nanD (dat f) = 1 := by have := nf.2 h1; omega
      have e2 : nanD (dat g) = 1 := by have := ng.2 h2; omega
      rw [e1, e2, kf, kg, rankZ_nan _ (nf.2 h1), rankZ_nan _ (ng.2 h2)]
      unfold cmpD
      rw [cf.1, cf.2, cg.1, cg.2]; decide
    · have e1 : nanD (dat f) = 1 := by have := nf.2 h1; omega
      have e2 : nanD (dat g) = 0 := by
        rcases bg with h | h
        · exact h
        · exact (h2 (ng.1 (by omega))).elim
      have kg : keyZ g < 9223372036854775807 := by unfold keyZ; rw [if_neg h2]; split <;> omega
      rw [e1, e2] at hn ⊢
      rw [if_pos (by omega)]
      omega
  · by_cases h2 : 9218868437227405312 < g % 9223372036854775808
    · have kg : keyZ g = 9223372036854775807 := by unfold keyZ; rw [if_pos h2]
      have e2 : nanD (dat g) = 1 := by have := ng.2 h2; omega
      have e1 : nanD (dat f) = 0 := by
        rcases bf with h | h
        · exact h
        · exact (h1 (nf.1 (by omega))).elim
      have kf : keyZ f < 9223372036854775807 := by unfold keyZ; rw [if_neg h1]; split <;> omega
      rw [e1, e2] at hn ⊢
      rw [if_pos (by omega)]
      omega
    · have e1 : nanD (dat f) = 0 := by
        rcases bf with h | h
        · exact h
        · exact (h1 (nf.1 (by omega))).elim
      have e2 : nanD (dat g) = 0 := by
        rcases bg with h | h
        · exact h
        · exact (h2 (ng.1 (by omega))).elim
      rw [e1, e2]
      rw [if_neg (by decide)]
      have kf : (9223372036854775808 ≤ f ∧ keyZ f = -1 - ((f : Int) - 9223372036854775808)) ∨ (¬ 9223372036854775808 ≤ f ∧ keyZ f = f) := by
        unfold keyZ; rw [if_neg h1]
        by_cases hs : 9223372036854775808 ≤ f
        · exact .inl ⟨hs, if_pos hs⟩
        · exact .inr ⟨hs, if_neg hs⟩
      have kg : (9223372036854775808 ≤ g ∧ keyZ g = -1 - ((g : Int) - 9223372036854775808)) ∨ (¬ 9223372036854775808 ≤ g ∧ keyZ g = g) := by
        unfold keyZ; rw [if_neg h2]
        by_cases hs : 9223372036854775808 ≤ g
        · exact .inl ⟨hs, if_pos hs⟩
        · exact .inr ⟨hs, if_neg hs⟩
      have side : ∀ {q : Nat}, q < 2 ^ 64 → ¬ 9218868437227405312 < q % 9223372036854775808 →
          (q % 9223372036854775808 = 9218868437227405312 ∧ valD (dat q) = 0 ∧ clsD (dat q) = if 9223372036854775808 ≤ q then -1 else 1) ∨
          (q % 9223372036854775808 < 9218868437227405312 ∧ clsD (dat q) = 0 ∧ valD (dat q) = if 9223372036854775808 ≤ q then -((valF (q % 9223372036854775808) : Nat) : Int) else (valF (q % 9223372036854775808) : Nat)) := by
        intro q hq hl
        rcases Nat.lt_or_ge (q % 9223372036854775808) 9218868437227405312 with h | h
        · obtain ⟨a, b⟩ := val_fin hq h
          exact .inr ⟨h, b, a⟩
        · have he : q % 9223372036854775808 = 9218868437227405312 := by omega
          have hr : dat q = .infinity (decide (9223372036854775808 ≤ q)) := read_inf' hq he
          refine .inl ⟨he, by rw [hr]; rfl, ?_⟩
          rw [hr]
          by_cases hs : 9223372036854775808 ≤ q <;> simp [hs, clsD]
      have sf := side hf h1
      have sg := side hg h2
      have rf := rank_val hf
      have rg := rank_val hg
      have zf := val_zero (r := f % 9223372036854775808)
      have zg := val_zero (r := g % 9223372036854775808)
      have hm : (f % 9223372036854775808 < g % 9223372036854775808 ∧ valF (f % 9223372036854775808) < valF (g % 9223372036854775808)) ∨ (g % 9223372036854775808 < f % 9223372036854775808 ∧ valF (g % 9223372036854775808) < valF (f % 9223372036854775808)) ∨
          (f % 9223372036854775808 = g % 9223372036854775808 ∧ valF (f % 9223372036854775808) = valF (g % 9223372036854775808)) := by
        rcases Nat.lt_trichotomy (f % 9223372036854775808) (g % 9223372036854775808) with h | h | h
        · exact .inl ⟨h, valF_lt h⟩
        · exact .inr (.inr ⟨h, by rw [h]⟩)
        · exact .inr (.inl ⟨h, valF_lt h⟩)
      have hc := cmpI_val (clsD (dat f)) (clsD (dat g))
      have hv := cmpI_val (valD (dat f)) (valD (dat g))
      have hr := cmpI_val (rankZ f) (rankZ g)
      unfold cmpD
      clear nf ng bf bg hn e1 e2 side
      generalize clsD (dat f) = qf at *
      generalize clsD (dat g) = qg at *
      generalize valD (dat f) = vf at *
      generalize valD (dat g) = vg at *
      generalize rankZ f = af at *
      generalize rankZ g = ag at *
      have z1 := zf.1
      have z2 := zf.2
      have z3 := zg.1
      have z4 := zg.2
      clear zf zg
      generalize valF (f % 9223372036854775808) = x at *
      generalize valF (g % 9223372036854775808) = y at *
      generalize keyZ f = uf at *
      generalize keyZ g = ug at *
      generalize cmpI qf qg = c1 at *
      generalize cmpI vf vg = c2 at *
      generalize cmpI af ag = c3 at *
      generalize cmpI uf ug = c4 at *
      have rf2 : (f = 9223372036854775808 ∧ af = -1) ∨ (f ≠ 9223372036854775808 ∧ af = 0) := by
        by_cases h : f = 9223372036854775808
        · exact .inl ⟨h, by rw [rf, if_pos h]⟩
        · exact .inr ⟨h, by rw [rf, if_neg h]⟩
      have rg2 : (g = 9223372036854775808 ∧ ag = -1) ∨ (g ≠ 9223372036854775808 ∧ ag = 0) := by
        by_cases h : g = 9223372036854775808
        · exact .inl ⟨h, by rw [rg, if_pos h]⟩
        · exact .inr ⟨h, by rw [rg, if_neg h]⟩
      have goal : (if (if c1 ≠ 0 then c1 else c2) ≠ 0 then (if c1 ≠ 0 then c1 else c2) else c3) = if c1 ≠ 0 then c1 else if c2 ≠ 0 then c2 else c3 := by
        by_cases h : c1 ≠ 0
        · rw [if_pos h, if_pos h, if_pos h]
        · rw [if_neg h, if_neg h]
      rw [goal]
      clear goal rf rg
      rcases kf with ⟨s1, kf⟩ | ⟨s1, kf⟩ <;> rcases kg with ⟨s2, kg⟩ | ⟨s2, kg⟩ <;> simp only [s1, s2, if_true, if_false] at sf sg <;>
        rcases sf with ⟨p1, p2, p3⟩ | ⟨p1, p2, p3⟩ <;> rcases sg with ⟨q1, q2, q3⟩ | ⟨q1, q2, q3⟩ <;> (repeat' split) <;> omega
end Go.Proofs.YtpmjcbjdcjjplaaGreat
end
