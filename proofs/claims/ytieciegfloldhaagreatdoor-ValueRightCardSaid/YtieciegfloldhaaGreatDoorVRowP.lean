/- No program: the order of values is total. -/
import Derived.Test.YtieciegfloldhaaGreatDoorVOrd
namespace Go.Proofs.YtieciegfloldhaaGreatDoor
open Go
set_option linter.unusedVariables false

theorem then_pt {fab fbc fac gab gbc gac : Int} (p0 : fab ≤ 0 → fbc ≤ 0 → fac ≤ 0) (p1 : fab < 0 → fbc ≤ 0 → fac < 0) (p2 : fab ≤ 0 → fbc < 0 → fac < 0) (hg : fab = 0 → fbc = 0 → gab ≤ 0 → gbc ≤ 0 → gac ≤ 0)
    (h1 : (if fab ≠ 0 then fab else gab) ≤ 0) (h2 : (if fbc ≠ 0 then fbc else gbc) ≤ 0) : (if fac ≠ 0 then fac else gac) ≤ 0 := by
  by_cases e1 : fab = 0
  · rw [if_neg (by omega)] at h1
    by_cases e2 : fbc = 0
    · rw [if_neg (by omega)] at h2
      have h3 := p0 (by omega) (by omega)
      by_cases e3 : fac = 0
      · rw [if_neg (by omega)]; exact hg e1 e2 h1 h2
      · rw [if_pos e3]; exact h3
    · rw [if_pos e2] at h2
      have := p2 (by omega) (by omega)
      rw [if_pos (by omega)]; omega
  · rw [if_pos e1] at h1
    have h4 : fbc ≤ 0 := by
      by_cases e2 : fbc = 0
      · omega
      · rw [if_pos e2] at h2; exact h2
    have := p1 (by omega) h4
    rw [if_pos (by omega)]; omega
/-- what stands in a value beside its items -/
structure Lone where
  n : Int
  f : Nat
  s : ByteArray
  ns : List ByteArray
def rowL (k : Int) (a b : Lone) : Int := rowV k a.n b.n a.f b.f a.s b.s a.ns b.ns
theorem rowL_good (k : Int) : Cmp (rowL k) := by
  by_cases h1 : k = 1 ∨ k = 2
  · have : rowL k = fun a b => cmpI a.n b.n := funext fun a => funext fun b => by unfold rowL rowV; rw [if_pos h1]
    rw [this]; exact cmpI_good.on Lone.n
  by_cases h3 : k = 3
  · have : rowL k = fun a b => cmpF a.f b.f := funext fun a => funext fun b => by unfold rowL rowV; rw [if_neg h1, if_pos h3]
    rw [this]; exact cmpF_good.on Lone.f
  by_cases h4 : k = 4
  · have : rowL k = fun a b => cmpS a.s b.s := funext fun a => funext fun b => by unfold rowL rowV; rw [if_neg h1, if_neg h3, if_pos h4]
    rw [this]; exact cmpS_good.on Lone.s
  by_cases h5 : k = 5
  · have : rowL k = fun a b => 0 := funext fun a => funext fun b => by unfold rowL rowV; rw [if_neg h1, if_neg h3, if_neg h4, if_pos h5]
    rw [this]; exact ⟨fun _ _ => rfl, fun _ _ _ _ _ => Int.le_refl 0⟩
  by_cases h6 : k = 6
  · have : rowL k = fun a b => listC cmpS a.ns b.ns := funext fun a => funext fun b => by unfold rowL rowV; rw [if_neg h1, if_neg h3, if_neg h4, if_neg h5, if_pos h6]
    rw [this]; exact cmpS_good.list.on Lone.ns
  · have : rowL k = fun a b => if cmpI a.n b.n ≠ 0 then cmpI a.n b.n else if cmpS a.s b.s ≠ 0 then cmpS a.s b.s else listC cmpS a.ns b.ns := funext fun a => funext fun b => by unfold rowL rowV or3; rw [if_neg h1, if_neg h3, if_neg h4, if_neg h5, if_neg h6]
    rw [this]; exact (cmpI_good.on Lone.n).then ((cmpS_good.on Lone.s).then (cmpS_good.list.on Lone.ns))
def VT.kind : VT → Int | .mk k _ _ _ _ _ => k
def VT.lone : VT → Lone | .mk _ n f s ns _ => ⟨n, f, s, ns⟩
def restV (k : Int) (l r : List VT) : Int := if leafK k = true then 0 else listC ordV l r
theorem ordV_eq (a b : VT) : ordV a b = if cmpI a.kind b.kind ≠ 0 then cmpI a.kind b.kind else if rowL a.kind a.lone b.lone ≠ 0 then rowL a.kind a.lone b.lone else restV a.kind a.items b.items := by
  cases a with
  | mk k n f s ns its =>
    cases b with
    | mk k' n' f' s' ns' its' =>
      rw [ordV, ordL_eq]
      show _ = if cmpI k k' ≠ 0 then cmpI k k' else if rowV k n n' f f' s s' ns ns' ≠ 0 then rowV k n n' f f' s s' ns ns' else if leafK k = true then 0 else listC ordV its its'
      by_cases h : cmpI k k' ≠ 0
      · rw [if_pos h, if_pos h]
      · rw [if_neg h, if_neg h]
        by_cases h2 : rowV k n n' f f' s s' ns ns' ≠ 0
        · rw [if_pos (.inl h2), if_pos h2]
        · rw [if_neg h2]
          by_cases h3 : leafK k = true
          · rw [if_pos (.inr h3), if_pos h3]; omega
          · rw [if_neg (by rintro (h | h); exact h2 h; exact h3 h), if_neg h3]
theorem cmpI_eq0 {a b : Int} (h : cmpI a b = 0) : a = b := by
  have := cmpI_val a b
  omega
theorem ordV_anti (a : VT) : ∀ b, ordV b a = - ordV a b := by
  induction a using VT.ind with
  | h k n f s ns its ih =>
    intro b
    generalize ha : VT.mk k n f s ns its = a
    have hit : a.items = its := by rw [← ha]; rfl
    rw [ordV_eq b a, ordV_eq a b]
    have h1 := cmpI_good.anti a.kind b.kind
    by_cases h0 : cmpI a.kind b.kind = 0
    · have hk := cmpI_eq0 h0
      rw [if_neg (show ¬ cmpI b.kind a.kind ≠ 0 by omega), if_neg (show ¬ cmpI a.kind b.kind ≠ 0 by omega), ← hk]
      have h2 := (rowL_good a.kind).anti a.lone b.lone
      by_cases h3 : rowL a.kind a.lone b.lone = 0
      · rw [if_neg (show ¬ rowL a.kind b.lone a.lone ≠ 0 by omega), if_neg (show ¬ rowL a.kind a.lone b.lone ≠ 0 by omega)]
        unfold restV
        split
        · rfl
        · rw [hit]; exact listC_anti its b.items fun x hx y _ => ih x hx y
      · rw [if_pos (show rowL a.kind b.lone a.lone ≠ 0 by omega), if_pos h3]; exact h2
    · rw [if_pos (show cmpI b.kind a.kind ≠ 0 by omega), if_pos h0]; exact h1
theorem items_lt {a x : VT} (h : x ∈ a.items) : SizeOf.sizeOf x < SizeOf.sizeOf a := by
  cases a with
  | mk k n f s ns its =>
    have := List.sizeOf_lt_of_mem (show x ∈ its from h)
    simp
    omega
theorem ordV_trans : ∀ (m : Nat) (a b c : VT), SizeOf.sizeOf a + SizeOf.sizeOf b + SizeOf.sizeOf c ≤ m → ordV a b ≤ 0 → ordV b c ≤ 0 → ordV a c ≤ 0
  | 0, a, b, c, hm, _, _ => by
    have : 0 < SizeOf.sizeOf a := by cases a; simp; omega
    omega
  | m + 1, a, b, c, hm, h1, h2 => by
    have ih := ordV_trans m
    rw [ordV_eq] at h1 h2 ⊢
    refine then_pt (cmpI_good.trans _ _ _) cmpI_good.lt_le cmpI_good.le_lt (fun e1 e2 => ?_) h1 h2
    have k1 := cmpI_eq0 e1
    have k2 := cmpI_eq0 e2
    rw [← k1]
    refine then_pt ((rowL_good a.kind).trans _ _ _) (rowL_good a.kind).lt_le (rowL_good a.kind).le_lt fun _ _ => ?_
    unfold restV
    split
    · intro _ _; omega
    · refine listC_trans a.items b.items c.items fun x hx y hy z hz => ?_
      have s1 := items_lt hx
      have s2 := items_lt hy
      have s3 := items_lt hz
      have t1 := ih x y z (by omega)
      have t2 := ih y z x (by omega)
      have t3 := ih z x y (by omega)
      have a1 := ordV_anti x y
      have a2 := ordV_anti y z
      have a3 := ordV_anti x z
      refine ⟨t1, fun h h' => ?_, fun h h' => ?_⟩
      · rcases Int.lt_or_le (ordV x z) 0 with h3 | h3
        · exact h3
        · have := t2 h' (by omega); omega
      · rcases Int.lt_or_le (ordV x z) 0 with h3 | h3
        · exact h3
        · have := t3 (by omega) h; omega
theorem ordV_good : Cmp ordV := ⟨ordV_anti, fun a b c => ordV_trans _ a b c (Nat.le_refl _)⟩
end Go.Proofs.YtieciegfloldhaaGreatDoor
