/- No program: comparisons answer -1, 0 or 1. -/
import Derived.Test.YtieciegfloldhaaDoorVRowP
namespace Go.Proofs.YtieciegfloldhaaDoor
open Go
set_option linter.unusedVariables false

def Is3 (x : Int) : Prop := x = -1 ∨ x = 0 ∨ x = 1
theorem is3_then {x y : Int} (h : Is3 x) (k : Is3 y) : Is3 (if x ≠ 0 then x else y) := by split <;> assumption
theorem cmpI_tri (a b : Int) : Is3 (cmpI a b) := by have := cmpI_val a b; unfold Is3; omega
theorem cmpS_tri (a b : ByteArray) : Is3 (cmpS a b) := compareBytes_val _ _
theorem listC_tri {α : Type} {f : α → α → Int} : ∀ l r : List α, (∀ a ∈ l, ∀ b ∈ r, Is3 (f a b)) → Is3 (listC f l r)
  | [], [], _ => .inr (.inl rfl)
  | [], _ :: _, _ => .inl rfl
  | _ :: _, [], _ => .inr (.inr rfl)
  | a :: l, b :: r, h => by
    unfold listC
    exact is3_then (h a (List.mem_cons_self ..) b (List.mem_cons_self ..)) (listC_tri l r fun x hx y hy => h x (List.mem_cons_of_mem _ hx) y (List.mem_cons_of_mem _ hy))
theorem cmpF_tri (a b : Nat) : Is3 (cmpF a b) := by
  rw [cmpF_eq]
  exact is3_then (cmpI_tri _ _) (is3_then (cmpD_val _ _) (cmpI_tri _ _))
theorem rowL_tri (k : Int) (a b : Lone) : Is3 (rowL k a b) := by
  unfold rowL rowV or3
  repeat' split
  all_goals first | exact cmpI_tri _ _ | exact cmpF_tri _ _ | exact cmpS_tri _ _ | exact .inr (.inl rfl) | exact listC_tri _ _ fun x _ y _ => cmpS_tri x y
theorem ordV_tri (a : VT) : ∀ b, ordV a b = -1 ∨ ordV a b = 0 ∨ ordV a b = 1 := by
  induction a using VT.ind with
  | h k n f s ns its ih =>
    intro b
    rw [ordV_eq]
    refine is3_then (cmpI_tri _ _) (is3_then (rowL_tri _ _ _) ?_)
    unfold restV
    split
    · exact .inr (.inl rfl)
    · exact listC_tri _ _ fun x hx y _ => ih x hx y
end Go.Proofs.YtieciegfloldhaaDoor
