/- No program: canonical values: the same as they were, as right, as many parts. -/
import Derived.Test.YtieciegfloldhaaDoorVRight
import Derived.Test.YtieciegfloldhaaDoorVRowP
namespace Go.Proofs.YtieciegfloldhaaDoor
open Go
set_option linter.unusedVariables false

def canonF (f : Nat) : Nat := if nanB f = true then 9221120237041090560 else f
theorem canonF_nan {f : Nat} (h : nanB f = true) : cmpF (canonF f) f = 0 := by
  have h1 : nanB 9221120237041090560 = true := by decide +kernel
  unfold canonF
  rw [if_pos h]
  unfold cmpF
  rw [h1, h]
  rfl
theorem canonF_same (f : Nat) : cmpF (canonF f) f = 0 := by
  by_cases h : nanB f = true
  · exact canonF_nan h
  · unfold canonF
    rw [if_neg h]
    exact cmpF_good.refl f
theorem canonF_zero (f : Nat) : (cmpF (canonF f) 0 == 0) = (cmpF f 0 == 0) := by
  have h1 := canonF_same f
  have h2 := cmpF_good.anti (canonF f) f
  have t1 := cmpF_good.trans (canonF f) f 0
  have t2 := cmpF_good.trans f (canonF f) 0
  have t3 := cmpF_good.trans 0 (canonF f) f
  have t4 := cmpF_good.trans 0 f (canonF f)
  have a1 := cmpF_good.anti (canonF f) 0
  have a2 := cmpF_good.anti f 0
  rw [Bool.eq_iff_iff, beq_iff_eq, beq_iff_eq]
  constructor <;> intro h <;> omega
mutual
def canonV : VT → VT
  | .mk k n f s ns its => .mk k n (canonF f) s ns (canonL its)
def canonL : List VT → List VT
  | [] => []
  | a :: l => canonV a :: canonL l
end
theorem canonL_map : ∀ l : List VT, canonL l = l.map canonV
  | [] => by rw [canonL]; rfl
  | a :: l => by rw [canonL, canonL_map l]; rfl
theorem canonL_len (l : List VT) : (canonL l).length = l.length := by rw [canonL_map, List.length_map]
theorem listC_zero {α : Type} {f : α → α → Int} (g : α → α) : ∀ l : List α, (∀ x ∈ l, f (g x) x = 0) → listC f (l.map g) l = 0
  | [], _ => rfl
  | a :: l, h => by
    show (if f (g a) a ≠ 0 then f (g a) a else listC f (l.map g) l) = 0
    rw [if_neg (by rw [h a (List.mem_cons_self ..)]; omega)]
    exact listC_zero g l fun x hx => h x (List.mem_cons_of_mem _ hx)
theorem canon_same (t : VT) : ordV (canonV t) t = 0 := by
  induction t using VT.ind with
  | h k n f s ns its ih =>
    rw [canonV, ordV, ordL_eq, canonL_map]
    rw [if_neg (by rw [cmpI_zero rfl]; omega)]
    have hr : rowV k n n (canonF f) f s s ns ns = 0 := by
      unfold rowV or3
      have e1 := cmpI_zero (rfl : n = n)
      have e2 := cmpS_good.refl s
      have e3 := cmpS_good.list.refl ns
      have e4 := canonF_same f
      rw [e1, e2, e3, e4]
      repeat' split
      all_goals first | rfl | omega
    rw [hr]
    by_cases hl : leafK k = true
    · rw [if_pos (.inr hl)]
    · rw [if_neg (by rintro (h | h); exact h rfl; exact hl h)]
      exact listC_zero canonV its ih
theorem bareB_canon (a b c d : Bool) (n : Int) (f : Nat) (s : ByteArray) (x y : Nat) : bareB a b c d n (canonF f) s x y = bareB a b c d n f s x y := by
  unfold bareB
  rw [canonF_zero]
theorem rightL_canon : ∀ (l : List VT) (d : Nat), (∀ x ∈ l, ∀ d, rightV (canonV x) d = rightV x d) → rightL (canonL l) d = rightL l d
  | [], d, _ => by rw [canonL]
  | a :: l, d, h => by
    rw [canonL, rightL, rightL, h a (List.mem_cons_self ..), rightL_canon l d fun x hx => h x (List.mem_cons_of_mem _ hx)]
theorem canon_right (t : VT) : ∀ d, rightV (canonV t) d = rightV t d := by
  induction t using VT.ind with
  | h k n f s ns its ih =>
    intro d
    rw [canonV, rightV, rightV]
    simp only [bareB_canon, canonL_len, rightL_canon its _ ih]
theorem cntL_canon : ∀ (l : List VT) (m : Nat), (∀ x ∈ l, ∀ m, cntV (canonV x) m = cntV x m) → cntL (canonL l) m = cntL l m
  | [], m, _ => by rw [canonL]
  | a :: l, m, h => by
    rw [canonL, cntL, cntL, h a (List.mem_cons_self ..)]
    split
    · rfl
    · exact cntL_canon l _ fun x hx => h x (List.mem_cons_of_mem _ hx)
theorem canon_parts (t : VT) : ∀ m, cntV (canonV t) m = cntV t m := by
  induction t using VT.ind with
  | h k n f s ns its ih =>
    intro m
    rw [canonV, cntV, cntV]
    exact cntL_canon its _ ih
end Go.Proofs.YtieciegfloldhaaDoor
