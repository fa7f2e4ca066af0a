/- No program: what joins and what is seen. -/
import Derived.Test.YtpikafadfailkaaLabel2
namespace Go.Proofs.Ytpikafadfailkaa
open P
set_option linter.unusedVariables false

theorem lqI_nat {n : Nat} {L : Rel} {x y : Nat} (hx : x < n) (hy : y < n) : lqI n L x y = L x y := by
  unfold lqI; rw [isL_nat hx, isL_nat hy]; simp
theorem lqI_self {n : Nat} {L : Rel} (h : Lat n L) (a : Int) : lqI n L a a = isL n a := by
  cases e : isL n a with
  | false => unfold lqI; rw [e]; rfl
  | true =>
    obtain ⟨y, rfl, hy⟩ := isL_true e
    rw [lqI_nat hy hy]; exact h.refl y hy
theorem jj_le {n : Nat} {L : Rel} (h : Lat n L) {x a d : Nat} (hx : x < n) (ha : a < n) : L (jj n L x a) d = (L x d && L a d) := by
  have sp := h.jj_spec hx ha
  rw [Bool.eq_iff_iff, Bool.and_eq_true]
  exact ⟨fun k => ⟨h.trans _ _ _ sp.2.2.1 k, h.trans _ _ _ sp.2.2.2.1 k⟩, fun k => sp.2.2.2.2 _ k.1 k.2⟩
theorem fold_le {n : Nat} {L : Rel} (h : Lat n L) {d : Nat} : ∀ (l : List Int) (x : Nat), x < n → allL n l = true → L (foldJ n L x l) d = (L x d && l.all fun a => L a.toNat d)
  | [], x, _, _ => by simp [foldJ]
  | a :: l, x, hx, ha => by
    simp only [allL, List.all_cons, Bool.and_eq_true] at ha
    obtain ⟨y, rfl, hy⟩ := isL_true ha.1
    have ih := fold_le h (d := d) l (jj n L x y) (h.jj_lt hx hy) ha.2
    show L (foldJ n L (jj n L x ((y : Int)).toNat) l) d = _
    rw [Int.toNat_natCast, ih, jj_le h hx hy, List.all_cons, Int.toNat_natCast, Bool.and_assoc]
theorem listTo_full (S : Nat → Bool) (c : Nat) : ((listTo S c).length = c) ↔ ∀ i, i < c → S i = true := by
  unfold listTo
  rw [List.length_map]
  constructor
  · intro h i hi
    have h2 : ((List.range c).filter S).length = (List.range c).length := by rw [h]; simp
    exact (List.length_filter_eq_length_iff.1 h2) i (List.mem_range.2 hi)
  · intro h
    have : ((List.range c).filter S).length = (List.range c).length := List.length_filter_eq_length_iff.2 fun i hi => h i (List.mem_range.1 hi)
    rw [this]; simp
theorem all_seen {n : Nat} {L : Rel} (h : Lat n L) {l : List Int} {d : Nat} (hd : d < n) (ha : allL n l = true) :
    ((visL n L l d).length = l.length) ↔ L (foldJ n L (bot n L) l) d = true := by
  rw [fold_le h l _ h.bot_lt ha, h.bot_le d hd, Bool.true_and, List.all_eq_true]
  unfold visL
  rw [listTo_full]
  unfold allL at ha
  rw [List.all_eq_true] at ha
  constructor
  · intro k x hx
    obtain ⟨i, hi, rfl⟩ := List.getElem_of_mem hx
    have := k i hi
    unfold seen at this
    rw [List.getD_eq_getElem?_getD, List.getElem?_eq_getElem hi] at this
    obtain ⟨y, hy, hy2⟩ := isL_true (ha _ hx)
    simp only [Option.getD_some] at this
    rw [hy] at this ⊢
    rw [lqI_nat hy2 hd] at this
    rw [Int.toNat_natCast]; exact this
  · intro k i hi
    have hx := List.getElem_mem hi
    have := k _ hx
    unfold seen
    rw [List.getD_eq_getElem?_getD, List.getElem?_eq_getElem hi]
    obtain ⟨y, hy, hy2⟩ := isL_true (ha _ hx)
    simp only [Option.getD_some]
    rw [hy] at this ⊢
    rw [lqI_nat hy2 hd]
    rw [Int.toNat_natCast] at this; exact this

end Go.Proofs.Ytpikafadfailkaa
