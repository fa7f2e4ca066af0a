/- No program: lists of places in order. -/
import Derived.Test.YtpikafadfailkaaLabelPlain
namespace Go.Proofs.Ytpikafadfailkaa
open P
set_option linter.unusedVariables false

theorem listTo_sorted (S : Nat → Bool) (c : Nat) : (listTo S c).Pairwise (· < ·) := by
  unfold listTo
  rw [List.pairwise_map]
  refine List.Pairwise.imp ?_ (List.Pairwise.filter S (List.pairwise_lt_range (n := c)))
  intro a b h
  omega
theorem mem_listTo {S : Nat → Bool} {c : Nat} {x : Int} : x ∈ listTo S c ↔ ∃ i : Nat, i < c ∧ S i = true ∧ x = i := by
  unfold listTo
  rw [List.mem_map]
  constructor
  · rintro ⟨i, hi, rfl⟩
    rw [List.mem_filter, List.mem_range] at hi
    exact ⟨i, hi.1, hi.2, rfl⟩
  · rintro ⟨i, h1, h2, rfl⟩
    exact ⟨i, List.mem_filter.2 ⟨List.mem_range.2 h1, h2⟩, rfl⟩
theorem listTo_not (S : Nat → Bool) (c : Nat) : (listTo S c).length + (listTo (fun i => !S i) c).length = c := by
  induction c with
  | zero => rfl
  | succ c ih =>
    cases h : S c with
    | true =>
      rw [listTo_hit S c h, listTo_skip (fun i => !S i) c (c + 1) (by omega) fun i h1 h2 => by rw [show i = c by omega]; simp [h]]
      simp only [List.length_append, List.length_cons, List.length_nil]
      omega
    | false =>
      rw [listTo_skip S c (c + 1) (by omega) fun i h1 h2 => by rw [show i = c by omega]; exact h, listTo_hit (fun i => !S i) c (by simp [h])]
      simp only [List.length_append, List.length_cons, List.length_nil]
      omega

/-- what the walk through two lists in order leans on -/
structure Thin (lo up : List Int) : Prop where
  slo : lo.Pairwise (· < ·)
  sup : up.Pairwise (· < ·)
  sub : ∀ x, x ∈ lo → x ∈ up
theorem lt_at {l : List Int} (h : l.Pairwise (· < ·)) {i j : Nat} {x y : Int} (hi : l[i]? = some x) (hj : l[j]? = some y) (hij : i < j) : x < y := by
  obtain ⟨h1, rfl⟩ := List.getElem?_eq_some_iff.1 hi
  obtain ⟨h2, rfl⟩ := List.getElem?_eq_some_iff.1 hj
  exact List.pairwise_iff_getElem.1 h i j h1 h2 hij
/-- how far one may have come in the upper list, ahead of place j of the lower one -/
def Ahead (lo up : List Int) (j K : Nat) : Prop := ∀ t j' x, j ≤ j' → up[t]? = some x → lo[j']? = some x → K ≤ t
theorem Thin.place {lo up : List Int} (h : Thin lo up) {j K : Nat} {x : Int} (ha : Ahead lo up j K) (hx : lo[j]? = some x) : ∃ t, up[t]? = some x ∧ K ≤ t ∧ t < up.length := by
  obtain ⟨t, ht, rfl⟩ := List.getElem_of_mem (h.sub x (List.mem_of_getElem? hx))
  have h1 : up[t]? = some up[t] := List.getElem?_eq_getElem ht
  exact ⟨t, h1, ha t j _ (Nat.le_refl _) h1 hx, ht⟩
theorem Thin.next {lo up : List Int} (h : Thin lo up) {j K t : Nat} {x : Int} (hx : lo[j]? = some x) (ht : up[t]? = some x) (hK : K ≤ t) : Ahead lo up (j + 1) K := by
  intro t' j' y hj h1 h2
  have h3 := lt_at h.slo hx h2 (by omega)
  rcases Nat.lt_or_ge t t' with h4 | h4
  · omega
  · rcases Nat.lt_or_ge t' t with h5 | h5
    · have := lt_at h.sup h1 ht h5; omega
    · have : t' = t := by omega
      subst this
      rw [ht] at h1; cases h1; omega
theorem Thin.at {lo up : List Int} (h : Thin lo up) {K t : Nat} {x y : Int} (ht : up[t]? = some x) (hy : up[K]? = some y) (hK : K ≤ t) : (y < x ∧ K + 1 ≤ t) ∨ (y = x) := by
  rcases Nat.lt_or_ge K t with h4 | h4
  · exact .inl ⟨lt_at h.sup hy ht h4, h4⟩
  · have : K = t := by omega
    subst this
    rw [ht] at hy; cases hy; exact .inr rfl
theorem thin_vis {n : Nat} {L : Rel} (h : Lat n L) (l : List Int) {a b : Int} (hab : lqI n L a b = true) : Thin (visL n L l a) (visL n L l b) := by
  refine ⟨listTo_sorted _ _, listTo_sorted _ _, fun x hx => ?_⟩
  obtain ⟨i, h1, h2, rfl⟩ := mem_listTo.1 hx
  refine mem_listTo.2 ⟨i, h1, ?_, rfl⟩
  unfold seen at *
  generalize l.getD i 0 = z at *
  unfold lqI at *
  simp only [Bool.and_eq_true] at *
  exact ⟨⟨h2.1.1, hab.1.2⟩, h.trans _ _ _ h2.2 hab.2⟩
theorem near_high {n : Nat} {L : Rel} (hd : Dom n L) (h8 : n ≤ 8) (a : Int) : (dnL n L a).length + (highL n L a).length = n := by
  rw [← near_dn hd h8 a]
  exact listTo_not _ _

end Go.Proofs.Ytpikafadfailkaa
