/- No program: dominators. -/
import Derived.Test.YtlfefikhmdbbfaaGreatGraph2
namespace Go.Proofs.YtlfefikhmdbbfaaGreat
set_option linter.unusedVariables false

/-- the root, and what is reached from it -/
def come (n : Nat) (E : List (Nat × Nat)) (r x : Nat) : Bool := x == r || reach n E r x
def less (E : List (Nat × Nat)) (d : Nat) : List (Nat × Nat) := E.filter fun e => !(e.2 == d)
def domOf (n : Nat) (E : List (Nat × Nat)) (r d i : Nat) : Bool := come n E r d && come n E r i && (d == r || i == d || !come n (less E d) r i)
theorem mem_less {E : List (Nat × Nat)} {d : Nat} {e : Nat × Nat} : e ∈ less E d ↔ e ∈ E ∧ e.2 ≠ d := by
  unfold less; rw [List.mem_filter]; simp
theorem less_lt {n : Nat} {E : List (Nat × Nat)} (hE : ∀ e ∈ E, e.2 < n) (d : Nat) : ∀ e ∈ less E d, e.2 < n := fun e he => hE e (mem_less.1 he).1
theorem come_iff {n : Nat} {E : List (Nat × Nat)} (hE : ∀ e ∈ E, e.2 < n) {r x : Nat} : come n E r x = true ↔ x = r ∨ Way E r x := by
  unfold come; rw [Bool.or_eq_true, reach_iff hE]; simp
theorem come_next {n : Nat} {E : List (Nat × Nat)} (hE : ∀ e ∈ E, e.2 < n) {r x y : Nat} (h : come n E r x = true) (he : (x, y) ∈ E) : come n E r y = true := by
  rw [come_iff hE] at *
  rcases h with rfl | h
  · exact .inr (.one he)
  · exact .inr (.more h he)

/-- what dominates all that lead to a node, and itself -/
def aboveS (n : Nat) (E : List (Nat × Nat)) (r : Nat) (S : Nat → Nat → Bool) (i d : Nat) : Bool :=
  come n E r d && (d == i || (ins E i).all fun k => !come n E r k || S k d)
structure DomInv (n : Nat) (E : List (Nat × Nat)) (r : Nat) (S : Nat → Nat → Bool) : Prop where
  root : ∀ d, S r d = (d == r)
  some : ∀ i d, come n E r i = true → S i d = true → come n E r d = true
  dom : ∀ i d, come n E r i = true → domOf n E r d i = true → S i d = true
  down : ∀ i d, come n E r i = true → i ≠ r → aboveS n E r S i d = true → S i d = true
  self : ∀ i, come n E r i = true → S i i = true
section
variable {n : Nat} {E : List (Nat × Nat)} {r : Nat} (hE : ∀ e ∈ E, e.2 < n)
include hE
omit hE in
theorem dom_root {d : Nat} : domOf n E r d r = (d == r) := by
  unfold domOf
  have h1 : ∀ F, come n F r r = true := fun F => by unfold come; simp
  rw [h1, h1]
  by_cases h : d = r
  · subst h; simp [h1]
  · have h2 : (d == r) = false := by simpa using h
    have h3 : (r == d) = false := by simpa using fun h4 => h h4.symm
    rw [h2, h3]; simp
/-- who dominates a node and is another dominates all that lead to it -/
theorem dom_pred {d i k : Nat} (h : domOf n E r d i = true) (hi : i ≠ r) (hne : d ≠ i) (he : (k, i) ∈ E) (hk : come n E r k = true) : domOf n E r d k = true := by
  unfold domOf at *
  simp only [Bool.and_eq_true, Bool.or_eq_true, Bool.not_eq_true', beq_iff_eq] at *
  obtain ⟨⟨h1, h2⟩, h3⟩ := h
  refine ⟨⟨h1, hk⟩, ?_⟩
  rcases h3 with (h3 | h3) | h3
  · exact .inl (.inl h3)
  · exact absurd h3.symm hne
  · right
    cases hc : come n (less E d) r k with
    | false => rfl
    | true =>
      have := come_next (less_lt hE d) hc (mem_less.2 ⟨he, fun h4 => hne h4.symm⟩)
      rw [this] at h3; cases h3
omit hE in
theorem DomInv.start {S : Nat → Nat → Bool} (h1 : ∀ d, S r d = (d == r)) (h2 : ∀ i d, i ≠ r → S i d = come n E r d) : DomInv n E r S := by
  have hr : come n E r r = true := by unfold come; simp
  refine ⟨h1, fun i d hi hS => ?_, fun i d hi hd => ?_, fun i d hi hne ha => ?_, fun i hi => ?_⟩
  · by_cases e : i = r
    · subst e; rw [h1] at hS; simp at hS; subst hS; exact hr
    · rwa [h2 i d e] at hS
  · by_cases e : i = r
    · subst e; rw [dom_root] at hd; rw [h1]; exact hd
    · rw [h2 i d e]
      unfold domOf at hd
      simp only [Bool.and_eq_true] at hd
      exact hd.1.1
  · rw [h2 i d hne]
    unfold aboveS at ha
    simp only [Bool.and_eq_true] at ha
    exact ha.1
  · by_cases e : i = r
    · subst e; rw [h1]; simp
    · rw [h2 i i e]; exact hi
omit hE in
theorem above_mono {S S' : Nat → Nat → Bool} (h : ∀ i d, S' i d = true → S i d = true) {i d : Nat} (ha : aboveS n E r S' i d = true) : aboveS n E r S i d = true := by
  unfold aboveS at *
  simp only [Bool.and_eq_true, Bool.or_eq_true, List.all_eq_true, Bool.not_eq_true', beq_iff_eq] at *
  refine ⟨ha.1, ?_⟩
  rcases ha.2 with h2 | h2
  · exact .inl h2
  · exact .inr fun k hk => (h2 k hk).imp id (h k d)
/-- one node's set is put anew -/
theorem DomInv.next {S S' : Nat → Nat → Bool} (v : DomInv n E r S) {i : Nat} (hi : come n E r i = true) (hne : i ≠ r) (h1 : ∀ d, S' i d = aboveS n E r S i d) (h2 : ∀ j d, j ≠ i → S' j d = S j d) : DomInv n E r S' := by
  have hle : ∀ j d, S' j d = true → S j d = true := fun j d h => by
    by_cases e : j = i
    · subst e; rw [h1] at h; exact v.down j d hi hne h
    · rwa [h2 j d e] at h
  refine ⟨fun d => ?_, fun j d hj hS => v.some j d hj (hle j d hS), fun j d hj hd => ?_, fun j d hj hnr ha => ?_, fun j hj => ?_⟩
  · rw [h2 r d hne.symm]; exact v.root d
  · by_cases e : j = i
    · subst e
      rw [h1]
      have hcd : come n E r d = true := by unfold domOf at hd; simp only [Bool.and_eq_true] at hd; exact hd.1.1
      unfold aboveS
      simp only [Bool.and_eq_true, Bool.or_eq_true, List.all_eq_true, Bool.not_eq_true', beq_iff_eq]
      refine ⟨hcd, ?_⟩
      by_cases e2 : d = j
      · exact .inl e2
      · right
        intro k hk
        cases hck : come n E r k with
        | false => exact .inl rfl
        | true => exact .inr (v.dom k d hck (dom_pred hE hd hne e2 (mem_ins.1 hk) hck))
    · rw [h2 j d e]; exact v.dom j d hj hd
  · have ha2 := above_mono hle ha
    by_cases e : j = i
    · subst e; rw [h1]; exact ha2
    · rw [h2 j d e]; exact v.down j d hj hnr ha2
  · by_cases e : j = i
    · subst e
      rw [h1]
      unfold aboveS
      simp [hj]
    · rw [h2 j j e]; exact v.self j hj
/-- where nothing turns any more they are the dominators -/
theorem DomInv.done {S : Nat → Nat → Bool} (v : DomInv n E r S) (hfix : ∀ i d, come n E r i = true → i ≠ r → S i d = true → aboveS n E r S i d = true) (i d : Nat) (hi : come n E r i = true) : S i d = domOf n E r d i := by
  rw [Bool.eq_iff_iff]
  refine ⟨fun hS => ?_, v.dom i d hi⟩
  have hcd := v.some i d hi hS
  unfold domOf
  rw [hcd, hi]
  simp only [Bool.true_and, Bool.or_eq_true, Bool.not_eq_true', beq_iff_eq]
  by_cases e1 : d = r
  · exact .inl (.inl e1)
  by_cases e2 : i = d
  · exact .inl (.inr e2)
  right
  cases hc : come n (less E d) r i with
  | false => rfl
  | true =>
    exfalso
    have base : S r d = false := by rw [v.root]; simpa using e1
    rw [come_iff (less_lt hE d)] at hc
    rcases hc with rfl | hw
    · rw [hS] at base; cases base
    · have key : ∀ x, Way (less E d) r x → S x d = false := fun x hx => by
        have stp : ∀ y x, come n E r y = true → S y d = false → (y, x) ∈ less E d → S x d = false := fun y x hy hSy he => by
          cases hSx : S x d with
          | false => rfl
          | true =>
            exfalso
            have hx' := mem_less.1 he
            have hcx := come_next hE hy hx'.1
            have hxr : x ≠ r := fun h => by subst h; rw [hSx] at base; cases base
            have ha := hfix x d hcx hxr hSx
            unfold aboveS at ha
            simp only [Bool.and_eq_true, Bool.or_eq_true, List.all_eq_true, Bool.not_eq_true', beq_iff_eq] at ha
            rcases ha.2 with h2 | h2
            · exact hx'.2 h2.symm
            · rcases h2 y (mem_ins.2 hx'.1) with h3 | h3
              · rw [hy] at h3; cases h3
              · rw [hSy] at h3; cases h3
        have both : ∀ x, Way (less E d) r x → come n E r x = true ∧ S x d = false := fun x hx => by
          have hr : come n E r r = true := by unfold come; simp
          induction hx with
          | one he => exact ⟨come_next hE hr (mem_less.1 he).1, stp _ _ hr base he⟩
          | more _ he ih => exact ⟨come_next hE ih.1 (mem_less.1 he).1, stp _ _ ih.1 ih.2 he⟩
        exact (both x hx).2
      rw [key i hw] at hS; cases hS
/-- who dominates a dominator dominates -/
theorem dom_trans {i k j : Nat} (h1 : domOf n E r k i = true) (h2 : domOf n E r j k = true) : domOf n E r j i = true := by
  have h1' := h1
  have h2' := h2
  unfold domOf at h1 h2
  simp only [Bool.and_eq_true, Bool.or_eq_true, Bool.not_eq_true', beq_iff_eq] at h1 h2
  obtain ⟨⟨ck, ci⟩, d1⟩ := h1
  obtain ⟨⟨cj, _⟩, d2⟩ := h2
  by_cases e1 : j = r
  · unfold domOf; rw [cj, ci]; simp [e1]
  by_cases e2 : i = j
  · unfold domOf; rw [cj, ci]; simp [e2]
  by_cases e3 : i = k
  · subst e3; exact h2'
  by_cases e4 : k = j
  · subst e4; exact h1'
  by_cases e5 : k = r
  · subst e5
    rw [dom_root] at h2'
    simp at h2'
    exact absurd h2' e1
  unfold domOf
  rw [cj, ci]
  simp only [Bool.true_and, Bool.or_eq_true, Bool.not_eq_true', beq_iff_eq]
  right
  have d1' : come n (less E k) r i = false := by
    rcases d1 with (d1 | d1) | d1
    · exact absurd d1 e5
    · exact absurd d1 e3
    · exact d1
  have d2' : come n (less E j) r k = false := by
    rcases d2 with (d2 | d2) | d2
    · exact absurd d2 e1
    · exact absurd d2 e4
    · exact d2
  cases hc : come n (less E j) r i with
  | false => rfl
  | true =>
    exfalso
    rw [come_iff (less_lt hE j)] at hc
    have hir : i ≠ r := fun h => by subst h; unfold come at d1'; simp at d1'
    rcases hc with h | hw
    · exact hir h
    · have key : ∀ x, Way (less E j) r x → x = k ∨ Way (less E k) r x ∨ Way (less E j) r k := fun x hx => by
        induction hx with
        | one he =>
          rename_i b
          by_cases h : b = k
          · exact .inl h
          · exact .inr (.inl (.one (mem_less.2 ⟨(mem_less.1 he).1, h⟩)))
        | more hw' he ih =>
          rename_i b c
          by_cases h : c = k
          · exact .inl h
          · rcases ih with h3 | h3 | h3
            · exact .inr (.inr (h3 ▸ hw'))
            · exact .inr (.inl (.more h3 (mem_less.2 ⟨(mem_less.1 he).1, h⟩)))
            · exact .inr (.inr h3)
      have no2 : ¬ Way (less E j) r k := fun h => by
        have := (come_iff (n := n) (less_lt hE j) (r := r) (x := k)).2 (.inr h)
        rw [d2'] at this; cases this
      rcases key i hw with h3 | h3 | h3
      · exact e3 h3
      · have := (come_iff (n := n) (less_lt hE k) (r := r) (x := i)).2 (.inr h3)
        rw [d1'] at this; cases this
      · exact no2 h3
omit hE in
theorem dom_self {i : Nat} : domOf n E r i i = come n E r i := by unfold domOf; simp
omit hE in
theorem dom_by_root {i : Nat} : domOf n E r r i = come n E r i := by
  unfold domOf
  have : come n E r r = true := by unfold come; simp
  rw [this]; simp
end
end Go.Proofs.YtlfefikhmdbbfaaGreat
