/- No program: weights fall along edges; none dominates one that leads to it; a node that nothing leads out of. -/
import Derived.Test.YtedajbpjokmlaaaLaw15
namespace Go.Proofs.Ytedajbpjokmlaaa
open Go Go.RowKit
set_option linter.unusedVariables false

theorem wFold_ge {W : List Int} (h : inW W) {t : Nat} {l : List Nat} (ht : t ∈ l) : min (W.getD t 0 + 1) 1000000000 ≤ wFold W l := by
  have key : ∀ (l : List Nat) (a : Int), 1 ≤ a → a ≤ 1000000000 → a ≤ l.foldl (fun a k => min (a + W.getD k 0) 1000000000) a ∧ (t ∈ l → min (W.getD t 0 + 1) 1000000000 ≤ l.foldl (fun a k => min (a + W.getD k 0) 1000000000) a) := by
    intro l
    induction l with
    | nil => intro a _ _; exact ⟨Int.le_refl _, fun h => by cases h⟩
    | cons k l ih =>
      intro a h1 h2
      have hk := inW_at h k
      obtain ⟨h3, h4⟩ := ih (min (a + W.getD k 0) 1000000000) (by omega) (by omega)
      rw [List.foldl_cons]
      refine ⟨by omega, fun hm => ?_⟩
      rcases List.mem_cons.1 hm with e | hm
      · subst e; omega
      · exact h4 hm
  exact (key l 1 (by omega) (by omega)).2 ht
theorem way_less {E : List (Nat × Nat)} {d r x : Nat} (h : Way E r x) : Way (less E d) r x ∨ x = d ∨ Way E d x := by
  induction h with
  | one he =>
    rename_i b
    by_cases e : b = d
    · exact .inr (.inl e)
    · exact .inl (.one (mem_less.2 ⟨he, e⟩))
  | more hw' he ih =>
    rename_i b c
    by_cases e : c = d
    · exact .inr (.inl e)
    · rcases ih with h1 | h1 | h1
      · exact .inl (.more h1 (mem_less.2 ⟨he, e⟩))
      · exact .inr (.inr (.one (h1 ▸ he)))
      · exact .inr (.inr (.more h1 he))
theorem dom_no_back {n : Nat} {E : List (Nat × Nat)} {r i t : Nat} (hE : ∀ e ∈ E, e.2 < n) (hac : ∀ x, x < n → ¬ Way E x x) (he : (i, t) ∈ E) : domOf n E r t i = false := by
  have htn := hE _ he
  cases hd : domOf n E r t i with
  | false => rfl
  | true =>
    exfalso
    unfold domOf at hd
    simp only [Bool.and_eq_true, Bool.or_eq_true, Bool.not_eq_true', beq_iff_eq] at hd
    obtain ⟨⟨ct, ci⟩, h3⟩ := hd
    rcases h3 with (h3 | h3) | h3
    · subst h3
      rw [come_iff hE] at ci
      rcases ci with h | h
      · subst h; exact hac _ htn (.one he)
      · exact hac _ htn (.more h he)
    · subst h3; exact hac _ htn (.one he)
    · rw [come_iff hE] at ci
      rcases ci with h | h
      · subst h
        unfold come at h3
        simp at h3
      · rcases way_less (d := t) h with h1 | h1 | h1
        · have := (come_iff (n := n) (less_lt hE t) (r := r) (x := i)).2 (.inr h1)
          rw [this] at h3; cases h3
        · subst h1; exact hac _ htn (.one he)
        · exact hac _ htn (.more h1 he)
theorem edges_at {e : EdgeT} : ∀ (g : List GN) (k : Nat), e ∈ edgesFrom k g → ∃ (j : Nat) (x : GN), g[j]? = some x ∧ e ∈ nodeE (k + j) x
  | [], _, h => by cases h
  | x :: g, k, h => by
    rcases List.mem_append.1 h with h | h
    · exact ⟨0, x, rfl, h⟩
    · obtain ⟨j, y, h1, h2⟩ := edges_at g (k + 1) h
      exact ⟨j + 1, y, h1, by rw [show k + (j + 1) = k + 1 + j by omega]; exact h2⟩
theorem nodeE_from {i : Nat} {x : GN} {e : EdgeT} (h : e ∈ nodeE i x) : e.1 = i := by
  unfold nodeE at h
  rcases List.mem_append.1 h with h | h
  · have : ∀ (l : List Int) (p : Nat), e ∈ nextE i p l → e.1 = i := by
      intro l
      induction l with
      | nil => intro p h; cases h
      | cons a l ih =>
        intro p h
        rcases List.mem_cons.1 h with rfl | h
        · rfl
        · exact ih _ h
    exact this _ _ h
  · split at h
    · rw [List.mem_singleton.1 h]
    · cases h
theorem outs_leaf {g : List GN} {i : Nat} {x : GN} (hx : g[i]? = some x) (h1 : x.next = []) (h2 : x.catch_ < 0) : outs (graphE g) i = [] := by
  refine List.eq_nil_iff_forall_not_mem.2 fun k hk => ?_
  have hm := mem_outs.1 hk
  unfold graphE inE at hm
  obtain ⟨e, he, hek⟩ := List.mem_map.1 hm
  obtain ⟨j, y, h3, h4⟩ := edges_at g 0 (List.mem_filter.1 he).1
  have h5 := nodeE_from h4
  have h6 : e.1 = i := by injection hek
  have : j = i := by omega
  subst this
  rw [hx] at h3
  injection h3 with h3
  subst h3
  unfold nodeE at h4
  rw [h1, if_neg (by omega)] at h4
  cases h4
/-- a model without loops has no way back -/
theorem ok_acyclic {g : List GN} (h : okOf g = true) : ∀ x, x < g.length → ¬ Way (graphE g) x x := fun x hx => by
  have hl : (orderOf g.length (graphE g)).length = g.length := by unfold okOf at h; simpa using h
  have t := order_topo (n := g.length) (E := graphE g) g.length (Topo.nil _ _)
  exact t.acyclic (t.all hl hx)
theorem doms_no_back {g : List GN} (h : okOf g = true) {a : Int} {i t : Nat} (he : (i, t) ∈ graphE g) {p : Nat} {y : Int} (hy : (domsOf g a i)[p]? = some y) : y ≠ t := by
  unfold domsOf at hy
  split at hy
  · unfold domL at hy
    obtain ⟨k, hk, _, hd⟩ := listN_at hy
    intro e
    have : k = t := by omega
    subst this
    have h2 : domOf g.length (graphE g) a.toNat k i = true := hd
    rw [dom_no_back (fun e he => (graphE_lt e he).2) (ok_acyclic h) he] at h2
    cases h2
  · simp at hy
theorem doms_len (g : List GN) (a : Int) (i : Nat) : (domsOf g a i).length ≤ g.length := by
  unfold domsOf domL
  split
  · exact listN_len _ _
  · simp
end Go.Proofs.Ytedajbpjokmlaaa
