/- No program: the plain law of ModelCounts: ways out and edges, each edge's place, what leads into nodes. -/
import Derived.Test.YtedajbpjokmlaaaOut
namespace Go.Proofs.Ytedajbpjokmlaaa
open Go Go.RowKit
set_option linter.unusedVariables false

theorem nodeE_len (i : Nat) (x : GN) : (nodeE i x).length = x.next.length + if 0 ≤ x.catch_ then 1 else 0 := by
  unfold nodeE
  rw [List.length_append, nextE_len]
  split <;> rfl
theorem take_len {g : List GN} {i : Nat} {x : GN} (h : g[i]? = some x) : (edgesOf (g.take (i + 1))).length = (edgesOf (g.take i)).length + (x.next.length + if 0 ≤ x.catch_ then 1 else 0) := by
  rw [edges_take h, List.length_append, nodeE_len]
/-- edges stand in the order of their ways out -/
def Lex (a b : EdgeT) : Prop := a.1 < b.1 ∨ a.1 = b.1 ∧ a.2.1 < b.2.1
theorem nextE_mem (i : Nat) : ∀ (l : List Int) (p : Nat) (e : EdgeT), e ∈ nextE i p l → e.1 = i ∧ p ≤ e.2.1 ∧ e.2.1 < p + l.length
  | [], p, e, h => by cases h
  | t :: l, p, e, h => by
    rcases List.mem_cons.1 h with rfl | h
    · exact ⟨rfl, Nat.le_refl _, by simp⟩
    · obtain ⟨h1, h2, h3⟩ := nextE_mem i l (p + 1) e h
      exact ⟨h1, by omega, by rw [List.length_cons]; omega⟩
theorem nextE_lex (i : Nat) : ∀ (l : List Int) (p : Nat), (nextE i p l).Pairwise Lex
  | [], p => List.Pairwise.nil
  | t :: l, p => List.Pairwise.cons (fun e he => by
      obtain ⟨h1, h2, _⟩ := nextE_mem i l (p + 1) e he
      exact .inr ⟨h1.symm, h2⟩) (nextE_lex i l (p + 1))
theorem nodeE_mem (i : Nat) (x : GN) (e : EdgeT) (h : e ∈ nodeE i x) : e.1 = i := by
  unfold nodeE at h
  rcases List.mem_append.1 h with h | h
  · exact (nextE_mem i _ _ _ h).1
  · split at h
    · rw [List.mem_singleton.1 h]
    · cases h
theorem nodeE_lex (i : Nat) (x : GN) : (nodeE i x).Pairwise Lex := by
  unfold nodeE
  rw [List.pairwise_append]
  refine ⟨nextE_lex i _ _, ?_, fun a ha b hb => ?_⟩
  · split
    · exact List.pairwise_singleton _ _
    · exact List.Pairwise.nil
  · obtain ⟨h1, _, h3⟩ := nextE_mem i _ _ _ ha
    split at hb
    · rw [List.mem_singleton.1 hb]
      exact .inr ⟨h1, by simpa using h3⟩
    · cases hb
theorem edgesFrom_ge : ∀ (g : List GN) (i : Nat) (e : EdgeT), e ∈ edgesFrom i g → i ≤ e.1
  | [], i, e, h => by cases h
  | x :: g, i, e, h => by
    rcases List.mem_append.1 h with h | h
    · exact Nat.le_of_eq (nodeE_mem i x e h).symm
    · exact Nat.le_of_lt (edgesFrom_ge g (i + 1) e h)
theorem edgesFrom_lex : ∀ (g : List GN) (i : Nat), (edgesFrom i g).Pairwise Lex
  | [], i => List.Pairwise.nil
  | x :: g, i => by
    show (nodeE i x ++ edgesFrom (i + 1) g).Pairwise Lex
    rw [List.pairwise_append]
    exact ⟨nodeE_lex i x, edgesFrom_lex g (i + 1), fun a ha b hb => .inl (by
      have h1 := nodeE_mem i x a ha
      have h2 := edgesFrom_ge g (i + 1) b hb
      omega)⟩
theorem out_self {g : List GN} {j : Nat} {e : EdgeT} (h : (edgesOf g)[j]? = some e) : outK (edgesOf g) e.1 e.2.1 = j := by
  refine out_yes h (by unfold outP; simp) fun k hk e' he' => ?_
  have hp := List.pairwise_iff_getElem.1 (edgesFrom_lex g 0)
  obtain ⟨h1, h2⟩ := List.getElem?_eq_some_iff.1 h
  obtain ⟨h3, h4⟩ := List.getElem?_eq_some_iff.1 he'
  have this : Lex (edgesOf g)[k] (edgesOf g)[j] := hp k j h3 h1 hk
  rw [h4, h2] at this
  unfold outP
  rcases this with h | ⟨h, h5⟩
  · have : ((e'.1 : Int) == (e.1 : Int)) = false := by rw [beq_eq_false_iff_ne]; omega
    rw [this]; rfl
  · have : ((e'.2.1 : Int) == (e.2.1 : Int)) = false := by rw [beq_eq_false_iff_ne]; omega
    rw [this, Bool.and_false]
/-- edges among the first j that lead into a node -/
def inK (n : Nat) (E : List EdgeT) (j : Nat) : Nat := ((E.take j).filter (okE n)).length
theorem inK_succ {n j : Nat} {E : List EdgeT} {e : EdgeT} (h : E[j]? = some e) : inK n E (j + 1) = inK n E j + if okE n e = true then 1 else 0 := by
  unfold inK
  rw [filter_take h, List.length_append]
  split <;> rfl
theorem inK_le (n : Nat) (E : List EdgeT) (j : Nat) : inK n E j ≤ E.length := by
  unfold inK
  exact Nat.le_trans (List.length_filter_le ..) (List.length_take_le' ..)
def sumInto (E : List EdgeT) (k : Nat) : Nat := (E.filter (okE k)).length
theorem intoK_count (E : List EdgeT) (a : Int) : ∀ k, (intoK E a k).length = ((E.take k).filter fun e => e.2.2 == a).length
  | 0 => rfl
  | k + 1 => by
    rcases h : E[k]? with _ | e
    · have h1 : intoK E a (k + 1) = intoK E a k := by
        show intoK E a k ++ (if (E.map fun e => e.2.2)[k]? = some a then [(k : Int)] else []) = _
        rw [List.getElem?_map, h]
        simp
      have h2 := List.getElem?_eq_none_iff.1 h
      rw [h1, intoK_count E a k, List.take_of_length_le h2, List.take_of_length_le (by omega)]
    · rw [filter_take h, List.length_append, ← intoK_count E a k]
      by_cases hc : e.2.2 = a
      · rw [intoK_yes h hc, if_pos (by simpa using hc), List.length_append]; rfl
      · rw [intoK_no h hc, if_neg (by simpa using hc)]; rfl
theorem sum_split (k : Nat) : ∀ E : List EdgeT, (E.filter (okE (k + 1))).length = (E.filter (okE k)).length + (E.filter fun e => e.2.2 == (k : Int)).length
  | [] => rfl
  | e :: E => by
    have ih := sum_split k E
    rw [List.filter_cons, List.filter_cons, List.filter_cons]
    by_cases h1 : e.2.2 = (k : Int)
    · have a1 : okE (k + 1) e = true := okE_iff.2 (by omega)
      have a2 : okE k e ≠ true := fun h => by have := okE_iff.1 h; omega
      have a3 : (e.2.2 == (k : Int)) = true := by simpa using h1
      rw [if_pos a1, if_neg a2, if_pos a3, List.length_cons, List.length_cons, ih]; omega
    · have a3 : ¬ (e.2.2 == (k : Int)) = true := by simpa using h1
      rw [if_neg a3]
      by_cases h2 : okE k e = true
      · have := okE_iff.1 h2
        rw [if_pos (okE_iff.2 (by omega)), if_pos h2, List.length_cons, List.length_cons, ih]; omega
      · rw [if_neg h2, if_neg (fun h => h2 (okE_iff.2 (by have := okE_iff.1 h; omega))), ih]
theorem sumInto_succ (g : List GN) (k : Nat) : sumInto (edgesOf g) (k + 1) = sumInto (edgesOf g) k + (intoL g k).length := by
  unfold sumInto intoL
  rw [intoK_count, List.take_of_length_le (Nat.le_refl _)]
  exact sum_split k _
theorem sumInto_zero (E : List EdgeT) : sumInto E 0 = 0 := by
  unfold sumInto
  rw [List.length_eq_zero_iff, List.filter_eq_nil_iff]
  intro e _ h
  have := okE_iff.1 h
  omega
theorem sumInto_le (E : List EdgeT) (k : Nat) : sumInto E k ≤ E.length := List.length_filter_le ..
theorem sumInto_end (E : List EdgeT) (n : Nat) : sumInto E n = inK n E E.length := by
  unfold sumInto inK
  rw [List.take_of_length_le (Nat.le_refl _)]
end Go.Proofs.Ytedajbpjokmlaaa
