/- No program: a model without the edges to one node. -/
import Derived.Test.YtedajbpjokmlaaaModel
import Derived.Test.YtedajbpjokmlaaaGraph3
namespace Go.Proofs.Ytedajbpjokmlaaa
set_option linter.unusedVariables false

/-- where a node's edges lead -/
def tos (x : GN) : List Int := x.next ++ if 0 ≤ x.catch_ then [x.catch_] else []
def lessN (d : Nat) (x : GN) : List Int := (tos x).filter fun t => !(t == (d : Int))
def lessG (g : List GN) (d : Nat) : List GN := g.map fun x => ⟨lessN d x, -1, 0⟩
def toE (n i : Nat) (t : Int) : Option (Nat × Nat) := if 0 ≤ t ∧ t < n then some (i, t.toNat) else none
theorem inE_nil (n : Nat) : inE n [] = [] := rfl
theorem inE_cons (n : Nat) (e : EdgeT) (l : List EdgeT) : inE n (e :: l) = (toE n e.1 e.2.2).toList ++ inE n l := by
  unfold inE toE
  by_cases h : okE n e = true
  · rw [List.filter_cons_of_pos h, if_pos (okE_iff.1 h)]; rfl
  · rw [List.filter_cons_of_neg h, if_neg fun h2 => h (okE_iff.2 h2)]; rfl
theorem inE_append (n : Nat) (a b : List EdgeT) : inE n (a ++ b) = inE n a ++ inE n b := by
  unfold inE; rw [List.filter_append, List.map_append]
theorem fm_cons {α β : Type} (f : α → Option β) (x : α) (l : List α) : (x :: l).filterMap f = (f x).toList ++ l.filterMap f := by
  rw [List.filterMap_cons]
  cases f x <;> rfl
theorem inE_nextE (n i : Nat) : ∀ (l : List Int) (p : Nat), inE n (nextE i p l) = l.filterMap (toE n i)
  | [], _ => rfl
  | t :: l, p => by
    show inE n ((i, p, t) :: nextE i (p + 1) l) = _
    rw [inE_cons, fm_cons, inE_nextE n i l (p + 1)]
theorem inE_nodeE (n i : Nat) (x : GN) : inE n (nodeE i x) = (tos x).filterMap (toE n i) := by
  unfold nodeE tos
  rw [inE_append, List.filterMap_append, inE_nextE]
  congr 1
  split
  · rw [inE_cons, fm_cons]; rfl
  · rfl
theorem less_append (a b : List (Nat × Nat)) (d : Nat) : less (a ++ b) d = less a d ++ less b d := by
  unfold less; rw [List.filter_append]
theorem less_fm (n i d : Nat) : ∀ l : List Int, (l.filter fun t => !(t == (d : Int))).filterMap (toE n i) = less (l.filterMap (toE n i)) d
  | [] => rfl
  | t :: l => by
    rw [fm_cons, less_append, ← less_fm n i d l]
    by_cases h : t = (d : Int)
    · rw [List.filter_cons_of_neg (by simp [h])]
      have : less (toE n i t).toList d = [] := by
        subst h
        unfold toE less
        split
        · simp
        · rfl
      rw [this]
      rfl
    · rw [List.filter_cons_of_pos (by simpa using h), fm_cons]
      congr 1
      unfold toE less
      split
      · rename_i h2
        have h3 : (t.toNat == d) = false := by rw [beq_eq_false_iff_ne]; omega
        simp [h3]
      · rfl
theorem less_from (n d : Nat) : ∀ (g : List GN) (i : Nat), inE n (edgesFrom i (lessG g d)) = less (inE n (edgesFrom i g)) d
  | [], _ => rfl
  | x :: g, i => by
    show inE n (nodeE i ⟨lessN d x, -1, 0⟩ ++ edgesFrom (i + 1) (lessG g d)) = less (inE n (nodeE i x ++ edgesFrom (i + 1) g)) d
    rw [inE_append, inE_append, less_append, less_from n d g (i + 1), inE_nodeE, inE_nodeE]
    congr 1
    have : tos ⟨lessN d x, -1, 0⟩ = lessN d x := by
      unfold tos
      rw [if_neg (by simp), List.append_nil]
    rw [this]
    exact less_fm n i d _
theorem lessG_len (g : List GN) (d : Nat) : (lessG g d).length = g.length := by unfold lessG; rw [List.length_map]
theorem lessG_graph (g : List GN) (d : Nat) : graphE (lessG g d) = less (graphE g) d := by
  unfold graphE edgesOf
  rw [lessG_len]
  exact less_from _ d g 0
theorem tos_len (x : GN) : (tos x).length ≤ x.next.length + 1 := by
  unfold tos
  rw [List.length_append]
  split <;> simp
theorem nodeE_len (i : Nat) (x : GN) : (nodeE i x).length = (tos x).length := by
  unfold nodeE tos
  rw [List.length_append, List.length_append, nextE_len]
  congr 1
  split <;> rfl
theorem lessE_len (d : Nat) : ∀ (g : List GN) (i : Nat), (edgesFrom i (lessG g d)).length ≤ (edgesFrom i g).length
  | [], _ => Nat.le_refl _
  | x :: g, i => by
    show (nodeE i ⟨lessN d x, -1, 0⟩ ++ edgesFrom (i + 1) (lessG g d)).length ≤ (nodeE i x ++ edgesFrom (i + 1) g).length
    rw [List.length_append, List.length_append, nodeE_len, nodeE_len]
    have h1 : (tos ⟨lessN d x, -1, 0⟩).length ≤ (tos x).length := by
      have : tos ⟨lessN d x, -1, 0⟩ = lessN d x := by
        unfold tos
        rw [if_neg (by simp), List.append_nil]
      rw [this]
      exact List.length_filter_le _ _
    have := lessE_len d g (i + 1)
    omega
/-- the next list as it grows -/
theorem less_take {l : List Int} {k : Nat} {t : Int} (h : l[k]? = some t) (d : Nat) : (l.take (k + 1)).filter (fun t => !(t == (d : Int))) = (l.take k).filter (fun t => !(t == (d : Int))) ++ if t = (d : Int) then [] else [t] := by
  obtain ⟨h1, h2⟩ := List.getElem?_eq_some_iff.1 h
  rw [List.take_add_one, h, List.filter_append]
  congr 1
  by_cases e : t = (d : Int)
  · rw [if_pos e]; simp [e]
  · rw [if_neg e]; simp [e]
theorem lessN_end (d : Nat) (x : GN) : lessN d x = x.next.filter (fun t => !(t == (d : Int))) ++ if 0 ≤ x.catch_ ∧ x.catch_ ≠ d then [x.catch_] else [] := by
  unfold lessN tos
  rw [List.filter_append]
  congr 1
  by_cases h : 0 ≤ x.catch_
  · rw [if_pos h]
    by_cases e : x.catch_ = (d : Int)
    · rw [if_neg (fun h => h.2 e)]; simp [e]
    · rw [if_pos ⟨h, e⟩]; simp [e]
  · rw [if_neg h, if_neg (fun h2 => h h2.1)]; rfl
end Go.Proofs.Ytedajbpjokmlaaa
