/- No program: what the laws of the region want of a small model. -/
import Derived.Test.YtedajbpjokmlaaaAwake15
import Derived.Test.YtedajbpjokmlaaaSmall3
import Derived.Test.YtedajbpjokmlaaaNOrder
namespace Go.Proofs.Ytedajbpjokmlaaa
open Go Go.RowKit
set_option linter.unusedVariables false

theorem edgesFrom_len : ∀ (g : List GN) (i : Nat), (∀ x ∈ g, x.next.length ≤ 40) → (edgesFrom i g).length ≤ 41 * g.length
  | [], _, _ => by simp [edgesFrom]
  | x :: g, i, h => by
    have h1 := edgesFrom_len g (i + 1) fun y hy => h y (List.mem_cons_of_mem _ hy)
    have h2 := h x (List.mem_cons_self ..)
    show (nodeE i x ++ edgesFrom (i + 1) g).length ≤ _
    unfold nodeE
    rw [List.length_append, List.length_append, nextE_len, List.length_cons]
    split
    · simp only [List.length_singleton]; omega
    · simp only [List.length_nil]; omega
def gOf (m : ModelT) : List GN := m.nodes.map gnOf
theorem small_g {m : ModelT} (h : SmallM m) : (gOf m).length ≤ 100 ∧ (edgesOf (gOf m)).length ≤ 4100 := by
  have h1 : (gOf m).length ≤ 100 := by unfold gOf; rw [List.length_map]; exact h.nodes
  have h2 := edgesFrom_len (gOf m) 0 fun x hx => by
    unfold gOf at hx
    obtain ⟨y, hy, rfl⟩ := List.mem_map.1 hx
    obtain ⟨i, hi⟩ := List.mem_iff_getElem?.1 hy
    exact (h.next i y hi).1
  refine ⟨h1, ?_⟩
  unfold edgesOf
  omega
theorem ModelAt.next {w w' : World} {cs : List Value} {m : ModelT} (h : ModelAt w w.heap.size cs m) (hb : Below w.heap.size w w') : ModelAt w' w'.heap.size cs m := (h.under hb).more hb.size

/-! places in an order -/
def atK (n : Nat) (D : List Nat) (j : Nat) : List Int := (List.range j).foldl (fun o k => o.set (D.getD k 0) (k : Int)) (List.replicate n 0)
theorem atK_zero (n : Nat) (D : List Nat) : atK n D 0 = List.replicate n 0 := rfl
theorem atK_succ (n : Nat) (D : List Nat) (j : Nat) : atK n D (j + 1) = (atK n D j).set (D.getD j 0) (j : Int) := by
  unfold atK; rw [List.range_succ, List.foldl_append]; rfl
theorem atK_len (n : Nat) (D : List Nat) : ∀ j, (atK n D j).length = n
  | 0 => by simp [atK]
  | j + 1 => by rw [atK_succ, List.length_set]; exact atK_len n D j
theorem atK_at {n : Nat} {D : List Nat} (hn : D.Nodup) (hl : ∀ i ∈ D, i < n) : ∀ (j : Nat), j ≤ D.length → ∀ (k i : Nat), k < j → D[k]? = some i → (atK n D j).getD i 0 = k
  | 0, _, k, i, hk, _ => by omega
  | j + 1, hj, k, i, hk, hi => by
    obtain ⟨x, hx⟩ : ∃ x, D[j]? = some x := ⟨_, List.getElem?_eq_getElem (by omega)⟩
    have hxd : D.getD j 0 = x := by rw [List.getD_eq_getElem?_getD, hx]; rfl
    rw [atK_succ, hxd, getD_set (by rw [atK_len]; exact hl x (List.mem_of_getElem? hx))]
    by_cases e : k = j
    · subst e
      rw [hi] at hx
      injection hx with hx
      rw [if_pos hx]
    · rw [if_neg fun h => by
        subst h
        exact e (nodup_at hn hi hx)]
      exact atK_at hn hl j (by omega) k i (by omega) hi
/-- along each edge the places rise -/
theorem at_rises {n : Nat} {E : List (Nat × Nat)} {D : List Nat} (t : Topo n E D) (hl : D.length = n) (hE : ∀ e ∈ E, e.2 < n) {i k : Nat} (he : (i, k) ∈ E) : (atK n D n).getD i 0 < (atK n D n).getD k 0 := by
  obtain ⟨j, hj⟩ := List.mem_iff_getElem?.1 (t.all hl (hE _ he))
  obtain ⟨p, hp, hpi⟩ := t.pred j k hj _ he rfl
  have hjl := (List.getElem?_eq_some_iff.1 hj).1
  rw [atK_at t.nodup t.lt n (by omega) j k (by omega) hj, atK_at t.nodup t.lt n (by omega) p i (by omega) hpi]
  omega
/-- the sum over the edges that have been gone through -/
def sumK (W : List Int) (n : Nat) (E : List EdgeT) (i j : Nat) : Int := wFold W (outs (inE n (E.take j)) i)
theorem sumK_succ {W : List Int} {n : Nat} {E : List EdgeT} {i j : Nat} {e : EdgeT} (h : E[j]? = some e) : sumK W n E i (j + 1) = if okE n e = true ∧ e.1 = i then min (sumK W n E i j + W.getD e.2.2.toNat 0) 1000000000 else sumK W n E i j := by
  unfold sumK
  rw [take_at h, inE_snoc]
  by_cases h1 : okE n e = true
  · rw [if_pos h1, outs_snoc]
    by_cases h2 : e.1 = i
    · rw [if_pos h2, if_pos ⟨h1, h2⟩, wFold_snoc]
    · rw [if_neg h2, if_neg (fun h => h2 h.2)]
  · rw [if_neg h1, if_neg (fun h => h1 h.1)]
theorem sumK_range {W : List Int} (h : inW W) (n : Nat) (E : List EdgeT) (i j : Nat) : 1 ≤ sumK W n E i j ∧ sumK W n E i j ≤ 1000000000 := wFold_range h _
end Go.Proofs.Ytedajbpjokmlaaa
