/- No walk: a model of edges alone, as a graph. -/
import Derived.Test.YtlfefikhmdbbfaaGreatOwn2
namespace Go.Proofs.YtlfefikhmdbbfaaGreat
open Go Go.RowKit
set_option linter.unusedVariables false

theorem plain_graph {w : World} {v : Value} {L : List (List Int × Int)} (h : PlainAt w v L) (hw : ∀ x ∈ L, wfI x.2 ∧ ∀ t ∈ x.1, wfI t) : GraphAt w w.heap.size v (L.map fun x => ⟨x.1, x.2, 0⟩) := by
  obtain ⟨h0, A, c, hv, h1⟩ := h
  refine ⟨by rw [List.length_map]; exact h0, A, c, by rw [List.length_map]; exact hv, fun hp => ?_⟩
  obtain ⟨b, o, hb, hlt, h2⟩ := h1 (by simpa using hp)
  refine ⟨b, o, hb, hlt, fun i x hx => ?_⟩
  rw [List.getElem?_map] at hx
  obtain ⟨y, hy, rfl⟩ := Option.map_eq_some_iff.1 hx
  obtain ⟨cs, h3, h4, v1, h5, h6⟩ := h2 i y hy
  have hwy := hw y (List.mem_of_getElem? hy)
  subst h5
  refine ⟨_, h3, h4, ⟨⟨v1, rfl, ?_⟩, rfl, rfl, ?_, hwy.1, (show wfI 0 from rfl)⟩⟩
  · obtain ⟨k0, A', c', hv', k1⟩ := h6
    refine ⟨k0, A', c', hv', fun h0 => ?_⟩
    obtain ⟨b', o', e1, e2, e3⟩ := k1 h0
    refine ⟨b', o', e1, e2, fun j t ht => ?_⟩
    obtain ⟨ks, f1, f2, f3⟩ := e3 j t ht
    have f3' : ks = encI t := f3
    exact ⟨ks, f1, f2, f3', hwy.2 t (List.mem_of_getElem? ht)⟩
  · obtain ⟨_, A', c', hv', _⟩ := h6
    subst hv'
    exact encC_ones
/-- the law's own model -/
def L12 : List (List Int × Int) := [([1], -1), ([2, 0], 2), ([], -1)]
theorem L12_edges : edgesOf (L12.map fun x => (⟨x.1, x.2, 0⟩ : GN)) = [(0, 0, 1), (1, 0, 2), (1, 1, 0), (1, 2, 2)] := by decide +kernel
theorem L12_into : intoL (L12.map fun x => (⟨x.1, x.2, 0⟩ : GN)) 2 = [1, 3] := by decide +kernel
theorem L12_out : outK (edgesOf (L12.map fun x => (⟨x.1, x.2, 0⟩ : GN))) 1 2 = 3 := by decide +kernel
theorem L12_out2 : outK (edgesOf (L12.map fun x => (⟨x.1, x.2, 0⟩ : GN))) 2 0 = -1 := by decide +kernel
theorem L12_reach : reachL (L12.map fun x => (⟨x.1, x.2, 0⟩ : GN)) 0 = [0, 1, 2] := by decide +kernel
theorem L12_reach2 : reachL (L12.map fun x => (⟨x.1, x.2, 0⟩ : GN)) 2 = [] := by decide +kernel
theorem L12_wf : ∀ x ∈ L12, wfI x.2 ∧ ∀ t ∈ x.1, wfI t := by unfold wfI; decide +kernel
end Go.Proofs.YtlfefikhmdbbfaaGreat
