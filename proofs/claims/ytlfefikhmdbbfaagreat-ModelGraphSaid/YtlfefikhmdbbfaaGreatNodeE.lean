/- A node's cells, its expressions opaque. -/
import Derived.Test.YtlfefikhmdbbfaaGreatRExprs
import Derived.Test.YtlfefikhmdbbfaaGreatRInto
import Derived.Test.YtlfefikhmdbbfaaGreatSelf2
import Derived.Test.YtlfefikhmdbbfaaGreatOpen
namespace Go.Proofs.YtlfefikhmdbbfaaGreat
open Go Go.RowKit
set_option linter.unusedVariables false

theorem raw_of {α : Type} {R : List Value → α → Prop} {w : World} {B : Nat} {v : Value} {l : List α} (h : SlAt w B 10 R v l) : ∃ Q : List C10, Q.length = l.length ∧ SlAt w B 10 Raw10 v Q ∧ ∀ q ∈ Q, ∃ x, R q.cs x := by
  obtain ⟨h0, A, c, rfl, h1⟩ := h
  by_cases hp : 0 < l.length
  · obtain ⟨b, o, rfl, hb, h2⟩ := h1 hp
    obtain ⟨Q, hQ, hq⟩ := list_choose (P := fun i (q : C10) => w.rangeAt b (o + i * 10) q.cs ∧ ∃ x, R q.cs x) l.length fun i hi => by
      obtain ⟨cs, h3, h4, h5⟩ := h2 i l[i] (List.getElem?_eq_getElem hi)
      exact ⟨⟨cs, h3⟩, h4, _, h5⟩
    refine ⟨Q, hQ, ⟨by omega, _, c, by rw [hQ], fun _ => ⟨b, o, rfl, hb, fun i x hx => ⟨x.cs, x.len, (hq i x hx).1, rfl⟩⟩⟩, fun q hm => ?_⟩
    obtain ⟨i, hi, rfl⟩ := List.getElem_of_mem hm
    exact (hq i _ (List.getElem?_eq_getElem hi)).2
  · have hl : l.length = 0 := by omega
    exact ⟨[], by simp [hl], ⟨by simp, A, c, by rw [hl]; rfl, fun h => by simp at h⟩, fun q hm => by cases hm⟩
theorem okC_of {w : World} {B : Nat} {q : C10} {y : ET} (h : ExpAt w B q.cs y) : OkC q := by
  have h1 := h.one
  cases y with
  | mk k s t ns its =>
    obtain ⟨c0, c1, c2, c3, c4, c5, vn, vi, hcs, _⟩ := h.inv
    refine ⟨?_, h1⟩
    have hk : kindC q = k := by unfold kindC; rw [hcs]
    rw [hk, hcs]; rfl
theorem node_raw {w : World} {ks : List Value} {x : NodeT} (h : NodeAt w w.heap.size ks x) : ∃ v0 v1 v2 vc Q ce cb t, ks = nodeC v0 v1 v2 vc ce cb t ∧ Q.length = x.conds.length ∧ SlAt w w.heap.size 10 Raw10 vc Q ∧ ∀ q ∈ Q ++ [ce, cb], ∃ y, ExpAt w w.heap.size q.cs y := by
  obtain ⟨⟨vn, vc, ce, cb, h1, h2, h3, h4, h5, h6, h7, h8⟩, h9⟩ := h
  obtain ⟨Q, hQ, hq, hm⟩ := raw_of h5
  refine ⟨.int .i64 x.kind, .int .i64 x.label, vn, vc, Q, ⟨ce, h2⟩, ⟨cb, h3⟩, [.int .i64 x.var, .int .i64 x.msg, .int .i64 x.catch_, .int .i64 x.wait, .int .i64 x.from_], ?_, hQ, hq, fun q hqm => ?_⟩
  · rw [h1]; unfold nodeC; simp
  · rcases List.mem_append.1 hqm with h | h
    · exact hm q h
    · simp only [List.mem_cons, List.not_mem_nil, or_false] at h
      rcases h with rfl | rfl
      · exact ⟨_, h7⟩
      · exact ⟨_, h8⟩
theorem nodes_raw {w : World} {c0 c1 c2 c3 c4 : Value} {A : Option Addr} {n c : Nat} {m : ModelT} (h : ModelAt w w.heap.size [c0, c1, c2, c3, c4, .slice A n c] m) :
    0 < n → ∃ b o, A = some ⟨b, o, none⟩ ∧ b < w.heap.size ∧ ∀ i, i < n → ∃ ks x, m.nodes[i]? = some x ∧ ks.length = 29 ∧ w.rangeAt b (o + i * 29) ks ∧ NodeAt w w.heap.size ks x := by
  obtain ⟨⟨v1, v2, v3, v4, v5, h1, _, _, _, _, h6⟩, _⟩ := h
  simp only [List.cons.injEq] at h1
  obtain ⟨_, _, _, _, _, h5, _⟩ := h1
  obtain ⟨_, A', c', h7, h8⟩ := h6
  rw [← h5] at h7
  injection h7 with e1 e2 e3
  subst e1 e2
  intro h0
  obtain ⟨b, o, rfl, hb, h9⟩ := h8 h0
  refine ⟨b, o, rfl, hb, fun i hi => ?_⟩
  obtain ⟨ks, k1, k2, k3⟩ := h9 i m.nodes[i] (List.getElem?_eq_getElem hi)
  exact ⟨ks, _, List.getElem?_eq_getElem hi, k1, k2, k3⟩
theorem neq_edge (a b c : Int) (W : World) : (binOp .neq 51 (.agg #[.int .i64 a, .int .i64 b, .int .i64 c]) (.agg #[.int .i64 a, .int .i64 b, .int .i64 c])).run Tryz.prog W = .ok (.bool false) W := by
  go_simp
end Go.Proofs.YtlfefikhmdbbfaaGreat
