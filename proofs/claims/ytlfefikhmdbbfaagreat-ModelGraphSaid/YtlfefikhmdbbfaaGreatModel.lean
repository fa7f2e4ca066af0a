/- No program: a model's nodes as far as its graph goes; its edges. -/
import Derived.Test.YtlfefikhmdbbfaaGreatGraph3
import Derived.Test.YtlfefikhmdbbfaaGreatTree
namespace Go.Proofs.YtlfefikhmdbbfaaGreat
open Go Go.RowKit
set_option linter.unusedVariables false

structure GN where
  next : List Int
  catch_ : Int
  wait : Int
abbrev EdgeT := Nat × Nat × Int
def encE (e : EdgeT) : List Value := [.int .i64 e.1, .int .i64 e.2.1, .int .i64 e.2.2]
theorem encE_len (e : EdgeT) : (encE e).length = 3 := rfl
theorem encE_one (e : EdgeT) : ∀ v ∈ encE e, v.oneCell' = true := by
  intro v hv
  simp only [encE, List.mem_cons, List.not_mem_nil, or_false] at hv
  rcases hv with rfl | rfl | rfl <;> rfl
def nextE (i : Nat) : Nat → List Int → List EdgeT
  | _, [] => []
  | p, t :: r => (i, p, t) :: nextE i (p + 1) r
def nodeE (i : Nat) (x : GN) : List EdgeT := nextE i 0 x.next ++ if 0 ≤ x.catch_ then [(i, x.next.length, x.catch_)] else []
def edgesFrom : Nat → List GN → List EdgeT
  | _, [] => []
  | i, x :: g => nodeE i x ++ edgesFrom (i + 1) g
def edgesOf (g : List GN) : List EdgeT := edgesFrom 0 g
theorem nextE_snoc (i : Nat) : ∀ (l : List Int) (p : Nat) (t : Int), nextE i p (l ++ [t]) = nextE i p l ++ [(i, p + l.length, t)]
  | [], p, t => rfl
  | a :: l, p, t => by
    show (i, p, a) :: nextE i (p + 1) (l ++ [t]) = _
    rw [nextE_snoc i l]
    simp [nextE]; omega
theorem nextE_len (i : Nat) : ∀ (l : List Int) (p : Nat), (nextE i p l).length = l.length
  | [], _ => rfl
  | _ :: l, p => by simp [nextE, nextE_len i l]
theorem edgesFrom_snoc : ∀ (g : List GN) (i : Nat) (x : GN), edgesFrom i (g ++ [x]) = edgesFrom i g ++ nodeE (i + g.length) x
  | [], i, x => by simp [edgesFrom]
  | y :: g, i, x => by
    show nodeE i y ++ edgesFrom (i + 1) (g ++ [x]) = _
    rw [edgesFrom_snoc g, ← List.append_assoc, List.length_cons]
    rw [show i + 1 + g.length = i + (g.length + 1) by omega]; rfl
theorem edges_take {g : List GN} {i : Nat} {x : GN} (h : g[i]? = some x) : edgesOf (g.take (i + 1)) = edgesOf (g.take i) ++ nodeE i x := by
  have hi := (List.getElem?_eq_some_iff.1 h).1
  unfold edgesOf
  rw [take_at h, edgesFrom_snoc, List.length_take, Nat.zero_add, Nat.min_eq_left (by omega)]
theorem next_take {i k : Nat} {l : List Int} {t : Int} (h : l[k]? = some t) : nextE i 0 (l.take (k + 1)) = nextE i 0 (l.take k) ++ [(i, k, t)] := by
  have hk := (List.getElem?_eq_some_iff.1 h).1
  rw [take_at h, nextE_snoc, List.length_take, Nat.zero_add, Nat.min_eq_left (by omega)]
theorem edges_part_len (g : List GN) (i : Nat) : (edgesOf (g.take i)).length ≤ (edgesOf g).length := by
  have key : ∀ (g : List GN) (i k : Nat), (edgesFrom k (g.take i)).length ≤ (edgesFrom k g).length := by
    intro g
    induction g with
    | nil => intro i k; simp
    | cons x g ih =>
      intro i k
      cases i with
      | zero => simp [edgesFrom]
      | succ i =>
        show (nodeE k x ++ edgesFrom (k + 1) (g.take i)).length ≤ (nodeE k x ++ edgesFrom (k + 1) g).length
        rw [List.length_append, List.length_append]
        have := ih i (k + 1)
        omega
  exact key g i 0
theorem edges_room {g : List GN} {i k : Nat} {x : GN} (h : g[i]? = some x) (hk : k ≤ x.next.length) : (edgesOf (g.take i) ++ nextE i 0 (x.next.take k)).length ≤ (edgesOf g).length ∧
    (0 ≤ x.catch_ → (edgesOf (g.take i) ++ nextE i 0 x.next).length + 1 ≤ (edgesOf g).length) ∧ (k < x.next.length → (edgesOf (g.take i) ++ nextE i 0 (x.next.take k)).length + 1 ≤ (edgesOf g).length) := by
  have h1 := edges_part_len g (i + 1)
  rw [edges_take h] at h1
  unfold nodeE at h1
  simp only [List.length_append, nextE_len, List.length_take] at *
  refine ⟨by omega, fun hc => ?_, fun hl => by omega⟩
  rw [if_pos hc] at h1
  simp at h1
  omega
/-- an edge leads out of a node -/
theorem edges_from {g : List GN} {e : EdgeT} (h : e ∈ edgesOf g) : e.1 < g.length := by
  have key : ∀ (g : List GN) (k : Nat), e ∈ edgesFrom k g → e.1 < k + g.length := by
    intro g
    induction g with
    | nil => intro k h; cases h
    | cons x g ih =>
      intro k h
      rcases List.mem_append.1 h with h | h
      · unfold nodeE at h
        rcases List.mem_append.1 h with h | h
        · have : ∀ (l : List Int) (p : Nat), e ∈ nextE k p l → e.1 = k := by
            intro l
            induction l with
            | nil => intro p h; cases h
            | cons a l ih =>
              intro p h
              rcases List.mem_cons.1 h with rfl | h
              · rfl
              · exact ih _ h
          have := this _ _ h
          simp; omega
        · split at h
          · rw [List.mem_singleton.1 h]; simp
          · cases h
      · have := ih _ h
        simp; omega
  have := key g 0 h
  omega
/-- the edges that lead to nodes -/
def okE (n : Nat) (e : EdgeT) : Bool := decide (0 ≤ e.2.2) && decide (e.2.2 < n)
def inE (n : Nat) (l : List EdgeT) : List (Nat × Nat) := (l.filter (okE n)).map fun e => (e.1, e.2.2.toNat)
def graphE (g : List GN) : List (Nat × Nat) := inE g.length (edgesOf g)
theorem inE_snoc (n : Nat) (l : List EdgeT) (e : EdgeT) : inE n (l ++ [e]) = if okE n e = true then inE n l ++ [(e.1, e.2.2.toNat)] else inE n l := by
  unfold inE
  rw [List.filter_append, List.map_append]
  by_cases h : okE n e = true <;> simp [h]
theorem okE_iff {n : Nat} {e : EdgeT} : okE n e = true ↔ 0 ≤ e.2.2 ∧ e.2.2 < n := by unfold okE; simp
theorem graphE_lt {g : List GN} : ∀ e ∈ graphE g, e.1 < g.length ∧ e.2 < g.length := by
  intro e he
  unfold graphE inE at he
  obtain ⟨x, hx, rfl⟩ := List.mem_map.1 he
  obtain ⟨h1, h2⟩ := List.mem_filter.1 hx
  rw [okE_iff] at h2
  exact ⟨edges_from h1, by show x.2.2.toNat < _; omega⟩
theorem inE_len (n : Nat) (l : List EdgeT) : (inE n l).length ≤ l.length := by unfold inE; rw [List.length_map]; exact List.length_filter_le ..

/-- the cells of a node, as far as the graph asks -/
structure GraphR (w : World) (B : Nat) (cs : List Value) (x : GN) : Prop where
  next : ∃ vn, cs[2]? = some vn ∧ SlAt w B 1 IntR vn x.next
  catch_ : cs[26]? = some (.int .i64 x.catch_)
  wait : cs[27]? = some (.int .i64 x.wait)
  one : ∀ v ∈ cs, v.oneCell' = true
  wf : wfI x.catch_ ∧ wfI x.wait
def gnOf (x : NodeT) : GN := ⟨x.next, x.catch_, x.wait⟩
theorem NodeAt.graph {w : World} {B : Nat} {cs : List Value} {x : NodeT} (h : NodeAt w B cs x) : GraphR w B cs (gnOf x) := by
  have ho := h.one
  obtain ⟨⟨vn, vc, ce, cb, rfl, h2, h3, h4, h5, h6, h7, h8⟩, h9⟩ := h
  obtain ⟨e0, e1, e2, e3, e4, e5, e6, e7, e8, e9, rfl⟩ : ∃ a b c d e f g h i j, ce = [a, b, c, d, e, f, g, h, i, j] := by
    match ce, h2 with
    | [a, b, c, d, e, f, g, h, i, j], _ => exact ⟨a, b, c, d, e, f, g, h, i, j, rfl⟩
  obtain ⟨b0, b1, b2, b3, b4, b5, b6, b7, b8, b9, rfl⟩ : ∃ a b c d e f g h i j, cb = [a, b, c, d, e, f, g, h, i, j] := by
    match cb, h3 with
    | [a, b, c, d, e, f, g, h, i, j], _ => exact ⟨a, b, c, d, e, f, g, h, i, j, rfl⟩
  exact ⟨⟨vn, rfl, h4⟩, rfl, rfl, ho, h9.2.2.2.2.1, h9.2.2.2.2.2.1⟩
theorem GraphR.under {w w' : World} {B : Nat} {cs : List Value} {x : GN} (h : GraphR w B cs x) (hb : Below B w w') : GraphR w' B cs x :=
  ⟨let ⟨vn, h1, h2⟩ := h.next; ⟨vn, h1, h2.below hb fun _ _ _ h => h⟩, h.catch_, h.wait, h.one, h.wf⟩
theorem GraphR.more {w : World} {B B' : Nat} {cs : List Value} {x : GN} (h : GraphR w B cs x) (hB : B ≤ B') : GraphR w B' cs x :=
  ⟨let ⟨vn, h1, h2⟩ := h.next; ⟨vn, h1, h2.more hB⟩, h.catch_, h.wait, h.one, h.wf⟩
def GraphAt (w : World) (B : Nat) (v : Value) (g : List GN) : Prop := SlAt w B 29 (GraphR w B) v g
theorem GraphAt.under {w w' : World} {B : Nat} {v : Value} {g : List GN} (h : GraphAt w B v g) (hb : Below B w w') : GraphAt w' B v g := SlAt.below h hb fun _ _ _ h => h.under hb
theorem GraphAt.more {w : World} {B B' : Nat} {v : Value} {g : List GN} (h : GraphAt w B v g) (hB : B ≤ B') : GraphAt w B' v g := (SlAt.more h hB).weak fun _ _ h => h.more hB
theorem GraphAt.next {w w' : World} {v : Value} {g : List GN} (h : GraphAt w w.heap.size v g) (hb : Below w.heap.size w w') : GraphAt w' w'.heap.size v g := (h.under hb).more hb.size
theorem SlAt.map {α β : Type} {w : World} {B k : Nat} {R : List Value → α → Prop} {R' : List Value → β → Prop} {v : Value} {l : List α} (f : α → β) (h : SlAt w B k R v l) (hR : ∀ cs x, R cs x → R' cs (f x)) : SlAt w B k R' v (l.map f) := by
  obtain ⟨h0, A, c, rfl, h1⟩ := h
  refine ⟨by simpa using h0, A, c, by simp, fun hp => ?_⟩
  obtain ⟨b, o, rfl, hlt, h2⟩ := h1 (by simpa using hp)
  refine ⟨b, o, rfl, hlt, fun i y hy => ?_⟩
  rw [List.getElem?_map] at hy
  cases hx : l[i]? with
  | none => rw [hx] at hy; cases hy
  | some x =>
    rw [hx] at hy
    simp at hy
    subst hy
    obtain ⟨cs, h3, h4, h5⟩ := h2 i x hx
    exact ⟨cs, h3, h4, hR cs x h5⟩
theorem ModelAt.graph {w : World} {B : Nat} {cs : List Value} {m : ModelT} (h : ModelAt w B cs m) : ∃ v1 v2 v3 v4 v5, cs = [.int .i64 m.labels, v1, v2, v3, v4, v5] ∧ GraphAt w B v5 (m.nodes.map gnOf) := by
  obtain ⟨⟨v1, v2, v3, v4, v5, h1, _, _, _, _, h6⟩, _⟩ := h
  exact ⟨v1, v2, v3, v4, v5, h1, SlAt.map gnOf h6 fun _ _ h => h.graph⟩
end Go.Proofs.YtlfefikhmdbbfaaGreat
