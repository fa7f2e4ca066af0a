/- No program: values, types, expressions, nodes and models as trees, and where they lie. -/
import Derived.Test.YtieciegfloldhaaGreatDoorSl
namespace Go.Proofs.YtieciegfloldhaaGreatDoor
open Go Go.RowKit
set_option linter.unusedVariables false

inductive VT where
  | mk (kind n : Int) (f : Nat) (s : ByteArray) (names : List ByteArray) (items : List VT)
inductive TT where
  | mk (kind : Int) (names : List ByteArray) (items : List TT)
inductive ET where
  | mk (kind : Int) (s : ByteArray) (v : VT) (names : List ByteArray) (kids : List ET)
def VT.items : VT → List VT | .mk _ _ _ _ _ l => l
def TT.items : TT → List TT | .mk _ _ l => l
def ET.kids : ET → List ET | .mk _ _ _ _ l => l
theorem VT.ind {P : VT → Prop} (h : ∀ k n f s ns its, (∀ x ∈ its, P x) → P (.mk k n f s ns its)) : ∀ t, P t
  | .mk k n f s ns its => h k n f s ns its fun x hx => VT.ind h x
termination_by t => SizeOf.sizeOf t
decreasing_by have := List.sizeOf_lt_of_mem hx; simp; omega
theorem TT.ind {P : TT → Prop} (h : ∀ k ns its, (∀ x ∈ its, P x) → P (.mk k ns its)) : ∀ t, P t
  | .mk k ns its => h k ns its fun x hx => TT.ind h x
termination_by t => SizeOf.sizeOf t
decreasing_by have := List.sizeOf_lt_of_mem hx; simp; omega
theorem ET.ind {P : ET → Prop} (h : ∀ k s v ns its, (∀ x ∈ its, P x) → P (.mk k s v ns its)) : ∀ t, P t
  | .mk k s v ns its => h k s v ns its fun x hx => ET.ind h x
termination_by t => SizeOf.sizeOf t
decreasing_by have := List.sizeOf_lt_of_mem hx; simp; omega

def wfI (i : Int) : Prop := (Lit.int .i64 i).wf = true
def StrR : List Value → ByteArray → Prop := fun cs s => cs = [.string s] ∧ s.size ≤ maxLen
def IntR : List Value → Int → Prop := fun cs i => cs = [.int .i64 i] ∧ wfI i
def PairR : List Value → Int × Int → Prop := fun cs p => cs = [.int .i64 p.1, .int .i64 p.2] ∧ wfI p.1 ∧ wfI p.2

/-- the six cells of a value -/
inductive ValAt (w : World) (B : Nat) : List Value → VT → Prop
  | mk {k n : Int} {f : Nat} {s : ByteArray} {ns : List ByteArray} {its : List VT} {vn : Value} {A : Option Addr} {c : Nat} (b o : Nat) (css : Nat → List Value)
      (hk : wfI k) (hn : wfI n) (hf : (Lit.float .f64 f).wf = true) (hs : s.size ≤ maxLen) (hns : SlAt w B 1 StrR vn ns) (hl : its.length ≤ maxLen)
      (hA : 0 < its.length → A = some ⟨b, o, none⟩ ∧ b < B) (hc : ∀ i, i < its.length → (css i).length = 6 ∧ w.rangeAt b (o + i * 6) (css i))
      (hi : ∀ i x, its[i]? = some x → ValAt w B (css i) x) :
      ValAt w B [.int .i64 k, .int .i64 n, .float .f64 f, .string s, vn, .slice A its.length c] (.mk k n f s ns its)
/-- the three cells of a type -/
inductive TypAt (w : World) (B : Nat) : List Value → TT → Prop
  | mk {k : Int} {ns : List ByteArray} {its : List TT} {vn : Value} {A : Option Addr} {c : Nat} (b o : Nat) (css : Nat → List Value)
      (hk : wfI k) (hns : SlAt w B 1 StrR vn ns) (hl : its.length ≤ maxLen)
      (hA : 0 < its.length → A = some ⟨b, o, none⟩ ∧ b < B) (hc : ∀ i, i < its.length → (css i).length = 3 ∧ w.rangeAt b (o + i * 3) (css i))
      (hi : ∀ i x, its[i]? = some x → TypAt w B (css i) x) :
      TypAt w B [.int .i64 k, vn, .slice A its.length c] (.mk k ns its)
/-- the ten cells of an expression -/
inductive ExpAt (w : World) (B : Nat) : List Value → ET → Prop
  | mk {k : Int} {s : ByteArray} {t : VT} {c0 c1 c2 c3 c4 c5 : Value} {ns : List ByteArray} {its : List ET} {vn : Value} {A : Option Addr} {c : Nat} (b o : Nat) (css : Nat → List Value)
      (hk : wfI k) (hs : s.size ≤ maxLen) (hv : ValAt w B [c0, c1, c2, c3, c4, c5] t) (hns : SlAt w B 1 StrR vn ns) (hl : its.length ≤ maxLen)
      (hA : 0 < its.length → A = some ⟨b, o, none⟩ ∧ b < B) (hc : ∀ i, i < its.length → (css i).length = 10 ∧ w.rangeAt b (o + i * 10) (css i))
      (hi : ∀ i x, its[i]? = some x → ExpAt w B (css i) x) :
      ExpAt w B [.int .i64 k, .string s, c0, c1, c2, c3, c4, c5, vn, .slice A its.length c] (.mk k s t ns its)
section
variable {w w' : World} {B B' : Nat} {cs : List Value}
theorem maxLen_small : maxLen ≤ 9223372036854775807 := by unfold maxLen; omega
theorem items_at {α : Type} {k : Nat} {R : List Value → α → Prop} {its : List α} {A : Option Addr} {c b o : Nat} {css : Nat → List Value} (hl : its.length ≤ maxLen)
    (hA : 0 < its.length → A = some ⟨b, o, none⟩ ∧ b < B) (hc : ∀ i, i < its.length → (css i).length = k ∧ w.rangeAt b (o + i * k) (css i)) (hi : ∀ i x, its[i]? = some x → R (css i) x) :
    SlAt w B k R (.slice A its.length c) its :=
  ⟨Nat.le_trans hl maxLen_small, A, c, rfl, fun h0 => ⟨b, o, (hA h0).1, (hA h0).2, fun i x hx => ⟨css i, (hc i (List.getElem?_eq_some_iff.1 hx).1).1, (hc i (List.getElem?_eq_some_iff.1 hx).1).2, hi i x hx⟩⟩⟩
theorem items_of {α : Type} {k : Nat} {R : List Value → α → Prop} {its : List α} {v : Value} (h : SlAt w B k R v its) (hm : its.length ≤ maxLen) :
    ∃ (A : Option Addr) (c b o : Nat) (css : Nat → List Value), v = .slice A its.length c ∧ (0 < its.length → A = some ⟨b, o, none⟩ ∧ b < B) ∧ (∀ i, i < its.length → (css i).length = k ∧ w.rangeAt b (o + i * k) (css i)) ∧ (∀ i x, its[i]? = some x → R (css i) x) := by
  obtain ⟨_, A, c, rfl, h1⟩ := h
  by_cases h0 : 0 < its.length
  · obtain ⟨b, o, rfl, hb, h2⟩ := h1 h0
    have hex : ∀ i, ∃ cs : List Value, ∀ x, its[i]? = some x → cs.length = k ∧ w.rangeAt b (o + i * k) cs ∧ R cs x := fun i => by
      cases hx : its[i]? with
      | none => exact ⟨[], fun x h => by cases h⟩
      | some x =>
        obtain ⟨cs, h3⟩ := h2 i x hx
        exact ⟨cs, fun y hy => by injection hy with hy; subst hy; exact h3⟩
    refine ⟨_, c, b, o, fun i => (hex i).choose, rfl, fun _ => ⟨rfl, hb⟩, fun i hi => ?_, fun i x hx => ((hex i).choose_spec x hx).2.2⟩
    have := (hex i).choose_spec its[i] (List.getElem?_eq_getElem hi)
    exact ⟨this.1, this.2.1⟩
  · exact ⟨A, c, 0, 0, fun _ => [], rfl, fun h => absurd h h0, fun i hi => by omega, fun i x hx => by have := (List.getElem?_eq_some_iff.1 hx).1; omega⟩
theorem ValAt.under {t : VT} (h : ValAt w B cs t) (hb : Below B w w') : ValAt w' B cs t := by
  induction h with
  | mk b o css hk hn hf hs hns hl hA hc hi ih =>
    exact .mk b o css hk hn hf hs (hns.below hb fun _ _ _ h => h) hl hA (fun i h => ⟨(hc i h).1, rangeAt_below (hc i h).2 hb (hA (by omega)).2⟩) ih
theorem ValAt.more {t : VT} (h : ValAt w B cs t) (hB : B ≤ B') : ValAt w B' cs t := by
  induction h with
  | mk b o css hk hn hf hs hns hl hA hc hi ih =>
    exact .mk b o css hk hn hf hs (hns.more hB) hl (fun h => ⟨(hA h).1, Nat.lt_of_lt_of_le (hA h).2 hB⟩) hc ih
theorem TypAt.under {t : TT} (h : TypAt w B cs t) (hb : Below B w w') : TypAt w' B cs t := by
  induction h with
  | mk b o css hk hns hl hA hc hi ih =>
    exact .mk b o css hk (hns.below hb fun _ _ _ h => h) hl hA (fun i h => ⟨(hc i h).1, rangeAt_below (hc i h).2 hb (hA (by omega)).2⟩) ih
theorem TypAt.more {t : TT} (h : TypAt w B cs t) (hB : B ≤ B') : TypAt w B' cs t := by
  induction h with
  | mk b o css hk hns hl hA hc hi ih =>
    exact .mk b o css hk (hns.more hB) hl (fun h => ⟨(hA h).1, Nat.lt_of_lt_of_le (hA h).2 hB⟩) hc ih
theorem ExpAt.under {t : ET} (h : ExpAt w B cs t) (hb : Below B w w') : ExpAt w' B cs t := by
  induction h with
  | mk b o css hk hs hv hns hl hA hc hi ih =>
    exact .mk b o css hk hs (hv.under hb) (hns.below hb fun _ _ _ h => h) hl hA (fun i h => ⟨(hc i h).1, rangeAt_below (hc i h).2 hb (hA (by omega)).2⟩) ih
theorem ExpAt.more {t : ET} (h : ExpAt w B cs t) (hB : B ≤ B') : ExpAt w B' cs t := by
  induction h with
  | mk b o css hk hs hv hns hl hA hc hi ih =>
    exact .mk b o css hk hs (hv.more hB) (hns.more hB) hl (fun h => ⟨(hA h).1, Nat.lt_of_lt_of_le (hA h).2 hB⟩) hc ih
theorem ValAt.inv {k n : Int} {f : Nat} {s : ByteArray} {ns : List ByteArray} {its : List VT} (h : ValAt w B cs (.mk k n f s ns its)) :
    ∃ vn vi, cs = [.int .i64 k, .int .i64 n, .float .f64 f, .string s, vn, vi] ∧ wfI k ∧ wfI n ∧ (Lit.float .f64 f).wf = true ∧ s.size ≤ maxLen ∧ SlAt w B 1 StrR vn ns ∧ its.length ≤ maxLen ∧ SlAt w B 6 (ValAt w B) vi its := by
  cases h with
  | mk b o css hk hn hf hs hns hl hA hc hi => exact ⟨_, _, rfl, hk, hn, hf, hs, hns, hl, items_at hl hA hc hi⟩
theorem TypAt.inv {k : Int} {ns : List ByteArray} {its : List TT} (h : TypAt w B cs (.mk k ns its)) :
    ∃ vn vi, cs = [.int .i64 k, vn, vi] ∧ wfI k ∧ SlAt w B 1 StrR vn ns ∧ its.length ≤ maxLen ∧ SlAt w B 3 (TypAt w B) vi its := by
  cases h with
  | mk b o css hk hns hl hA hc hi => exact ⟨_, _, rfl, hk, hns, hl, items_at hl hA hc hi⟩
theorem ExpAt.inv {k : Int} {s : ByteArray} {t : VT} {ns : List ByteArray} {its : List ET} (h : ExpAt w B cs (.mk k s t ns its)) :
    ∃ c0 c1 c2 c3 c4 c5 vn vi, cs = [.int .i64 k, .string s, c0, c1, c2, c3, c4, c5, vn, vi] ∧ wfI k ∧ s.size ≤ maxLen ∧ ValAt w B [c0, c1, c2, c3, c4, c5] t ∧ SlAt w B 1 StrR vn ns ∧ its.length ≤ maxLen ∧ SlAt w B 10 (ExpAt w B) vi its := by
  cases h with
  | mk b o css hk hs hv hns hl hA hc hi => exact ⟨_, _, _, _, _, _, _, _, rfl, hk, hs, hv, hns, hl, items_at hl hA hc hi⟩
theorem ValAt.of {k n : Int} {f : Nat} {s : ByteArray} {ns : List ByteArray} {its : List VT} {vn vi : Value} (hk : wfI k) (hn : wfI n) (hf : (Lit.float .f64 f).wf = true) (hs : s.size ≤ maxLen)
    (hns : SlAt w B 1 StrR vn ns) (hl : its.length ≤ maxLen) (hi : SlAt w B 6 (ValAt w B) vi its) : ValAt w B [.int .i64 k, .int .i64 n, .float .f64 f, .string s, vn, vi] (.mk k n f s ns its) := by
  obtain ⟨A, c, b, o, css, rfl, h1, h2, h3⟩ := items_of hi hl
  exact .mk b o css hk hn hf hs hns hl h1 h2 h3
theorem TypAt.of {k : Int} {ns : List ByteArray} {its : List TT} {vn vi : Value} (hk : wfI k)
    (hns : SlAt w B 1 StrR vn ns) (hl : its.length ≤ maxLen) (hi : SlAt w B 3 (TypAt w B) vi its) : TypAt w B [.int .i64 k, vn, vi] (.mk k ns its) := by
  obtain ⟨A, c, b, o, css, rfl, h1, h2, h3⟩ := items_of hi hl
  exact .mk b o css hk hns hl h1 h2 h3
theorem ExpAt.of {k : Int} {s : ByteArray} {t : VT} {ns : List ByteArray} {its : List ET} {c0 c1 c2 c3 c4 c5 vn vi : Value} (hk : wfI k) (hs : s.size ≤ maxLen) (hv : ValAt w B [c0, c1, c2, c3, c4, c5] t)
    (hns : SlAt w B 1 StrR vn ns) (hl : its.length ≤ maxLen) (hi : SlAt w B 10 (ExpAt w B) vi its) : ExpAt w B [.int .i64 k, .string s, c0, c1, c2, c3, c4, c5, vn, vi] (.mk k s t ns its) := by
  obtain ⟨A, c, b, o, css, rfl, h1, h2, h3⟩ := items_of hi hl
  exact .mk b o css hk hs hv hns hl h1 h2 h3
end

/-! models -/
structure VarT where
  name : ByteArray
  label : Int
  type : TT
  init : VT
structure MsgT where
  name : ByteArray
  label : Int
  key : TT
  body : TT
structure NodeT where
  kind : Int
  label : Int
  next : List Int
  conds : List ET
  expr : ET
  body : ET
  var : Int
  msg : Int
  catch_ : Int
  wait : Int
  from_ : Int
structure ModelT where
  labels : Int
  order : List (Int × Int)
  grants : List (Int × Int)
  vars : List VarT
  msgs : List MsgT
  nodes : List NodeT
structure VarAt (w : World) (B : Nat) (cs : List Value) (x : VarT) : Prop where
  ex : ∃ ct ci, cs = [.string x.name, .int .i64 x.label] ++ ct ++ ci ∧ ct.length = 3 ∧ ci.length = 6 ∧ TypAt w B ct x.type ∧ ValAt w B ci x.init
  name : x.name.size ≤ maxLen
  label : wfI x.label
structure MsgAt (w : World) (B : Nat) (cs : List Value) (x : MsgT) : Prop where
  ex : ∃ ck cb, cs = [.string x.name, .int .i64 x.label] ++ ck ++ cb ∧ ck.length = 3 ∧ cb.length = 3 ∧ TypAt w B ck x.key ∧ TypAt w B cb x.body
  name : x.name.size ≤ maxLen
  label : wfI x.label
structure NodeAt (w : World) (B : Nat) (cs : List Value) (x : NodeT) : Prop where
  ex : ∃ vn vc ce cb, cs = [.int .i64 x.kind, .int .i64 x.label, vn, vc] ++ ce ++ cb ++ [.int .i64 x.var, .int .i64 x.msg, .int .i64 x.catch_, .int .i64 x.wait, .int .i64 x.from_] ∧
    ce.length = 10 ∧ cb.length = 10 ∧ SlAt w B 1 IntR vn x.next ∧ SlAt w B 10 (ExpAt w B) vc x.conds ∧ x.conds.length ≤ maxLen ∧ ExpAt w B ce x.expr ∧ ExpAt w B cb x.body
  wf : wfI x.kind ∧ wfI x.label ∧ wfI x.var ∧ wfI x.msg ∧ wfI x.catch_ ∧ wfI x.wait ∧ wfI x.from_
structure ModelAt (w : World) (B : Nat) (cs : List Value) (m : ModelT) : Prop where
  ex : ∃ v1 v2 v3 v4 v5, cs = [.int .i64 m.labels, v1, v2, v3, v4, v5] ∧ SlAt w B 2 PairR v1 m.order ∧ SlAt w B 2 PairR v2 m.grants ∧ SlAt w B 11 (VarAt w B) v3 m.vars ∧ SlAt w B 8 (MsgAt w B) v4 m.msgs ∧ SlAt w B 29 (NodeAt w B) v5 m.nodes
  wf : wfI m.labels
section
variable {w w' : World} {B B' : Nat} {cs : List Value}
theorem VarAt.under {x : VarT} (h : VarAt w B cs x) (hb : Below B w w') : VarAt w' B cs x := by
  obtain ⟨⟨ct, ci, h1, h2, h3, h4, h5⟩, h6, h7⟩ := h
  exact ⟨⟨ct, ci, h1, h2, h3, h4.under hb, h5.under hb⟩, h6, h7⟩
theorem MsgAt.under {x : MsgT} (h : MsgAt w B cs x) (hb : Below B w w') : MsgAt w' B cs x := by
  obtain ⟨⟨ct, ci, h1, h2, h3, h4, h5⟩, h6, h7⟩ := h
  exact ⟨⟨ct, ci, h1, h2, h3, h4.under hb, h5.under hb⟩, h6, h7⟩
theorem NodeAt.under {x : NodeT} (h : NodeAt w B cs x) (hb : Below B w w') : NodeAt w' B cs x := by
  obtain ⟨⟨vn, vc, ce, cb, h1, h2, h3, h4, h5, h6, h7, h8⟩, h9⟩ := h
  exact ⟨⟨vn, vc, ce, cb, h1, h2, h3, h4.below hb (fun _ _ _ h => h), h5.below hb (fun _ _ _ h => h.under hb), h6, h7.under hb, h8.under hb⟩, h9⟩
theorem ModelAt.under {m : ModelT} (h : ModelAt w B cs m) (hb : Below B w w') : ModelAt w' B cs m := by
  obtain ⟨⟨v1, v2, v3, v4, v5, h1, h2, h3, h4, h5, h6⟩, h7⟩ := h
  exact ⟨⟨v1, v2, v3, v4, v5, h1, h2.below hb (fun _ _ _ h => h), h3.below hb (fun _ _ _ h => h), h4.below hb (fun _ _ _ h => h.under hb), h5.below hb (fun _ _ _ h => h.under hb), h6.below hb (fun _ _ _ h => h.under hb)⟩, h7⟩
theorem SlAt.one {α : Type} {k : Nat} {R : List Value → α → Prop} {v : Value} {l : List α} (h : SlAt w B k R v l) : v.oneCell' = true := by
  obtain ⟨_, A, c, rfl, _⟩ := h; rfl
theorem ValAt.one {x : VT} (h : ValAt w B cs x) : ∀ v ∈ cs, v.oneCell' = true := by
  cases x
  obtain ⟨vn, vi, rfl, _, _, _, _, h1, _, h2⟩ := h.inv
  intro v hv
  simp only [List.mem_cons, List.not_mem_nil, or_false] at hv
  rcases hv with rfl | rfl | rfl | rfl | rfl | rfl
  · rfl
  · rfl
  · rfl
  · rfl
  · exact h1.one
  · exact h2.one
theorem TypAt.one {x : TT} (h : TypAt w B cs x) : ∀ v ∈ cs, v.oneCell' = true := by
  cases x
  obtain ⟨vn, vi, rfl, _, h1, _, h2⟩ := h.inv
  intro v hv
  simp only [List.mem_cons, List.not_mem_nil, or_false] at hv
  rcases hv with rfl | rfl | rfl
  · rfl
  · exact h1.one
  · exact h2.one
theorem ExpAt.one {x : ET} (h : ExpAt w B cs x) : ∀ v ∈ cs, v.oneCell' = true := by
  cases x
  obtain ⟨c0, c1, c2, c3, c4, c5, vn, vi, rfl, _, _, h3, h1, _, h2⟩ := h.inv
  have h4 := h3.one
  intro v hv
  simp only [List.mem_cons, List.not_mem_nil, or_false] at hv h4
  rcases hv with rfl | rfl | h | h | h | h | h | h | rfl | rfl
  · rfl
  · rfl
  · exact h4 v (.inl h)
  · exact h4 v (.inr (.inl h))
  · exact h4 v (.inr (.inr (.inl h)))
  · exact h4 v (.inr (.inr (.inr (.inl h))))
  · exact h4 v (.inr (.inr (.inr (.inr (.inl h)))))
  · exact h4 v (.inr (.inr (.inr (.inr (.inr h)))))
  · exact h1.one
  · exact h2.one
theorem VarAt.one {x : VarT} (h : VarAt w B cs x) : ∀ v ∈ cs, v.oneCell' = true := by
  obtain ⟨⟨ct, ci, rfl, _, _, h1, h2⟩, _, _⟩ := h
  intro v hv
  simp only [List.mem_append, List.mem_cons, List.not_mem_nil, or_false] at hv
  rcases hv with ((rfl | rfl) | hv) | hv
  · rfl
  · rfl
  · exact h1.one v hv
  · exact h2.one v hv
theorem MsgAt.one {x : MsgT} (h : MsgAt w B cs x) : ∀ v ∈ cs, v.oneCell' = true := by
  obtain ⟨⟨ct, ci, rfl, _, _, h1, h2⟩, _, _⟩ := h
  intro v hv
  simp only [List.mem_append, List.mem_cons, List.not_mem_nil, or_false] at hv
  rcases hv with ((rfl | rfl) | hv) | hv
  · rfl
  · rfl
  · exact h1.one v hv
  · exact h2.one v hv
theorem NodeAt.one {x : NodeT} (h : NodeAt w B cs x) : ∀ v ∈ cs, v.oneCell' = true := by
  obtain ⟨⟨vn, vc, ce, cb, rfl, _, _, h1, h2, _, h3, h4⟩, _⟩ := h
  intro v hv
  simp only [List.mem_append, List.mem_cons, List.not_mem_nil, or_false] at hv
  rcases hv with (((rfl | rfl | rfl | rfl) | hv) | hv) | (rfl | rfl | rfl | rfl | rfl)
  · rfl
  · rfl
  · exact h1.one
  · exact h2.one
  · exact h3.one v hv
  · exact h4.one v hv
  all_goals rfl
theorem SlAt.weak {α : Type} {k : Nat} {R R' : List Value → α → Prop} {v : Value} {l : List α} (h : SlAt w B k R v l) (hR : ∀ cs x, R cs x → R' cs x) : SlAt w B k R' v l := by
  obtain ⟨h0, A, c, rfl, h1⟩ := h
  refine ⟨h0, A, c, rfl, fun hp => ?_⟩
  obtain ⟨b, o, rfl, hlt, h2⟩ := h1 hp
  refine ⟨b, o, rfl, hlt, fun i x hx => ?_⟩
  obtain ⟨cs, h3, h4, h5⟩ := h2 i x hx
  exact ⟨cs, h3, h4, hR cs x h5⟩
theorem VarAt.more {x : VarT} (h : VarAt w B cs x) (hB : B ≤ B') : VarAt w B' cs x := by
  obtain ⟨⟨ct, ci, h1, h2, h3, h4, h5⟩, h6, h7⟩ := h
  exact ⟨⟨ct, ci, h1, h2, h3, h4.more hB, h5.more hB⟩, h6, h7⟩
theorem MsgAt.more {x : MsgT} (h : MsgAt w B cs x) (hB : B ≤ B') : MsgAt w B' cs x := by
  obtain ⟨⟨ct, ci, h1, h2, h3, h4, h5⟩, h6, h7⟩ := h
  exact ⟨⟨ct, ci, h1, h2, h3, h4.more hB, h5.more hB⟩, h6, h7⟩
theorem NodeAt.more {x : NodeT} (h : NodeAt w B cs x) (hB : B ≤ B') : NodeAt w B' cs x := by
  obtain ⟨⟨vn, vc, ce, cb, h1, h2, h3, h4, h5, h6, h7, h8⟩, h9⟩ := h
  exact ⟨⟨vn, vc, ce, cb, h1, h2, h3, h4.more hB, (h5.more hB).weak (fun _ _ h => h.more hB), h6, h7.more hB, h8.more hB⟩, h9⟩
theorem ModelAt.more {m : ModelT} (h : ModelAt w B cs m) (hB : B ≤ B') : ModelAt w B' cs m := by
  obtain ⟨⟨v1, v2, v3, v4, v5, h1, h2, h3, h4, h5, h6⟩, h7⟩ := h
  exact ⟨⟨v1, v2, v3, v4, v5, h1, h2.more hB, h3.more hB, (h4.more hB).weak (fun _ _ h => h.more hB), (h5.more hB).weak (fun _ _ h => h.more hB), (h6.more hB).weak (fun _ _ h => h.more hB)⟩, h7⟩
end
end Go.Proofs.YtieciegfloldhaaGreatDoor
