/- Parts of a proof: MOwnP, MOwnQ, MOwn, FitM. -/
import Derived.Laws.OwnMore
import Derived.Test.YtpmjcbjdcjjplaaGreatPack5
import Derived.Test.YtpmjcbjdcjjplaaGreatPack16
import Derived.Test.YtpmjcbjdcjjplaaGreatPack37
import Derived.Test.YtpmjcbjdcjjplaaGreatPack38
section
namespace Go.Proofs.YtpmjcbjdcjjplaaGreat
open Go Go.RowKit
set_option linter.unusedVariables false
theorem setLX_get : ∀ (vs l : List Value) (o m : Nat), (setLX l o vs)[m]? = if o ≤ m ∧ m < o + vs.length ∧ m < l.length then vs[m - o]? else l[m]?
  | [], l, o, m => by
    rw [setLX, if_neg (by simp; omega)]
  | v :: r, l, o, m => by
    rw [setLX, setLX_get r (l.set o v) (o + 1) m, List.length_set, List.length_cons]
    by_cases h : o + 1 ≤ m ∧ m < o + 1 + r.length ∧ m < l.length
    · rw [if_pos h, if_pos (by omega), show m - o = (m - (o + 1)) + 1 by omega, List.getElem?_cons_succ]
    · rw [if_neg h, List.getElem?_set]
      by_cases e : o = m
      · subst e
        rw [if_pos rfl]
        by_cases hl : o < l.length
        · rw [if_pos hl, if_pos (by omega), Nat.sub_self]; rfl
        · rw [if_neg hl, if_neg (by omega), List.getElem?_eq_none (by omega)]
      · rw [if_neg e, if_neg (by omega)]
theorem setLX_len : ∀ (vs l : List Value) (o : Nat), (setLX l o vs).length = l.length
  | [], l, o => rfl
  | v :: r, l, o => by rw [setLX, setLX_len r, List.length_set]
theorem flatK_at {k : Nat} (hk : 0 < k) : ∀ (l : List (CellsK k)) (m : Nat), (flat encK l)[m]? = (l[m / k]?).bind fun q => q.1[m % k]?
  | [], m => by simp [flat]
  | q :: l, m => by
    have hq : q.1.length = k := q.2
    show (q.1 ++ flat encK l)[m]? = _
    rcases Nat.lt_or_ge m k with hm | hm
    · rw [List.getElem?_append_left (by omega), Nat.div_eq_of_lt hm, Nat.mod_eq_of_lt hm]; rfl
    · rw [List.getElem?_append_right (by omega), hq, flatK_at hk l (m - k), Nat.div_eq_sub_div hk hm, Nat.mod_eq_sub_mod hm]; rfl
def putK {k : Nat} (q : CellsK k) (j : Nat) (vs : List Value) : CellsK k := ⟨setLX q.1 j vs, by rw [setLX_len]; exact q.2⟩
theorem flat_putK {k : Nat} (hk : 0 < k) {KL : List (CellsK k)} {i j : Nat} {q : CellsK k} (hq : KL[i]? = some q) (vs : List Value) (hj : j + vs.length ≤ k) : setLX (flat encK KL) (i * k + j) vs = flat encK (KL.set i (putK q j vs)) := by
  have hi := (List.getElem?_eq_some_iff.1 hq).1
  refine List.ext_getElem? fun m => ?_
  rw [setLX_get, flatK_at hk, flatK_at hk, List.getElem?_set, flat_len encK_len]
  have hmk : m = m / k * k + m % k := by have := Nat.div_add_mod m k; rw [Nat.mul_comm] at this; omega
  have hmod := Nat.mod_lt m hk
  have hdiv : i * k ≤ m → m < i * k + k → i = m / k := fun h3 h4 => ((Nat.div_eq_of_lt_le h3 (by rw [Nat.add_mul, Nat.one_mul]; exact h4))).symm
  have hlt : i * k + k ≤ KL.length * k := by
    have : (i + 1) * k ≤ KL.length * k := Nat.mul_le_mul_right k hi
    rw [Nat.add_mul, Nat.one_mul] at this
    exact this
  generalize m / k = a at *
  generalize m % k = b at *
  by_cases e : i = a
  · subst e
    rw [if_pos rfl, if_pos hi, hq]
    show _ = (setLX q.1 j vs)[b]?
    rw [setLX_get, q.2]
    by_cases hc : j ≤ b ∧ b < j + vs.length ∧ b < k
    · rw [if_pos hc, if_pos (by omega), show m - (i * k + j) = b - j by omega]
    · rw [if_neg hc, if_neg (by omega)]; rfl
  · rw [if_neg e, if_neg]
    rintro ⟨h1, h2, _⟩
    exact e (hdiv (by omega) (by omega))
theorem owns_setsX {base size n cap g : Nat} {e : TypeId} : ∀ (vs : List Value) (o : Nat) (xs : List Value) (w : World), w.ownsRow base e size (.slice (some ⟨g, 0, none⟩) n cap) n xs →
    (w.setCells g o vs).ownsRow base e size (.slice (some ⟨g, 0, none⟩) n cap) n (setLX xs o vs) ∧ w.grownBy (w.setCells g o vs) (some g)
  | [], o, xs, w, h => ⟨h, ⟨rfl, rfl, rfl, Nat.le_refl _, fun _ _ _ => rfl⟩⟩
  | v :: r, o, xs, w, h => by
    obtain ⟨h1, h2⟩ := World.ownsRow.stored h o v
    obtain ⟨h3, h4⟩ := owns_setsX r (o + 1) _ _ h1
    exact ⟨h3, ⟨h4.os.trans h2.os, h4.tape.trans h2.tape, h4.output.trans h2.output, Nat.le_trans h2.size h4.size, fun b hb hne => (h4.block b (Nat.lt_of_lt_of_le hb h2.size) hne).trans (h2.block b hb hne)⟩⟩
section
variable {T : TypeId} {k B g cap i j : Nat} {w : World} {KL : List (CellsK k)} {q : CellsK k}
theorem own_putK (hk : 0 < k) (h : OwnSl T k encK w B (.slice (some ⟨g, 0, none⟩) KL.length cap) KL) (hq : KL[i]? = some q) (vs : List Value) (hj : j + vs.length ≤ k) :
    OwnSl T k encK (w.setCells g (i * k + j) vs) B (.slice (some ⟨g, 0, none⟩) (KL.set i (putK q j vs)).length cap) (KL.set i (putK q j vs)) ∧ w.grownBy (w.setCells g (i * k + j) vs) (some g) := by
  obtain ⟨h1, h2⟩ := owns_setsX vs (i * k + j) _ w h
  rw [flat_putK hk hq vs hj] at h1
  refine ⟨?_, h2⟩
  unfold OwnSl
  rw [List.length_set]
  exact h1
theorem own_atK (h : OwnSl T k encK w B (.slice (some ⟨g, 0, none⟩) KL.length cap) KL) (hq : KL[i]? = some q) {v : Value} (hv : q.1[j]? = some v) : w.cell? ⟨g, i * k + j, none⟩ = some v ∧ w.frozen? ⟨g, i * k + j, none⟩ = false := by
  have hc := World.ownsRow.cells h (g := g) rfl (i * k + j) v (flat_at encK_len KL i q hq j v hv)
  rw [Addr.add_mid, Nat.zero_add] at hc
  refine ⟨hc, ?_⟩
  rcases h.2 with ⟨h0, _⟩ | ⟨g', cap', cur, h0, _, hg, _⟩
  · cases h0
  · injection h0 with h0 _ _
    injection h0 with h0
    injection h0 with h0
    subst h0
    unfold World.frozen?
    simp [hg]
theorem own_rangeK (h : OwnSl T k encK w B (.slice (some ⟨g, 0, none⟩) KL.length cap) KL) (hq : KL[i]? = some q) {pre cs post : List Value} (he : q.1 = pre ++ (cs ++ post)) (hj : pre.length = j) : w.rangeAt g (i * k + j) cs ∧ w.there g (i * k + j) cs.length := by
  have key : ∀ m v, cs[m]? = some v → w.cell? ⟨g, i * k + j + m, none⟩ = some v ∧ w.frozen? ⟨g, i * k + j + m, none⟩ = false := fun m v hv => by
    have := own_atK (j := j + m) h hq (v := v) (by
      rw [he, List.getElem?_append_right (by omega), hj, show j + m - j = m by omega, List.getElem?_append_left (List.getElem?_eq_some_iff.1 hv).1]
      exact hv)
    rwa [← Nat.add_assoc] at this
  refine ⟨fun m v hv => (key m v hv).1, fun m hm => ?_⟩
  have h := key m cs[m] (List.getElem?_eq_getElem hm)
  exact ⟨by rw [h.1]; rfl, h.2⟩
end
theorem setLX_mid : ∀ (vs cs pre post : List Value), vs.length = cs.length → setLX (pre ++ (cs ++ post)) pre.length vs = pre ++ (vs ++ post)
  | [], cs, pre, post, h => by
    rw [setLX, show cs = [] from List.eq_nil_of_length_eq_zero (by simpa using h.symm)]
  | v :: r, [], pre, post, h => by simp at h
  | v :: r, c :: cs, pre, post, h => by
    rw [setLX]
    have e : (pre ++ (c :: cs ++ post)).set pre.length v = (pre ++ [v]) ++ (cs ++ post) := by
      rw [List.set_append_right _ _ (Nat.le_refl _), Nat.sub_self]
      simp
    rw [e]
    have := setLX_mid r cs (pre ++ [v]) post (by simpa using h)
    rw [List.length_append] at this
    rw [show pre.length + 1 = pre.length + [v].length from rfl, this, List.append_assoc]
    rfl
end Go.Proofs.YtpmjcbjdcjjplaaGreat
end
section
namespace Go.Proofs.YtpmjcbjdcjjplaaGreat
open Go Go.RowKit
set_option linter.unusedVariables false
def canVar (x : VarT) : VarT := ⟨x.name, x.label, x.type, canonV x.init⟩
def canNode (x : NodeT) : NodeT := ⟨x.kind, x.label, x.next, x.conds.map canE, canE x.expr, canE x.body, x.var, x.msg, x.catch_, x.wait, x.from_⟩
def canM (m : ModelT) : ModelT := ⟨m.labels, m.order, m.grants, m.vars.map canVar, m.msgs, m.nodes.map canNode⟩
section
variable {w w' : World} {B B' : Nat} {cs : List Value}
theorem VarAt.cells {x : VarT} (h : VarAt w B cs x) (hc : ∀ a v, w.cell? a = some v → w'.cell? a = some v) : VarAt w' B cs x := by
  obtain ⟨⟨ct, ci, h1, h2, h3, h4, h5⟩, h6, h7⟩ := h
  exact ⟨⟨ct, ci, h1, h2, h3, h4.cells hc, h5.cells hc⟩, h6, h7⟩
theorem MsgAt.cells {x : MsgT} (h : MsgAt w B cs x) (hc : ∀ a v, w.cell? a = some v → w'.cell? a = some v) : MsgAt w' B cs x := by
  obtain ⟨⟨ct, ci, h1, h2, h3, h4, h5⟩, h6, h7⟩ := h
  exact ⟨⟨ct, ci, h1, h2, h3, h4.cells hc, h5.cells hc⟩, h6, h7⟩
theorem NodeAt.cells {x : NodeT} (h : NodeAt w B cs x) (hc : ∀ a v, w.cell? a = some v → w'.cell? a = some v) : NodeAt w' B cs x := by
  obtain ⟨⟨vn, vc, ce, cb, h1, h2, h3, h4, h5, h6, h7, h8⟩, h9⟩ := h
  exact ⟨⟨vn, vc, ce, cb, h1, h2, h3, h4.cells hc (fun _ _ _ h => h), h5.cells hc (fun _ _ _ h => h.cells hc), h6, h7.cells hc, h8.cells hc⟩, h9⟩
theorem ModelAt.cells {m : ModelT} (h : ModelAt w B cs m) (hc : ∀ a v, w.cell? a = some v → w'.cell? a = some v) : ModelAt w' B cs m := by
  obtain ⟨⟨v1, v2, v3, v4, v5, h1, h2, h3, h4, h5, h6⟩, h7⟩ := h
  exact ⟨⟨v1, v2, v3, v4, v5, h1, h2.cells hc (fun _ _ _ h => h), h3.cells hc (fun _ _ _ h => h), h4.cells hc (fun _ _ _ h => h.cells hc), h5.cells hc (fun _ _ _ h => h.cells hc), h6.cells hc (fun _ _ _ h => h.cells hc)⟩, h7⟩
end
def KeptM (p : Nat → Prop) (w : World) (cs : List Value) (m : ModelT) : Prop := ModelAt (only w p) w.heap.size cs m
theorem KeptM.at {p : Nat → Prop} {w : World} {cs : List Value} {m : ModelT} (h : KeptM p w cs m) : ModelAt w w.heap.size cs m := ModelAt.cells h fun a v hv => (only_cell.1 hv).2
theorem KeptM.to {p q : Nat → Prop} {w w' : World} {cs : List Value} {m : ModelT} (h : KeptM p w cs m) (hb : ∀ b, p b → b < w.heap.size → q b ∧ w'.heap[b]? = w.heap[b]?) (hs : w.heap.size ≤ w'.heap.size) : KeptM q w' cs m := (ModelAt.cells h (only_to hb)).more hs
def Keeps {α : Type} (N : World → Nat → List Value → α → Prop) : Prop := ∀ w w' B B' cs x, MonoB w w' → B ≤ B' → N w B cs x → N w' B' cs x
def varN (w : World) (B : Nat) (cs : List Value) (x : VarT) : Prop := VarAt w B cs (canVar x) ∧ ∀ v, cs[4]? = some v → ThW w v
def nodeN (w : World) (B : Nat) (cs : List Value) (x : NodeT) : Prop := NodeAt w B cs (canNode x) ∧ (∀ v, cs[2]? = some v → ThW w v) ∧ ∀ v, cs[13]? = some v → ThW w v
def expN (w : World) (B : Nat) (cs : List Value) (x : ET) : Prop := ExpAt w B cs (canE x)
theorem keeps_var : Keeps varN := fun _ _ _ _ _ _ hc hB h => ⟨(VarAt.cells h.1 hc.1).more hB, fun v hv => (h.2 v hv).mono hc⟩
theorem keeps_msg : Keeps MsgAt := fun _ _ _ _ _ _ hc hB h => (MsgAt.cells h hc.1).more hB
theorem keeps_node : Keeps nodeN := fun _ _ _ _ _ _ hc hB h => ⟨(NodeAt.cells h.1 hc.1).more hB, fun v hv => (h.2.1 v hv).mono hc, fun v hv => (h.2.2 v hv).mono hc⟩
theorem keeps_exp : Keeps expN := fun _ _ _ _ _ _ hc hB h => (ExpAt.cells h hc.1).more hB
theorem own_slK {α : Type} {T : TypeId} {k base : Nat} {u : World} {v : Value} {KL : List (CellsK k)} {l : List α} {R : List Value → α → Prop} (p : Nat → Prop) (h : OwnSl T k encK u base v KL) (hl : KL.length = l.length) (hR : ∀ (j : Nat) q x, KL[j]? = some q → l[j]? = some x → R q.1 x) (hm : l.length ≤ 9223372036854775807)
    (hp : ∀ b, some b = v.ownBlock → p b) : SlAt (only u p) u.heap.size k R v l := by
  have ho := h
  rcases h.2 with ⟨rfl, h0⟩ | ⟨g, cap, cur, rfl, _, hg, _⟩
  · exact ⟨hm, none, 0, by rw [← hl, h0], fun h => by omega⟩
  · have hlt : g < u.heap.size := own_lt ho rfl
    refine ⟨hm, _, cap, by rw [hl], fun _ => ⟨g, 0, rfl, hlt, fun i x hx => ?_⟩⟩
    obtain ⟨q, hq⟩ : ∃ q, KL[i]? = some q := ⟨_, List.getElem?_eq_getElem (by rw [hl]; exact (List.getElem?_eq_some_iff.1 hx).1)⟩
    refine ⟨q.1, q.2, fun j y hy => only_cell.2 ⟨hp g rfl, ?_⟩, hR i q x hq hx⟩
    rw [Nat.zero_add]
    exact (own_atK ho hq hy).1
structure MidR {α : Type} (T : TypeId) (k base : Nat) (N : World → Nat → List Value → α → Prop) (O : List Value → α → Prop) (W u : World) (v : Value) (l : List α) (i i' : Nat) (KL : List (CellsK k)) : Prop where
  own : OwnSl T k encK u base v KL
  len : KL.length = l.length
  bel : W.grownBy u v.ownBlock
  top : ∀ b, v.ownBlock = some b → b < W.heap.size
  new : ∀ (j : Nat) q x, j < i → KL[j]? = some q → l[j]? = some x → N (only u fun b => W.heap.size ≤ b) u.heap.size q.1 x
  old : ∀ (j : Nat) q x, i' ≤ j → KL[j]? = some q → l[j]? = some x → O q.1 x
section
variable {α : Type} {T : TypeId} {k base : Nat} {N : World → Nat → List Value → α → Prop} {O : List Value → α → Prop} {W u u' : World} {v : Value} {l : List α} {i i' g cap : Nat} {KL : List (CellsK k)}
theorem MidR.start (h : OwnSl T k encK W base v KL) (hl : KL.length = l.length) (ho : ∀ (j : Nat) q x, KL[j]? = some q → l[j]? = some x → O q.1 x) : MidR T k base N O W W v l 0 0 KL :=
  ⟨h, hl, World.grownBy.refl W _, fun b hb => own_lt h hb, fun j q x hj => absurd hj (by omega), fun j q x _ => ho j q x⟩
theorem MidR.into (h : MidR T k base N O W u v l i i KL) : MidR T k base N O W u v l i (i + 1) KL := ⟨h.own, h.len, h.bel, h.top, h.new, fun j q x hj => h.old j q x (by omega)⟩
theorem MidR.below (h : MidR T k base N O W u v l i i' KL) (hN : Keeps N) (hb : Below u.heap.size u u') : MidR T k base N O W u' v l i i' KL :=
  ⟨h.own.below hb, h.len, ⟨hb.os.trans h.bel.os, hb.tape.trans h.bel.tape, hb.output.trans h.bel.output, Nat.le_trans h.bel.size hb.size, fun b h1 h2 => (hb.block b (Nat.lt_of_lt_of_le h1 h.bel.size)).trans (h.bel.block b h1 h2)⟩, h.top,
    fun j q x hj hq hx => hN _ _ _ _ _ _ (only_toB fun b hp hlt => ⟨hp, hb.block b hlt⟩) hb.size (h.new j q x hj hq hx), h.old⟩
theorem MidR.put (h : MidR T k base N O W u (.slice (some ⟨g, 0, none⟩) l.length cap) l i (i + 1) KL) (hk : 0 < k) (hN : Keeps N) {q : CellsK k} (hq : KL[i]? = some q) (j : Nat) (vs : List Value) (hj : j + vs.length ≤ k) :
    MidR T k base N O W (u.setCells g (i * k + j) vs) (.slice (some ⟨g, 0, none⟩) l.length cap) l i (i + 1) (KL.set i (putK q j vs)) := by
  have ho := h.own
  rw [← h.len] at ho
  obtain ⟨h1, h2⟩ := own_putK hk ho hq vs hj
  rw [List.length_set, h.len] at h1
  refine ⟨h1, by rw [List.length_set]; exact h.len, ?_, h.top, fun j' q' x hj' hq' hx => ?_, fun j' q' x hj' hq' hx => h.old j' q' x hj' (by rw [List.getElem?_set_ne (by omega)] at hq'; exact hq') hx⟩
  · exact ⟨h2.os.trans h.bel.os, h2.tape.trans h.bel.tape, h2.output.trans h.bel.output, Nat.le_trans h.bel.size h2.size, fun b hb hne => (h2.block b (Nat.lt_of_lt_of_le hb h.bel.size) hne).trans (h.bel.block b hb hne)⟩
  · rw [List.getElem?_set_ne (by omega)] at hq'
    refine hN _ _ _ _ _ _ (only_toB fun b hp hlt => ⟨hp, h2.block b hlt ?_⟩) h2.size (h.new j' q' x hj' hq' hx)
    intro e
    injection e with e
    subst e
    have := h.top b rfl
    omega
theorem MidR.next (h : MidR T k base N O W u v l i (i + 1) KL) (hn : ∀ q x, KL[i]? = some q → l[i]? = some x → N (only u fun b => W.heap.size ≤ b) u.heap.size q.1 x) : MidR T k base N O W u v l (i + 1) (i + 1) KL :=
  ⟨h.own, h.len, h.bel, h.top, fun j q x hj hq hx => by
    by_cases e : j = i
    · subst e; exact hn q x hq hx
    · exact h.new j q x (by omega) hq hx, h.old⟩
theorem MidR.done (h : MidR T k base N O W u v l i i' KL) (hi : l.length ≤ i) (hN : Keeps N) (hm : l.length ≤ 9223372036854775807) (p : Nat → Prop) (hp : ∀ b, some b = v.ownBlock ∨ W.heap.size ≤ b → p b) : SlAt (only u p) u.heap.size k (N (only u p) u.heap.size) v l :=
  own_slK p h.own h.len (fun j q x hq hx => hN _ _ _ _ _ _ (only_toB fun b hb _ => ⟨hp b (.inr hb), rfl⟩) (Nat.le_refl _) (h.new j q x (by have := (List.getElem?_eq_some_iff.1 hx).1; omega) hq hx)) hm fun b hb => hp b (.inl hb)
theorem MidR.form (h : MidR T k base N O W u v l i i' KL) (hp : 0 < l.length) : ∃ g cap, v = .slice (some ⟨g, 0, none⟩) l.length cap ∧ base ≤ g ∧ g < W.heap.size := by
  rcases h.own.2 with ⟨rfl, h0⟩ | ⟨g, cap, cur, e, hb, _⟩
  · have := h.len; omega
  · have e2 := e
    rw [h.len] at e2
    exact ⟨g, cap, e2, hb, h.top g (by rw [e2]; rfl)⟩
theorem MidR.shape (h : MidR T k base N O W u v l i i' KL) : ∃ A cap, v = .slice A l.length cap := by
  rcases h.own.2 with ⟨rfl, h0⟩ | ⟨g, cap, cur, e, hb, _⟩
  · exact ⟨none, 0, by rw [← h.len, h0]⟩
  · rw [h.len] at e
    exact ⟨_, cap, e⟩
theorem MidR.low (h : MidR T k base N O W u v l i i' KL) {B : Nat} (h1 : B ≤ W.heap.size) (h2 : B ≤ base) : Below B W u :=
  ⟨h.bel.os, h.bel.tape, h.bel.output, h.bel.size, fun b hb => h.bel.block b (by omega) fun e => by have := (World.ownsRow.lt h.own b e.symm).1; omega⟩
theorem MidR.range (h : MidR T k base N O W u (.slice (some ⟨g, 0, none⟩) l.length cap) l i i' KL) {q : CellsK k} {j d : Nat} (hq : KL[j]? = some q) {pre cs post : List Value} (he : q.1 = pre ++ (cs ++ post)) (hd : pre.length = d) : u.rangeAt g (j * k + d) cs ∧ u.there g (j * k + d) cs.length :=
  own_rangeK (by have := h.own; rwa [← h.len] at this) hq he hd
theorem MidR.cell (h : MidR T k base N O W u (.slice (some ⟨g, 0, none⟩) l.length cap) l i i' KL) {q : CellsK k} {j d : Nat} (hq : KL[j]? = some q) {y : Value} (hy : q.1[d]? = some y) : u.cell? ⟨g, j * k + d, none⟩ = some y ∧ u.frozen? ⟨g, j * k + d, none⟩ = false :=
  own_atK (by have := h.own; rwa [← h.len] at this) hq hy
theorem MidR.elem (h : MidR T k base N O W u v l i i' KL) {j : Nat} {x : α} (hx : l[j]? = some x) : ∃ q, KL[j]? = some q :=
  ⟨_, List.getElem?_eq_getElem (by rw [h.len]; exact (List.getElem?_eq_some_iff.1 hx).1)⟩
end
theorem putK2 {k : Nat} {q : CellsK k} {A B C D B' C' : List Value} {j1 j2 : Nat} (hq : q.1 = A ++ (B ++ (C ++ D))) (hB : B'.length = B.length) (hC : C'.length = C.length) (h1 : A.length = j1) (h2 : j1 + B.length = j2) : (putK (putK q j1 B') j2 C').1 = A ++ (B' ++ (C' ++ D)) := by
  subst h1
  show setLX (setLX q.1 A.length B') j2 C' = _
  rw [hq, setLX_mid B' B A (C ++ D) hB]
  have h := setLX_mid C' C (A ++ B') D hC
  rw [List.length_append, hB, h2, List.append_assoc] at h
  rw [h, List.append_assoc]
theorem putK1 {k : Nat} {q : CellsK k} {A B C B' : List Value} {j1 : Nat} (hq : q.1 = A ++ (B ++ C)) (hB : B'.length = B.length) (h1 : A.length = j1) : (putK q j1 B').1 = A ++ (B' ++ C) := by
  subst h1
  show setLX q.1 A.length B' = _
  rw [hq, setLX_mid B' B A C hB]
theorem Two2.grow {T : TypeId} {n : Nat} {w W W' : World} {p q m : Nat} {cs : List Value} {r : Option Nat} (h : Two2 T n w W p q m cs) (hg : W.grownBy W' r) (hr : ∀ b, r = some b → m ≤ b) (hm : w.heap.size ≤ m) : Two2 T n w W' p q m cs := by
  have key : ∀ b, b < m → W'.heap[b]? = W.heap[b]? := fun b hb => hg.block b (Nat.lt_of_lt_of_le hb h.mw) fun e => by have := hr b e.symm; omega
  exact ⟨h.wa.keep (key p h.pm), by obtain ⟨z, hz, h2⟩ := h.wb; exact ⟨z, hz, h2.keep (key q h.qm)⟩, ⟨hg.os.trans h.bel.os, hg.tape.trans h.bel.tape, hg.output.trans h.bel.output, Nat.le_trans h.bel.size hg.size, fun b hb => (key b (by omega)).trans (h.bel.block b hb)⟩, h.wp, h.wq, h.ne, h.pm, h.qm, Nat.le_trans h.mw hg.size⟩
structure Row5 {α : Type} (T : TypeId) (k lo hi : Nat) (R : List Value → α → Prop) (u : World) (v : Value) (l : List α) (KL : List (CellsK k)) : Prop where
  own : OwnSl T k encK u lo v KL
  len : KL.length = l.length
  rel : ∀ (j : Nat) q x, KL[j]? = some q → l[j]? = some x → R q.1 x
  top : ∀ b, v.ownBlock = some b → b < hi
section
variable {α : Type} {T : TypeId} {k lo hi : Nat} {R : List Value → α → Prop} {N : World → Nat → List Value → α → Prop} {u u' : World} {v : Value} {l : List α} {KL : List (CellsK k)}
theorem Row5.of {w : World} (hl : KL.length = l.length) (hR : ∀ (j : Nat) q x, KL[j]? = some q → l[j]? = some x → R q.1 x) (ho : OwnSl T k encK u w.heap.size v KL) : Row5 T k w.heap.size u.heap.size R u v l KL := ⟨ho, hl, hR, fun b hb => own_lt ho hb⟩
theorem Row5.step (h : Row5 T k lo hi R u v l KL) (hb : ∀ b, lo ≤ b → b < hi → u'.heap[b]? = u.heap[b]?) : Row5 T k lo hi R u' v l KL := by
  refine ⟨⟨h.own.1, ?_⟩, h.len, h.rel, h.top⟩
  rcases h.own.2 with h0 | ⟨g, cap, cur, e, h1, h2, h3⟩
  · exact .inl h0
  · exact .inr ⟨g, cap, cur, e, h1, by rw [hb g h1 (h.top g (by rw [e]; rfl))]; exact h2, h3⟩
theorem Row5.sl (h : Row5 T k lo hi R u v l KL) (hm : l.length ≤ 9223372036854775807) (p : Nat → Prop) (hp : ∀ b, lo ≤ b → b < hi → p b) : SlAt (only u p) u.heap.size k R v l :=
  own_slK p h.own h.len h.rel hm fun b hb => hp b (World.ownsRow.lt h.own b hb.symm).1 (h.top b hb.symm)
theorem Row5.mid (h : Row5 T k lo hi R u v l KL) : MidR T k lo N R u u v l 0 0 KL := MidR.start h.own h.len h.rel
theorem Row5.shape (h : Row5 T k lo hi R u v l KL) : ∃ A cap, v = .slice A l.length cap := (Row5.mid (N := fun _ _ _ _ => True) h).shape
theorem sl_to {p q : Nat → Prop} (hN : Keeps N) (h : SlAt (only u p) u.heap.size k (N (only u p) u.heap.size) v l) (hb : ∀ b, p b → b < u.heap.size → q b ∧ u'.heap[b]? = u.heap[b]?) (hs : u.heap.size ≤ u'.heap.size) : SlAt (only u' q) u'.heap.size k (N (only u' q) u'.heap.size) v l :=
  ((h.cells (only_to hb) fun cs x _ hx => hN _ _ _ _ cs x (only_toB hb) (Nat.le_refl _) hx).more hs).weak fun cs x hx => hN _ _ _ _ cs x ⟨fun _ _ h => h, fun _ _ _ _ h => h⟩ hs hx
end
theorem typ_lenM {w : World} {B : Nat} {cs : List Value} {t : TT} (h : TypAt w B cs t) : cs.length = 3 := by
  cases t
  obtain ⟨vn, vi, rfl, _⟩ := h.inv
  rfl
theorem val_lenM {w : World} {B : Nat} {cs : List Value} {t : VT} (h : ValAt w B cs t) : cs.length = 6 := by
  cases t
  obtain ⟨vn, vi, rfl, _⟩ := h.inv
  rfl
theorem exp_lenM {w : World} {B : Nat} {cs : List Value} {t : ET} (h : ExpAt w B cs t) : cs.length = 10 := by
  cases t
  obtain ⟨c0, c1, c2, c3, c4, c5, vn, vi, rfl, _⟩ := h.inv
  rfl
section
variable {α : Type} {T : TypeId} {k base : Nat} {N : World → Nat → List Value → α → Prop} {O : List Value → α → Prop} {W U z : World} {l : List α} {j g cap j1 j2 : Nat} {KL : List (CellsK k)} {q : CellsK k} {A B C D B' C' : List Value} {x : α}
theorem MidR.two (h : MidR T k base N O W U (.slice (some ⟨g, 0, none⟩) l.length cap) l j (j + 1) KL) (hk : 0 < k) (hN : Keeps N) (hq : KL[j]? = some q) (he : q.1 = A ++ (B ++ (C ++ D))) (h1 : A.length = j1) (h2 : j1 + B.length = j2) (hz : Below U.heap.size U z) (hB : B'.length = B.length) (hC : C'.length = C.length) :
    z.there g (j * k + j1) B'.length ∧ (z.setCells g (j * k + j1) B').there g (j * k + j2) C'.length ∧ ∀ y, (z.setCells g (j * k + j1) B').setCells g (j * k + j2) C' = y →
      (∀ b, b ≠ g → y.heap[b]? = z.heap[b]?) ∧ y.heap.size = z.heap.size ∧ ∃ KL' q', KL'[j]? = some q' ∧ q'.1 = A ++ (B' ++ (C' ++ D)) ∧ MidR T k base N O W y (.slice (some ⟨g, 0, none⟩) l.length cap) l j (j + 1) KL' ∧ KL'.length = KL.length ∧ ∀ i, i ≠ j → KL'[i]? = KL[i]? := by
  have hz1 := h.below hN hz
  have hkl : A.length + (B.length + (C.length + D.length)) = k := by have := q.2; rw [he] at this; simpa using this
  have hlt := (List.getElem?_eq_some_iff.1 hq).1
  have ht1 := (hz1.range hq he h1).2
  have hp1 := hz1.put hk hN hq j1 B' (by omega)
  have hq1 : (KL.set j (putK q j1 B'))[j]? = some (putK q j1 B') := by rw [List.getElem?_set_self hlt]
  have he1 : (putK q j1 B').1 = (A ++ B') ++ (C ++ D) := by rw [putK1 he hB h1, List.append_assoc]
  have ht2 := (hp1.range (d := j2) hq1 he1 (by rw [List.length_append]; omega)).2
  have hp2 := hp1.put hk hN hq1 j2 C' (by omega)
  refine ⟨by rw [hB]; exact ht1, by rw [hC]; exact ht2, ?_⟩
  rintro y rfl
  refine ⟨fun b hb => (heap_setsX g b hb _ _ _).trans (heap_setsX g b hb _ _ _), (size_setsX _ _ _ _).trans (size_setsX _ _ _ _), _, _, List.getElem?_set_self (by rw [List.length_set]; exact hlt), putK2 he hB hC h1 h2, hp2, by rw [List.length_set, List.length_set], fun i hi => by rw [List.getElem?_set_ne (Ne.symm hi), List.getElem?_set_ne (Ne.symm hi)]⟩
theorem MidR.fin {y : World} {v : Value} (h : MidR T k base N O W y v l j (j + 1) KL) (hq : KL[j]? = some q) (hx : l[j]? = some x) (hn : N (only y fun b => W.heap.size ≤ b) y.heap.size q.1 x) : MidR T k base N O W y v l (j + 1) (j + 1) KL :=
  h.next fun q' x' h1 h2 => by
    rw [hq] at h1
    rw [hx] at h2
    injection h1 with h1
    injection h2 with h2
    subst h1 h2
    exact hn
end
theorem MidR.jump {α : Type} {T : TypeId} {k base : Nat} {N : World → Nat → List Value → α → Prop} {O : List Value → α → Prop} {W U u : World} {v : Value} {l : List α} {j : Nat} {KL KL' : List (CellsK k)} (h : MidR T k base N O W U v l j (j + 1) KL) (hN : Keeps N) (hg : U.grownBy u v.ownBlock) (ho : OwnSl T k encK u base v KL') (hl : KL'.length = KL.length) (hd : ∀ i, i ≠ j → KL'[i]? = KL[i]?) : MidR T k base N O W u v l j (j + 1) KL' :=
  ⟨ho, hl.trans h.len, ⟨hg.os.trans h.bel.os, hg.tape.trans h.bel.tape, hg.output.trans h.bel.output, Nat.le_trans h.bel.size hg.size, fun b h1 h2 => (hg.block b (Nat.lt_of_lt_of_le h1 h.bel.size) h2).trans (h.bel.block b h1 h2)⟩, h.top,
    fun i q x hi hq hx => hN _ _ _ _ _ _ (only_toB fun b hp hlt => ⟨hp, hg.block b hlt fun e => by
      have h1 := h.top b e.symm
      have h2 : W.heap.size ≤ b := hp
      omega⟩) hg.size (h.new i q x hi (by rw [← hd i (by omega)]; exact hq) hx),
    fun i q x hi hq hx => h.old i q x hi (by rw [← hd i (by omega)]; exact hq) hx⟩
theorem own_stepM {α : Type} {T : TypeId} {k base : Nat} {enc : α → List Value} {u u' : World} {v : Value} {l : List α} (h : OwnSl T k enc u base v l) (hb : ∀ b, v.ownBlock = some b → u'.heap[b]? = u.heap[b]?) : OwnSl T k enc u' base v l := by
  refine ⟨h.1, ?_⟩
  rcases h.2 with h0 | ⟨g, cap, cur, e, h1, h2, h3⟩
  · exact .inl h0
  · exact .inr ⟨g, cap, cur, e, h1, by rw [hb g (by rw [e]; rfl)]; exact h2, h3⟩
theorem mid_at {A B C : List Value} {i j : Nat} {v : Value} (h : (A ++ (B ++ C))[i]? = some v) (hi : A.length + j = i) (hj : j < B.length) : B[j]? = some v := by
  subst hi
  rw [List.getElem?_append_right (by omega), Nat.add_sub_cancel_left, List.getElem?_append_left hj] at h
  exact h
structure FitMM (m : ModelT) : Prop where
  order : m.order.length ≤ 1000
  grants : m.grants.length ≤ 1000
  vars : m.vars.length ≤ 1000
  msgs : m.msgs.length ≤ 1000
  nodes : m.nodes.length ≤ 1000
  var : ∀ x ∈ m.vars, FitTy x.type ∧ Fit x.init
  msg : ∀ x ∈ m.msgs, FitTy x.key ∧ FitTy x.body
  node : ∀ x ∈ m.nodes, x.next.length ≤ 1000 ∧ x.conds.length ≤ 1000 ∧ (∀ e ∈ x.conds, FitX e) ∧ FitX x.expr ∧ FitX x.body
def ThM (W : World) (B : Nat) (cs : List Value) (m : ModelT) : Prop := ∃ v0 v1 v2 v3 v4 v5, cs = [v0, v1, v2, v3, v4, v5] ∧ SlAt W B 11 (varN W B) v3 m.vars ∧ SlAt W B 29 (nodeN W B) v5 m.nodes ∧ ThW W v3 ∧ ThW W v5
def OwnMP (m : ModelT) (w : World) (e : Ending) (w' : World) : Prop := ∃ cs', e = .returned (.agg ⟨cs'⟩) ∧ KeptM (fun b => w.heap.size ≤ b) w' cs' (canM m) ∧ Below w.heap.size w w' ∧ ThM (only w' fun b => w.heap.size ≤ b) w'.heap.size cs' m
end Go.Proofs.YtpmjcbjdcjjplaaGreat
end
section
namespace Go.Proofs.YtpmjcbjdcjjplaaGreat
open Go Go.RowKit
set_option linter.unusedVariables false
set_option linter.unusedSimpArgs false
theorem pair_oneM : ∀ cs x, PairR cs x → ∀ u ∈ cs, u.oneCell' = true := by
  rintro cs x ⟨rfl, -, -⟩ u hu
  simp only [List.mem_cons, List.not_mem_nil, or_false] at hu
  rcases hu with rfl | rfl <;> rfl
theorem int_oneM : ∀ cs x, IntR cs x → ∀ u ∈ cs, u.oneCell' = true := by
  rintro cs x ⟨rfl, -⟩ u hu
  simp only [List.mem_cons, List.not_mem_nil, or_false] at hu
  rcases hu with rfl
  rfl
theorem results_modM {fn : Func} {p : Tmp} (h : fn.results = #[.cell p 27]) (tmps : Array Value) (w : World) (g : Nat) (cs : List Value) (hl : cs.length = 6)
    (hp : tmps.getD p undef = .pointer (some ⟨g, 0, none⟩)) (hm : w.rangeAt g 0 cs) : (results fn tmps).run Tryz.prog w = .ok (.agg ⟨cs⟩) w := by
  have hp' : tmps[p]?.getD undef = .pointer (some ⟨g, 0, none⟩) := by simpa using hp
  have hl := run_loadVar_mid (P := Tryz.prog) w g 0 27 cs _ hm Tryz.underlying27 rfl (by rw [hl]; kernel_rfl)
  simp [results, h, hp', asAddr, hl]
set_option maxHeartbeats 16000000 in
set_option maxRecDepth 100000 in
theorem mown_any (m : ModelT) (cs : List Value) (w : World) (hfit : FitMM m) (hm : ModelAt w w.heap.size cs m) : Calls Tryz.prog 8 #[.agg ⟨cs⟩] w (OwnMP m w) := by
  obtain ⟨⟨v1, v2, v3, v4, v5, rfl, h1, h2, h3, h4, h5⟩, hwf⟩ := hm
  obtain ⟨-, A1, c1, rfl, -⟩ := id h1
  obtain ⟨-, A2, c2, rfl, -⟩ := id h2
  obtain ⟨-, A3, c3, rfl, -⟩ := id h3
  obtain ⟨-, A4, c4, rfl, -⟩ := id h4
  obtain ⟨-, A5, c5, rfl, -⟩ := id h5
  have HWF := Lib.hid hwf
  have HFT := Lib.hid hfit
  have H1 := Lib.hid h1
  have H2 := Lib.hid h2
  have H3 := Lib.hid h3
  have H4 := Lib.hid h4
  have H5 := Lib.hid h5
  clear hwf hfit h1 h2 h3 h4 h5
  go_enter Tryz.func8, Tryz.ntmps8
  go_upto_region 1 with (fail)
  have HST := Lib.hid (two2_start 27 6 w [.int .i64 m.labels, .slice A1 m.order.length c1, .slice A2 m.grants.length c2, .slice A3 m.vars.length c3, .slice A4 m.msgs.length c4, .slice A5 m.nodes.length c5] [.int .i64 0, .slice none 0 0, .slice none 0 0, .slice none 0 0, .slice none 0 0, .slice none 0 0] rfl)
  generalize ((w.alloc (.cells ⟨[.int .i64 m.labels, .slice A1 m.order.length c1, .slice A2 m.grants.length c2, .slice A3 m.vars.length c3, .slice A4 m.msgs.length c4, .slice A5 m.nodes.length c5]⟩ 27)).alloc (.cells ⟨[.int .i64 0, .slice none 0 0, .slice none 0 0, .slice none 0 0, .slice none 0 0, .slice none 0 0]⟩ 27)) = W0 at *
  obtain ⟨mb, hm⟩ : ∃ m, w.heap.size + 2 = m := ⟨_, rfl⟩
  obtain ⟨q, hq⟩ : ∃ q, w.heap.size + 1 = q := ⟨_, rfl⟩
  obtain ⟨p, hp⟩ : ∃ p, w.heap.size = p := ⟨_, rfl⟩
  rw [hm, hq] at HST
  have HT0 : Hid (Two2 27 6 w W0 p q mb [.int .i64 m.labels, .slice A1 m.order.length c1, .slice A2 m.grants.length c2, .slice A3 m.vars.length c3, .slice A4 m.msgs.length c4, .slice A5 m.nodes.length c5]) := Lib.hid (hp ▸ HST.out)
  have HMP : Hid (w.heap.size ≤ mb) := Lib.hid (by omega)
  rw [hq, hp]
  clear HST hq hm hp
  refine wp_region_ord3 7 [(0, 0), (1, 1), (3, 0), (4, 1), (2, 2), (6, 0), (5, 2), (7, 3), (8, 0), (9, 3)] (fun z => Below W0.heap.size W0 z) (by kernel_rfl) (by intro c a d v w h; cases d <;> exact h) (Below.refl _ _).drew ?_
  have hs : Below W0.heap.size W0 W0.drew := (Below.refl _ _).drew
  have HTZ : Hid (∀ z, Below W0.heap.size W0 z → Two2 27 6 w z p q mb [.int .i64 m.labels, .slice A1 m.order.length c1, .slice A2 m.grants.length c2, .slice A3 m.vars.length c3, .slice A4 m.msgs.length c4, .slice A5 m.nodes.length c5]) := Lib.hid fun z hz => HT0.out.below hz
  refine o3_pure 10 (.pointer (some ⟨p, 1, none⟩)) rfl rfl (by exact wantA rfl) (fun z => by go_simp) ?_
  go_frame
  refine o3_load 11 (.slice A1 m.order.length c1) rfl rfl (by exact wantA rfl) hs (fun z hz => by have d8 := ((HTZ.out z hz).at 1 rfl).1; clear hz; go_simp) ?_
  go_frame
  refine o3_pure 13 (.pointer (some ⟨p, 2, none⟩)) rfl rfl (by exact wantA rfl) (fun z => by go_simp) ?_
  go_frame
  refine o3_load 14 (.slice A2 m.grants.length c2) rfl rfl (by exact wantA rfl) hs (fun z hz => by have d8 := ((HTZ.out z hz).at 2 rfl).1; clear hz; go_simp) ?_
  go_frame
  refine o3_call 12 28 Tryz.func28 (by kernel_rfl) (by kernel_rfl) [.slice A1 m.order.length c1] rfl rfl rfl (by exact wantA rfl) rfl ?_
  refine (mclone_pair PairR m.order _ _ ((H1.out.below (HT0.out.bel.trans ((hs).mono HT0.out.bel.size)) fun _ _ _ h => h).more (HT0.out.bel.trans ((hs).mono HT0.out.bel.size)).size) HFT.out.order pair_oneM).mono ?_
  rintro e z1 ⟨v1, K1, rfl, hl1, hr1, ho1, hb1⟩
  have R1 := Lib.hid (Row5.of hl1 hr1 ho1)
  have HZ1 := Lib.hid hb1
  obtain ⟨B1, d1, rfl⟩ := R1.out.shape
  have hs1 : Below W0.heap.size W0 z1 := (hs).trans (hb1.mono (hs).size)
  clear hl1 hr1 ho1 hb1
  refine ⟨_, rfl, hs1, ?_⟩
  go_frame
  refine o3_pure 16 (.pointer (some ⟨p, 1, none⟩)) rfl rfl (by exact wantA rfl) (fun z => by go_simp) ?_
  go_frame
  refine o3_call 15 28 Tryz.func28 (by kernel_rfl) (by kernel_rfl) [.slice A2 m.grants.length c2] rfl rfl rfl (by exact wantA rfl) rfl ?_
  refine (mclone_pair PairR m.grants _ _ ((H2.out.below (HT0.out.bel.trans ((hs1).mono HT0.out.bel.size)) fun _ _ _ h => h).more (HT0.out.bel.trans ((hs1).mono HT0.out.bel.size)).size) HFT.out.grants pair_oneM).mono ?_
  rintro e z2 ⟨v2, K2, rfl, hl2, hr2, ho2, hb2⟩
  have R2 := Lib.hid (Row5.of hl2 hr2 ho2)
  have HZ2 := Lib.hid hb2
  obtain ⟨B2, d2, rfl⟩ := R2.out.shape
  have hs2 : Below W0.heap.size W0 z2 := (hs1).trans (hb2.mono (hs1).size)
  clear hl2 hr2 ho2 hb2
  refine ⟨_, rfl, hs2, ?_⟩
  go_frame
  have HTW01 := Lib.hid (HT0.out.below hs2)
  have HS1 := Lib.hid hs1
  have HS2 := Lib.hid hs2
  clear hs1 hs2
  have d8 := (HTW01.out.at 1 rfl).1
  have f8 := (HTW01.out.at 1 rfl).2
  refine o3_store (z2.setCell ⟨p, 1, none⟩ (.slice B1 m.order.length d1)) rfl rfl (by exact wantA rfl) (by go_simp) ?_
  clear d8 f8
  have HTS1 : Hid (Two2 27 6 w (z2.setCell ⟨p, 1, none⟩ (.slice B1 m.order.length d1)) p q mb [.int .i64 m.labels, .slice B1 m.order.length d1, .slice A2 m.grants.length c2, .slice A3 m.vars.length c3, .slice A4 m.msgs.length c4, .slice A5 m.nodes.length c5]) := Lib.hid (HTW01.out.put 1 (.slice B1 m.order.length d1))
  have HSZ1 : Hid ((z2.setCell ⟨p, 1, none⟩ (.slice B1 m.order.length d1)).heap.size = z2.heap.size) := Lib.hid (by simp [World.setCell])
  have HBL1 : Hid (∀ b, b ≠ p → (z2.setCell ⟨p, 1, none⟩ (.slice B1 m.order.length d1)).heap[b]? = z2.heap[b]?) := Lib.hid fun b hb => Below.heap_setCell z2 ⟨p, 1, none⟩ _ b hb
  generalize z2.setCell ⟨p, 1, none⟩ (.slice B1 m.order.length d1) = y1 at *
  refine o3_pure 17 (.pointer (some ⟨p, 2, none⟩)) rfl rfl (by exact wantA rfl) (fun z => by go_simp) ?_
  go_frame
  have d8 := (HTS1.out.at 2 rfl).1
  have f8 := (HTS1.out.at 2 rfl).2
  refine o3_store (y1.setCell ⟨p, 2, none⟩ (.slice B2 m.grants.length d2)) rfl rfl (by exact wantA rfl) (by go_simp) ?_
  clear d8 f8
  have HTS2 : Hid (Two2 27 6 w (y1.setCell ⟨p, 2, none⟩ (.slice B2 m.grants.length d2)) p q mb [.int .i64 m.labels, .slice B1 m.order.length d1, .slice B2 m.grants.length d2, .slice A3 m.vars.length c3, .slice A4 m.msgs.length c4, .slice A5 m.nodes.length c5]) := Lib.hid (HTS1.out.put 2 (.slice B2 m.grants.length d2))
  have HSZ2 : Hid ((y1.setCell ⟨p, 2, none⟩ (.slice B2 m.grants.length d2)).heap.size = y1.heap.size) := Lib.hid (by simp [World.setCell])
  have HBL2 : Hid (∀ b, b ≠ p → (y1.setCell ⟨p, 2, none⟩ (.slice B2 m.grants.length d2)).heap[b]? = y1.heap[b]?) := Lib.hid fun b hb => Below.heap_setCell y1 ⟨p, 2, none⟩ _ b hb
  generalize y1.setCell ⟨p, 2, none⟩ (.slice B2 m.grants.length d2) = y2 at *
  refine o3_end ?_
  have HYBy2 : Hid (∀ b, b ≠ p → y2.heap[b]? = z2.heap[b]?) := Lib.hid fun b hb => (HBL2.out b hb).trans (HBL1.out b hb)
  have HYSy2 : Hid (y2.heap.size = z2.heap.size) := Lib.hid (by rw [HSZ2.out]; rw [HSZ1.out])
  have HW1 : Hid (Below z1.heap.size z1 z2) := Lib.hid (HZ2.out)
  have HR1 : Hid (Row5 61 2 W0.drew.heap.size z1.heap.size PairR y2 (.slice B1 m.order.length d1) m.order K1) := Lib.hid (by
    have hlo := HT0.out.pm
    have hmw := HT0.out.mw
    have hdr : W0.drew.heap.size = W0.heap.size := rfl
    exact R1.out.step fun b h1 h2 => (HYBy2.out b (by omega)).trans (HW1.out.block b h2))
  have HW2 : Hid (Below z2.heap.size z2 z2) := Lib.hid (Below.refl _ _)
  have HR2 : Hid (Row5 61 2 z1.heap.size z2.heap.size PairR y2 (.slice B2 m.grants.length d2) m.grants K2) := Lib.hid (by
    have hlo := HT0.out.pm
    have hmw := HT0.out.mw
    have hsz := HS1.out.size
    exact R2.out.step fun b h1 h2 => (HYBy2.out b (by omega)).trans (HW2.out.block b h2))
  have HSS : Hid (W0.heap.size ≤ z1.heap.size ∧ z1.heap.size ≤ z2.heap.size) := Lib.hid ⟨HS1.out.size, HZ2.out.size⟩
  clear HTZ R1 R2 HTW01 HTS1 HSZ1 HSZ2 HBL1 HBL2 HW1 HW2 HS1 HS2 HZ1 HZ2 HYBy2
  go_upto_region 2 with (fail)
  refine wp_region_ord3 10 [(0, 0), (1, 1), (3, 0), (4, 1), (6, 0), (7, 1), (2, 2), (9, 0), (5, 2), (8, 2), (10, 3), (11, 0), (12, 3), (13, 0), (14, 3)] (fun z => Below y2.heap.size y2 z) (by kernel_rfl) (by intro c a d v w h; cases d <;> exact h) (Below.refl _ _).drew ?_
  have hs : Below y2.heap.size y2 y2.drew := (Below.refl _ _).drew
  have HTZ : Hid (∀ z, Below y2.heap.size y2 z → Two2 27 6 w z p q mb [.int .i64 m.labels, .slice B1 m.order.length d1, .slice B2 m.grants.length d2, .slice A3 m.vars.length c3, .slice A4 m.msgs.length c4, .slice A5 m.nodes.length c5]) := Lib.hid fun z hz => HTS2.out.below hz
  refine o3_pure 18 (.pointer (some ⟨p, 3, none⟩)) rfl rfl (by exact wantA rfl) (fun z => by go_simp) ?_
  go_frame
  refine o3_load 19 (.slice A3 m.vars.length c3) rfl rfl (by exact wantA rfl) hs (fun z hz => by have d8 := ((HTZ.out z hz).at 3 rfl).1; clear hz; go_simp) ?_
  go_frame
  refine o3_pure 21 (.pointer (some ⟨p, 4, none⟩)) rfl rfl (by exact wantA rfl) (fun z => by go_simp) ?_
  go_frame
  refine o3_load 22 (.slice A4 m.msgs.length c4) rfl rfl (by exact wantA rfl) hs (fun z hz => by have d8 := ((HTZ.out z hz).at 4 rfl).1; clear hz; go_simp) ?_
  go_frame
  refine o3_pure 24 (.pointer (some ⟨p, 5, none⟩)) rfl rfl (by exact wantA rfl) (fun z => by go_simp) ?_
  go_frame
  refine o3_load 25 (.slice A5 m.nodes.length c5) rfl rfl (by exact wantA rfl) hs (fun z hz => by have d8 := ((HTZ.out z hz).at 5 rfl).1; clear hz; go_simp) ?_
  go_frame
  refine o3_call 20 29 Tryz.func29 (by kernel_rfl) (by kernel_rfl) [.slice A3 m.vars.length c3] rfl rfl rfl (by exact wantA rfl) rfl ?_
  refine (mclone_var (VarAt w w.heap.size) m.vars _ _ ((H3.out.below (HTS2.out.bel.trans ((hs).mono HTS2.out.bel.size)) fun _ _ _ h => h).more (HTS2.out.bel.trans ((hs).mono HTS2.out.bel.size)).size) HFT.out.vars (fun _ _ h => VarAt.one h)).mono ?_
  rintro e z3 ⟨v3, K3, rfl, hl3, hr3, ho3, hb3⟩
  have R3 := Lib.hid (Row5.of hl3 hr3 ho3)
  have HZ3 := Lib.hid hb3
  obtain ⟨B3, d3, rfl⟩ := R3.out.shape
  have hs3 : Below y2.heap.size y2 z3 := (hs).trans (hb3.mono (hs).size)
  clear hl3 hr3 ho3 hb3
  refine ⟨_, rfl, hs3, ?_⟩
  go_frame
  refine o3_pure 27 (.pointer (some ⟨p, 3, none⟩)) rfl rfl (by exact wantA rfl) (fun z => by go_simp) ?_
  go_frame
  refine o3_call 23 30 Tryz.func30 (by kernel_rfl) (by kernel_rfl) [.slice A4 m.msgs.length c4] rfl rfl rfl (by exact wantA rfl) rfl ?_
  refine (mclone_msg (MsgAt w w.heap.size) m.msgs _ _ ((H4.out.below (HTS2.out.bel.trans ((hs3).mono HTS2.out.bel.size)) fun _ _ _ h => h).more (HTS2.out.bel.trans ((hs3).mono HTS2.out.bel.size)).size) HFT.out.msgs (fun _ _ h => MsgAt.one h)).mono ?_
  rintro e z4 ⟨v4, K4, rfl, hl4, hr4, ho4, hb4⟩
  have R4 := Lib.hid (Row5.of hl4 hr4 ho4)
  have HZ4 := Lib.hid hb4
  obtain ⟨B4, d4, rfl⟩ := R4.out.shape
  have hs4 : Below y2.heap.size y2 z4 := (hs3).trans (hb4.mono (hs3).size)
  clear hl4 hr4 ho4 hb4
  refine ⟨_, rfl, hs4, ?_⟩
  go_frame
  refine o3_call 26 31 Tryz.func31 (by kernel_rfl) (by kernel_rfl) [.slice A5 m.nodes.length c5] rfl rfl rfl (by exact wantA rfl) rfl ?_
  refine (mclone_node (NodeAt w w.heap.size) m.nodes _ _ ((H5.out.below (HTS2.out.bel.trans ((hs4).mono HTS2.out.bel.size)) fun _ _ _ h => h).more (HTS2.out.bel.trans ((hs4).mono HTS2.out.bel.size)).size) HFT.out.nodes (fun _ _ h => NodeAt.one h)).mono ?_
  rintro e z5 ⟨v5, K5, rfl, hl5, hr5, ho5, hb5⟩
  have R5 := Lib.hid (Row5.of hl5 hr5 ho5)
  have HZ5 := Lib.hid hb5
  obtain ⟨B5, d5, rfl⟩ := R5.out.shape
  have hs5 : Below y2.heap.size y2 z5 := (hs4).trans (hb5.mono (hs4).size)
  clear hl5 hr5 ho5 hb5
  refine ⟨_, rfl, hs5, ?_⟩
  go_frame
  have HTy23 := Lib.hid (HTS2.out.below hs5)
  have HS3 := Lib.hid hs3
  have HS4 := Lib.hid hs4
  have HS5 := Lib.hid hs5
  clear hs3 hs4 hs5
  have d8 := (HTy23.out.at 3 rfl).1
  have f8 := (HTy23.out.at 3 rfl).2
  refine o3_store (z5.setCell ⟨p, 3, none⟩ (.slice B3 m.vars.length d3)) rfl rfl (by exact wantA rfl) (by go_simp) ?_
  clear d8 f8
  have HTS3 : Hid (Two2 27 6 w (z5.setCell ⟨p, 3, none⟩ (.slice B3 m.vars.length d3)) p q mb [.int .i64 m.labels, .slice B1 m.order.length d1, .slice B2 m.grants.length d2, .slice B3 m.vars.length d3, .slice A4 m.msgs.length c4, .slice A5 m.nodes.length c5]) := Lib.hid (HTy23.out.put 3 (.slice B3 m.vars.length d3))
  have HSZ3 : Hid ((z5.setCell ⟨p, 3, none⟩ (.slice B3 m.vars.length d3)).heap.size = z5.heap.size) := Lib.hid (by simp [World.setCell])
  have HBL3 : Hid (∀ b, b ≠ p → (z5.setCell ⟨p, 3, none⟩ (.slice B3 m.vars.length d3)).heap[b]? = z5.heap[b]?) := Lib.hid fun b hb => Below.heap_setCell z5 ⟨p, 3, none⟩ _ b hb
  generalize z5.setCell ⟨p, 3, none⟩ (.slice B3 m.vars.length d3) = y3 at *
  refine o3_pure 28 (.pointer (some ⟨p, 4, none⟩)) rfl rfl (by exact wantA rfl) (fun z => by go_simp) ?_
  go_frame
  have d8 := (HTS3.out.at 4 rfl).1
  have f8 := (HTS3.out.at 4 rfl).2
  refine o3_store (y3.setCell ⟨p, 4, none⟩ (.slice B4 m.msgs.length d4)) rfl rfl (by exact wantA rfl) (by go_simp) ?_
  clear d8 f8
  have HTS4 : Hid (Two2 27 6 w (y3.setCell ⟨p, 4, none⟩ (.slice B4 m.msgs.length d4)) p q mb [.int .i64 m.labels, .slice B1 m.order.length d1, .slice B2 m.grants.length d2, .slice B3 m.vars.length d3, .slice B4 m.msgs.length d4, .slice A5 m.nodes.length c5]) := Lib.hid (HTS3.out.put 4 (.slice B4 m.msgs.length d4))
  have HSZ4 : Hid ((y3.setCell ⟨p, 4, none⟩ (.slice B4 m.msgs.length d4)).heap.size = y3.heap.size) := Lib.hid (by simp [World.setCell])
  have HBL4 : Hid (∀ b, b ≠ p → (y3.setCell ⟨p, 4, none⟩ (.slice B4 m.msgs.length d4)).heap[b]? = y3.heap[b]?) := Lib.hid fun b hb => Below.heap_setCell y3 ⟨p, 4, none⟩ _ b hb
  generalize y3.setCell ⟨p, 4, none⟩ (.slice B4 m.msgs.length d4) = y4 at *
  refine o3_pure 29 (.pointer (some ⟨p, 5, none⟩)) rfl rfl (by exact wantA rfl) (fun z => by go_simp) ?_
  go_frame
  have d8 := (HTS4.out.at 5 rfl).1
  have f8 := (HTS4.out.at 5 rfl).2
  refine o3_store (y4.setCell ⟨p, 5, none⟩ (.slice B5 m.nodes.length d5)) rfl rfl (by exact wantA rfl) (by go_simp) ?_
  clear d8 f8
  have HTS5 : Hid (Two2 27 6 w (y4.setCell ⟨p, 5, none⟩ (.slice B5 m.nodes.length d5)) p q mb [.int .i64 m.labels, .slice B1 m.order.length d1, .slice B2 m.grants.length d2, .slice B3 m.vars.length d3, .slice B4 m.msgs.length d4, .slice B5 m.nodes.length d5]) := Lib.hid (HTS4.out.put 5 (.slice B5 m.nodes.length d5))
  have HSZ5 : Hid ((y4.setCell ⟨p, 5, none⟩ (.slice B5 m.nodes.length d5)).heap.size = y4.heap.size) := Lib.hid (by simp [World.setCell])
  have HBL5 : Hid (∀ b, b ≠ p → (y4.setCell ⟨p, 5, none⟩ (.slice B5 m.nodes.length d5)).heap[b]? = y4.heap[b]?) := Lib.hid fun b hb => Below.heap_setCell y4 ⟨p, 5, none⟩ _ b hb
  generalize y4.setCell ⟨p, 5, none⟩ (.slice B5 m.nodes.length d5) = y5 at *
  refine o3_end ?_
  have HYBy5 : Hid (∀ b, b ≠ p → y5.heap[b]? = z5.heap[b]?) := Lib.hid fun b hb => (HBL5.out b hb).trans ((HBL4.out b hb).trans (HBL3.out b hb))
  have HYSy5 : Hid (y5.heap.size = z5.heap.size) := Lib.hid (by rw [HSZ5.out]; rw [HSZ4.out]; rw [HSZ3.out])
  have HW3 : Hid (Below z3.heap.size z3 z5) := Lib.hid ((HZ4.out).trans (HZ5.out.mono (HZ4.out).size))
  have HR3 : Hid (Row5 47 11 y2.drew.heap.size z3.heap.size (VarAt w w.heap.size) y5 (.slice B3 m.vars.length d3) m.vars K3) := Lib.hid (by
    have hlo := HTS2.out.pm
    have hmw := HTS2.out.mw
    have hdr : y2.drew.heap.size = y2.heap.size := rfl
    exact R3.out.step fun b h1 h2 => (HYBy5.out b (by omega)).trans (HW3.out.block b h2))
  have HW4 : Hid (Below z4.heap.size z4 z5) := Lib.hid (HZ5.out)
  have HR4 : Hid (Row5 58 8 z3.heap.size z4.heap.size (MsgAt w w.heap.size) y5 (.slice B4 m.msgs.length d4) m.msgs K4) := Lib.hid (by
    have hlo := HTS2.out.pm
    have hmw := HTS2.out.mw
    have hsz := HS3.out.size
    exact R4.out.step fun b h1 h2 => (HYBy5.out b (by omega)).trans (HW4.out.block b h2))
  have HW5 : Hid (Below z5.heap.size z5 z5) := Lib.hid (Below.refl _ _)
  have HR5 : Hid (Row5 42 29 z4.heap.size z5.heap.size (NodeAt w w.heap.size) y5 (.slice B5 m.nodes.length d5) m.nodes K5) := Lib.hid (by
    have hlo := HTS2.out.pm
    have hmw := HTS2.out.mw
    have hsz := HS4.out.size
    exact R5.out.step fun b h1 h2 => (HYBy5.out b (by omega)).trans (HW5.out.block b h2))
  have HP5 : Hid (∀ b, b ≠ p → b < y2.heap.size → y5.heap[b]? = y2.heap[b]?) := Lib.hid fun b h1 h2 => (HYBy5.out b h1).trans (HS5.out.block b h2)
  obtain ⟨lo1, hi1, lo2, hi2, lo3, hi3, lo4, hi4, lo5, hi5, hnn, r1, r2, r3, r4, r5⟩ : ∃ lo1 hi1 lo2 hi2 lo3 hi3 lo4 hi4 lo5 hi5 : Nat, (mb ≤ lo1 ∧ lo1 ≤ hi1 ∧ hi1 ≤ lo2 ∧ lo2 ≤ hi2 ∧ hi2 ≤ lo3 ∧ lo3 ≤ hi3 ∧ hi3 ≤ lo4 ∧ lo4 ≤ hi4 ∧ hi4 ≤ lo5 ∧ lo5 ≤ hi5 ∧ hi5 ≤ y5.heap.size) ∧ Row5 61 2 lo1 hi1 PairR y5 (.slice B1 m.order.length d1) m.order K1 ∧ Row5 61 2 lo2 hi2 PairR y5 (.slice B2 m.grants.length d2) m.grants K2 ∧ Row5 47 11 lo3 hi3 (VarAt w w.heap.size) y5 (.slice B3 m.vars.length d3) m.vars K3 ∧ Row5 58 8 lo4 hi4 (MsgAt w w.heap.size) y5 (.slice B4 m.msgs.length d4) m.msgs K4 ∧ Row5 42 29 lo5 hi5 (NodeAt w w.heap.size) y5 (.slice B5 m.nodes.length d5) m.nodes K5 := by
    have g1 := HT0.out.mw
    have g2 := HSS.out
    have g3 := HYSy2.out
    have g4 := HZ3.out.size
    have g5 := HZ4.out.size
    have g6 := HZ5.out.size
    have g7 := HYSy5.out
    have g8 := HT0.out.pm
    have g9 : y2.drew.heap.size = y2.heap.size := rfl
    have g10 : W0.drew.heap.size = W0.heap.size := rfl
    refine ⟨W0.drew.heap.size, z1.heap.size, z1.heap.size, z2.heap.size, y2.drew.heap.size, z3.heap.size, z3.heap.size, z4.heap.size, z4.heap.size, z5.heap.size, by omega, HR1.out.step fun b h1 h2 => HP5.out b (by omega) (by omega), HR2.out.step fun b h1 h2 => HP5.out b (by omega) (by omega), HR3.out, HR4.out, HR5.out⟩
  have HN := Lib.hid hnn
  have H1R := Lib.hid r1
  have H2R := Lib.hid r2
  have H3R := Lib.hid r3
  have H4R := Lib.hid r4
  have H5R := Lib.hid r5
  have HT5 := Lib.hid HTS5.out
  clear hnn r1 r2 r3 r4 r5 HP5 HR1 HR2 HR3 HR4 HR5 HYBy5 HYSy5 HYSy2 HSS HS3 HS4 HS5 HZ3 HZ4 HZ5 HW3 HW4 HW5 HBL3 HBL4 HBL5 HSZ3 HSZ4 HSZ5 HTS2 HTS3 HTS4 HTS5 HTy23 HTZ R3 R4 R5 HT0
  have HSY : Hid (y5.heap.size ≤ y5.heap.size) := Lib.hid (Nat.le_refl _)
  have q3 := (HT5.out.at 3 rfl).1
  go_wp2
  clear q3
  go_loopg [33] m.vars.length (fun g i u => ∃ (j : Nat) (KL : List (CellsK 11)), j + g = m.vars.length ∧ i = .int .i64 j ∧ MidR 47 11 lo3 varN (VarAt w w.heap.size) y5 u (.slice B3 m.vars.length d3) m.vars j j KL)
  case atStart => exact ⟨0, _, by omega, rfl, H3R.out.mid⟩
  case round =>
    obtain ⟨j, KL, hj, rfl, hI⟩ := hrel
    have HI := Lib.hid hI
    clear hI
    obtain ⟨U3, hU⟩ : ∃ z, z = wr := ⟨_, rfl⟩
    subst hU
    have hln : m.vars.length ≤ 1000 := HFT.out.vars
    have HTU3 := Lib.hid (HT5.out.grow HI.out.bel (fun b hb => Nat.le_trans (by have := HN.out; omega : mb ≤ lo3) (World.ownsRow.lt HI.out.own b hb).1) HMP.out)
    cases gk with
    | succ g =>
      have hlt : (j : Int) < (m.vars.length : Int) := by omega
      have hj0 : (0 : Int) ≤ (j : Int) := by omega
      obtain ⟨x, hx⟩ : ∃ x, m.vars[j]? = some x := ⟨_, List.getElem?_eq_getElem (by omega)⟩
      obtain ⟨q1, hq1⟩ := HI.out.elem hx
      obtain ⟨gb, cap, hv, hgb, hgt⟩ := HI.out.form (by omega)
      injection hv with hv1 _ hv2
      subst hv1 hv2
      obtain ⟨⟨ct, ci, he, hct, hci, hty, hin⟩, hnm, hlb⟩ := HI.out.old j q1 x (Nat.le_refl _) hq1 hx
      have HQ := Lib.hid hq1
      have HX := Lib.hid hx
      have HE : Hid (q1.1 = [.string x.name, .int .i64 x.label] ++ (ct ++ (ci ++ []))) := Lib.hid (by rw [he]; simp)
      have HCT := Lib.hid hct
      have HCI := Lib.hid hci
      have HTY := Lib.hid hty
      have HIN := Lib.hid hin
      have HNL := Lib.hid (And.intro hnm hlb)
      have HG := Lib.hid (And.intro hgb hgt)
      have HE2 : Hid (q1.1 = ([.string x.name, .int .i64 x.label] ++ ct) ++ (ci ++ [])) := Lib.hid (by rw [HE.out, List.append_assoc])
      have HEL : Hid (([.string x.name, .int .i64 x.label] ++ ct : List Value).length = 5) := Lib.hid (by rw [List.length_append, HCT.out]; rfl)
      have HXM := Lib.hid (List.mem_of_getElem? HX.out)
      clear hx hq1 hgb hgt he hct hci hty hin hnm hlb
      have q3 := (HTU3.out.at 3 rfl).1
      go_upto_region 7 with (fail)
      clear q3
      refine wp_region_ord3 14 [(0, 0), (1, 0), (2, 0), (3, 0), (4, 0), (5, 1), (7, 0), (8, 0), (9, 0), (10, 1), (6, 2), (11, 2), (12, 0), (13, 0), (14, 3), (15, 0), (16, 0), (17, 3)] (fun z => Below U3.heap.size U3 z) (by kernel_rfl) (by intro c a d v w h; cases d <;> exact h) (Below.refl _ _).drew ?_
      have hs : Below U3.heap.size U3 U3.drew := (Below.refl _ _).drew
      have HMZ : Hid (∀ z, Below U3.heap.size U3 z → MidR 47 11 lo3 varN (VarAt w w.heap.size) y5 z (.slice (some ⟨gb, 0, none⟩) m.vars.length d3) m.vars j (j + 1) KL) := Lib.hid fun z hz => HI.out.into.below keeps_var hz
      refine o3_pure 40 (.pointer (some ⟨gb, j * 11, none⟩)) rfl rfl (by exact wantA rfl) (fun z => by go_simp) ?_
      go_frame
      refine o3_pure 41 (.pointer (some ⟨gb, j * 11, none⟩)) rfl rfl (by exact wantA rfl) (fun z => by go_simp) ?_
      go_frame
      refine o3_pure 42 (.pointer (some ⟨gb, j * 11, none⟩)) rfl rfl (by exact wantA rfl) (fun z => by go_simp) ?_
      go_frame
      refine o3_pure 43 (.pointer (some ⟨gb, j * 11, none⟩)) rfl rfl (by exact wantA rfl) (fun z => by go_simp) ?_
      go_frame
      refine o3_pure 44 (.pointer (some ⟨gb, j * 11 + 2, none⟩)) rfl rfl (by exact wantA rfl) (fun z => by go_simp) ?_
      go_frame
      refine o3_load 45 (.agg ⟨ct⟩) rfl rfl (by exact wantA rfl) hs (fun z hz => exec_sload 45 rfl gb (j * 11 + 2) ct _ rfl ((HMZ.out z hz).range HQ.out HE.out rfl).1 Tryz.underlying45 rfl (by rw [HCT.out]; kernel_rfl)) ?_
      go_frame
      refine o3_pure 47 (.pointer (some ⟨gb, j * 11, none⟩)) rfl rfl (by exact wantA rfl) (fun z => by go_simp) ?_
      go_frame
      refine o3_pure 48 (.pointer (some ⟨gb, j * 11, none⟩)) rfl rfl (by exact wantA rfl) (fun z => by go_simp) ?_
      go_frame
      refine o3_pure 49 (.pointer (some ⟨gb, j * 11 + 5, none⟩)) rfl rfl (by exact wantA rfl) (fun z => by go_simp) ?_
      go_frame
      refine o3_load 50 (.agg ⟨ci⟩) rfl rfl (by exact wantA rfl) hs (fun z hz => exec_sload 38 rfl gb (j * 11 + 5) ci _ rfl ((HMZ.out z hz).range HQ.out HE2.out HEL.out).1 Tryz.underlying38 rfl (by rw [HCI.out]; kernel_rfl)) ?_
      go_frame
      refine o3_call 46 32 Tryz.func32 (by kernel_rfl) (by kernel_rfl) [.agg ⟨ct⟩] rfl rfl rfl (by exact wantA rfl) rfl ?_
      refine (mownT_any x.type ct _ (HFT.out.var x HXM.out).1 ((HTY.out.under (HTU3.out.bel.trans ((hs).mono HTU3.out.bel.size))).more (HTU3.out.bel.trans ((hs).mono HTU3.out.bel.size)).size)).mono ?_
      rintro e z1 ⟨na, rfl, hka, hb1, hta⟩
      have hs1 : Below U3.heap.size U3 z1 := hs.trans (hb1.mono hs.size)
      refine ⟨_, rfl, hs1, ?_⟩
      go_frame
      refine o3_call 51 33 Tryz.func33 (by kernel_rfl) (by kernel_rfl) [.agg ⟨ci⟩] rfl rfl rfl (by exact wantA rfl) rfl ?_
      refine (canon_any x.init ci _ (HFT.out.var x HXM.out).2 ((HIN.out.under (HTU3.out.bel.trans ((hs1).mono HTU3.out.bel.size))).more (HTU3.out.bel.trans ((hs1).mono HTU3.out.bel.size)).size)).mono ?_
      rintro e z2 ⟨nb, rfl, hkb, hb2⟩
      have hs2 : Below U3.heap.size U3 z2 := hs1.trans (hb2.mono hs1.size)
      refine ⟨_, rfl, hs2, ?_⟩
      go_frame
      have hla := typ_lenM hka
      have hlb := val_lenM hkb
      have hoa := TypAt.one hka
      have hob := ValAt.one hkb
      obtain ⟨th1, th2, hfin⟩ := MidR.two (B' := na) (C' := nb) (j1 := 2) (j2 := 5) HI.out.into (by decide) keeps_var HQ.out HE.out rfl (by rw [HCT.out]) hs2 (by rw [hla, HCT.out]) (by rw [hlb, HCI.out])
      refine o3_pure 52 (.pointer (some ⟨gb, j * 11, none⟩)) rfl rfl (by exact wantA rfl) (fun z => by go_simp) ?_
      go_frame
      refine o3_pure 53 (.pointer (some ⟨gb, j * 11 + 2, none⟩)) rfl rfl (by exact wantA rfl) (fun z => by go_simp) ?_
      go_frame
      refine o3_sstore 45 rfl rfl rfl (by exact wantA rfl) gb (j * 11 + 2) na rfl rfl th1 (by rw [hla]; kernel_rfl) hoa ?_
      refine o3_pure 54 (.pointer (some ⟨gb, j * 11, none⟩)) rfl rfl (by exact wantA rfl) (fun z => by go_simp) ?_
      go_frame
      refine o3_pure 55 (.pointer (some ⟨gb, j * 11 + 5, none⟩)) rfl rfl (by exact wantA rfl) (fun z => by go_simp) ?_
      go_frame
      refine o3_sstore 38 rfl rfl rfl (by exact wantA rfl) gb (j * 11 + 5) nb rfl rfl th2 (by rw [hlb]; kernel_rfl) hob ?_
      obtain ⟨hy1, hy2, KL2, q2, hq2, he2, hM, hkl, hkd⟩ := hfin _ rfl
      clear hfin th1 th2
      generalize (z2.setCells gb (j * 11 + 2) na).setCells gb (j * 11 + 5) nb = Y at *
      refine o3_end ?_
      have HFIN := Lib.hid (hM.fin hq2 HX.out (by
        rw [he2]
        refine ⟨⟨⟨na, nb, by simp [canVar], hla, hlb, KeptT.to hka (fun b hp hlt => by
          have g1 : U3.heap.size ≤ b := Nat.le_trans (Nat.le_refl _) hp
          have g2 := HI.out.bel.size
          have g3 := HG.out.2
          exact ⟨by omega, (hy1 b (by omega)).trans (hb2.block b hlt)⟩) (by rw [hy2]; exact hb2.size), Kept.to hkb (fun b hp hlt => by
          have g1 : U3.heap.size ≤ b := Nat.le_trans hs1.size hp
          have g2 := HI.out.bel.size
          have g3 := HG.out.2
          exact ⟨by omega, (hy1 b (by omega)).trans rfl⟩) (by rw [hy2]; exact Nat.le_refl _)⟩, HNL.out.1, HNL.out.2⟩, fun v hv => (hta v (mid_at hv rfl (by rw [hla]; decide))).mono (only_toB (fun b hp hlt => by
          have g1 : U3.heap.size ≤ b := Nat.le_trans (Nat.le_refl _) hp
          have g2 := HI.out.bel.size
          have g3 := HG.out.2
          exact ⟨by omega, (hy1 b (by omega)).trans (hb2.block b hlt)⟩))⟩))
      clear hM hkl hkd hq2 he2 hka hkb hla hlb hoa hob hb1 hb2 hs hs1 hs2 hy1 hy2 HMZ HQ HX HE HE2 HEL HCT HCI HTY HIN HNL HXM hta
      go_wp2
      go_roundg g
      case measure => omega
      case rel => exact ⟨j + 1, _, by omega, by go_num, HFIN.out⟩
    | zero =>
      obtain rfl : j = m.vars.length := by omega
      have hge : ¬ ((m.vars.length : Int) < (m.vars.length : Int)) := by omega
      have HO3 : Hid (∀ b, some b = ((.slice B3 m.vars.length d3) : Value).ownBlock → lo3 ≤ b ∧ b < hi3) := Lib.hid fun b hb => ⟨(World.ownsRow.lt H3R.out.own b hb.symm).1, H3R.out.top b hb.symm⟩
      have HSL3 : Hid (SlAt (only U3 fun b => (lo3 ≤ b ∧ b < hi3) ∨ y5.heap.size ≤ b) U3.heap.size 11 (varN (only U3 fun b => (lo3 ≤ b ∧ b < hi3) ∨ y5.heap.size ≤ b) U3.heap.size) (.slice B3 m.vars.length d3) m.vars) := Lib.hid (HI.out.done (Nat.le_refl _) keeps_var (by omega) _ fun b hb => hb.imp (HO3.out b) id)
      have HBW3 : Hid (∀ b, b < y5.heap.size → ¬ (lo3 ≤ b ∧ b < hi3) → U3.heap[b]? = y5.heap[b]?) := Lib.hid fun b h1 h2 => HI.out.bel.block b h1 fun e => h2 (HO3.out b e)
      have HSZ3 : Hid (y5.heap.size ≤ U3.heap.size) := Lib.hid HI.out.bel.size
      have HOW3 := Lib.hid HI.out.own
      have H1R3 := Lib.hid (H1R.out.step (u' := U3) fun b h1 h2 => by
        have g := HN.out
        have g2 := HSY.out
        exact HBW3.out b (by omega) (by omega))
      have H2R3 := Lib.hid (H2R.out.step (u' := U3) fun b h1 h2 => by
        have g := HN.out
        have g2 := HSY.out
        exact HBW3.out b (by omega) (by omega))
      have H4R3 := Lib.hid (H4R.out.step (u' := U3) fun b h1 h2 => by
        have g := HN.out
        have g2 := HSY.out
        exact HBW3.out b (by omega) (by omega))
      have H5R3 := Lib.hid (H5R.out.step (u' := U3) fun b h1 h2 => by
        have g := HN.out
        have g2 := HSY.out
        exact HBW3.out b (by omega) (by omega))
      have HSY3 : Hid (y5.heap.size ≤ U3.heap.size) := Lib.hid HSZ3.out
      clear hj HI HT5 H1R H2R H3R H4R H5R
      have q3 := (HTU3.out.at 4 rfl).1
      go_wp2
      clear q3
      go_loopg [60] m.msgs.length (fun g i u => ∃ (j : Nat) (KL : List (CellsK 8)), j + g = m.msgs.length ∧ i = .int .i64 j ∧ MidR 58 8 lo4 MsgAt (MsgAt w w.heap.size) U3 u (.slice B4 m.msgs.length d4) m.msgs j j KL)
      case atStart => exact ⟨0, _, by omega, rfl, H4R3.out.mid⟩
      case round =>
        obtain ⟨j, KL, hj, rfl, hI⟩ := hrel
        have HI := Lib.hid hI
        clear hI
        obtain ⟨U4, hU⟩ : ∃ z, z = wr := ⟨_, rfl⟩
        subst hU
        have hln : m.msgs.length ≤ 1000 := HFT.out.msgs
        have HTU4 := Lib.hid (HTU3.out.grow HI.out.bel (fun b hb => Nat.le_trans (by have := HN.out; omega : mb ≤ lo4) (World.ownsRow.lt HI.out.own b hb).1) HMP.out)
        cases gk with
        | succ g =>
          have hlt : (j : Int) < (m.msgs.length : Int) := by omega
          have hj0 : (0 : Int) ≤ (j : Int) := by omega
          obtain ⟨x, hx⟩ : ∃ x, m.msgs[j]? = some x := ⟨_, List.getElem?_eq_getElem (by omega)⟩
          obtain ⟨q1, hq1⟩ := HI.out.elem hx
          obtain ⟨gb, cap, hv, hgb, hgt⟩ := HI.out.form (by omega)
          injection hv with hv1 _ hv2
          subst hv1 hv2
          obtain ⟨⟨ct, ci, he, hct, hci, hty, hin⟩, hnm, hlb⟩ := HI.out.old j q1 x (Nat.le_refl _) hq1 hx
          have HQ := Lib.hid hq1
          have HX := Lib.hid hx
          have HE : Hid (q1.1 = [.string x.name, .int .i64 x.label] ++ (ct ++ (ci ++ []))) := Lib.hid (by rw [he]; simp)
          have HCT := Lib.hid hct
          have HCI := Lib.hid hci
          have HTY := Lib.hid hty
          have HIN := Lib.hid hin
          have HNL := Lib.hid (And.intro hnm hlb)
          have HG := Lib.hid (And.intro hgb hgt)
          have HE2 : Hid (q1.1 = ([.string x.name, .int .i64 x.label] ++ ct) ++ (ci ++ [])) := Lib.hid (by rw [HE.out, List.append_assoc])
          have HEL : Hid (([.string x.name, .int .i64 x.label] ++ ct : List Value).length = 5) := Lib.hid (by rw [List.length_append, HCT.out]; rfl)
          have HXM := Lib.hid (List.mem_of_getElem? HX.out)
          clear hx hq1 hgb hgt he hct hci hty hin hnm hlb
          have q3 := (HTU4.out.at 4 rfl).1
          go_upto_region 13 with (fail)
          clear q3
          refine wp_region_ord3 14 [(0, 0), (1, 0), (2, 0), (3, 0), (4, 0), (5, 1), (7, 0), (8, 0), (9, 0), (10, 1), (6, 2), (11, 2), (12, 0), (13, 0), (14, 3), (15, 0), (16, 0), (17, 3)] (fun z => Below U4.heap.size U4 z) (by kernel_rfl) (by intro c a d v w h; cases d <;> exact h) (Below.refl _ _).drew ?_
          have hs : Below U4.heap.size U4 U4.drew := (Below.refl _ _).drew
          have HMZ : Hid (∀ z, Below U4.heap.size U4 z → MidR 58 8 lo4 MsgAt (MsgAt w w.heap.size) U3 z (.slice (some ⟨gb, 0, none⟩) m.msgs.length d4) m.msgs j (j + 1) KL) := Lib.hid fun z hz => HI.out.into.below keeps_msg hz
          refine o3_pure 67 (.pointer (some ⟨gb, j * 8, none⟩)) rfl rfl (by exact wantA rfl) (fun z => by go_simp) ?_
          go_frame
          refine o3_pure 68 (.pointer (some ⟨gb, j * 8, none⟩)) rfl rfl (by exact wantA rfl) (fun z => by go_simp) ?_
          go_frame
          refine o3_pure 69 (.pointer (some ⟨gb, j * 8, none⟩)) rfl rfl (by exact wantA rfl) (fun z => by go_simp) ?_
          go_frame
          refine o3_pure 70 (.pointer (some ⟨gb, j * 8, none⟩)) rfl rfl (by exact wantA rfl) (fun z => by go_simp) ?_
          go_frame
          refine o3_pure 71 (.pointer (some ⟨gb, j * 8 + 2, none⟩)) rfl rfl (by exact wantA rfl) (fun z => by go_simp) ?_
          go_frame
          refine o3_load 72 (.agg ⟨ct⟩) rfl rfl (by exact wantA rfl) hs (fun z hz => exec_sload 45 rfl gb (j * 8 + 2) ct _ rfl ((HMZ.out z hz).range HQ.out HE.out rfl).1 Tryz.underlying45 rfl (by rw [HCT.out]; kernel_rfl)) ?_
          go_frame
          refine o3_pure 74 (.pointer (some ⟨gb, j * 8, none⟩)) rfl rfl (by exact wantA rfl) (fun z => by go_simp) ?_
          go_frame
          refine o3_pure 75 (.pointer (some ⟨gb, j * 8, none⟩)) rfl rfl (by exact wantA rfl) (fun z => by go_simp) ?_
          go_frame
          refine o3_pure 76 (.pointer (some ⟨gb, j * 8 + 5, none⟩)) rfl rfl (by exact wantA rfl) (fun z => by go_simp) ?_
          go_frame
          refine o3_load 77 (.agg ⟨ci⟩) rfl rfl (by exact wantA rfl) hs (fun z hz => exec_sload 45 rfl gb (j * 8 + 5) ci _ rfl ((HMZ.out z hz).range HQ.out HE2.out HEL.out).1 Tryz.underlying45 rfl (by rw [HCI.out]; kernel_rfl)) ?_
          go_frame
          refine o3_call 73 32 Tryz.func32 (by kernel_rfl) (by kernel_rfl) [.agg ⟨ct⟩] rfl rfl rfl (by exact wantA rfl) rfl ?_
          refine (mownT_any x.key ct _ (HFT.out.msg x HXM.out).1 ((HTY.out.under (HTU4.out.bel.trans ((hs).mono HTU4.out.bel.size))).more (HTU4.out.bel.trans ((hs).mono HTU4.out.bel.size)).size)).mono ?_
          rintro e z1 ⟨na, rfl, hka, hb1, -⟩
          have hs1 : Below U4.heap.size U4 z1 := hs.trans (hb1.mono hs.size)
          refine ⟨_, rfl, hs1, ?_⟩
          go_frame
          refine o3_call 78 32 Tryz.func32 (by kernel_rfl) (by kernel_rfl) [.agg ⟨ci⟩] rfl rfl rfl (by exact wantA rfl) rfl ?_
          refine (mownT_any x.body ci _ (HFT.out.msg x HXM.out).2 ((HIN.out.under (HTU4.out.bel.trans ((hs1).mono HTU4.out.bel.size))).more (HTU4.out.bel.trans ((hs1).mono HTU4.out.bel.size)).size)).mono ?_
          rintro e z2 ⟨nb, rfl, hkb, hb2, -⟩
          have hs2 : Below U4.heap.size U4 z2 := hs1.trans (hb2.mono hs1.size)
          refine ⟨_, rfl, hs2, ?_⟩
          go_frame
          have hla := typ_lenM hka
          have hlb := typ_lenM hkb
          have hoa := TypAt.one hka
          have hob := TypAt.one hkb
          obtain ⟨th1, th2, hfin⟩ := MidR.two (B' := na) (C' := nb) (j1 := 2) (j2 := 5) HI.out.into (by decide) keeps_msg HQ.out HE.out rfl (by rw [HCT.out]) hs2 (by rw [hla, HCT.out]) (by rw [hlb, HCI.out])
          refine o3_pure 79 (.pointer (some ⟨gb, j * 8, none⟩)) rfl rfl (by exact wantA rfl) (fun z => by go_simp) ?_
          go_frame
          refine o3_pure 80 (.pointer (some ⟨gb, j * 8 + 2, none⟩)) rfl rfl (by exact wantA rfl) (fun z => by go_simp) ?_
          go_frame
          refine o3_sstore 45 rfl rfl rfl (by exact wantA rfl) gb (j * 8 + 2) na rfl rfl th1 (by rw [hla]; kernel_rfl) hoa ?_
          refine o3_pure 81 (.pointer (some ⟨gb, j * 8, none⟩)) rfl rfl (by exact wantA rfl) (fun z => by go_simp) ?_
          go_frame
          refine o3_pure 82 (.pointer (some ⟨gb, j * 8 + 5, none⟩)) rfl rfl (by exact wantA rfl) (fun z => by go_simp) ?_
          go_frame
          refine o3_sstore 45 rfl rfl rfl (by exact wantA rfl) gb (j * 8 + 5) nb rfl rfl th2 (by rw [hlb]; kernel_rfl) hob ?_
          obtain ⟨hy1, hy2, KL2, q2, hq2, he2, hM, hkl, hkd⟩ := hfin _ rfl
          clear hfin th1 th2
          generalize (z2.setCells gb (j * 8 + 2) na).setCells gb (j * 8 + 5) nb = Y at *
          refine o3_end ?_
          have HFIN := Lib.hid (hM.fin hq2 HX.out (by
            rw [he2]
            refine ⟨⟨na, nb, by simp, hla, hlb, KeptT.to hka (fun b hp hlt => by
              have g1 : U4.heap.size ≤ b := Nat.le_trans (Nat.le_refl _) hp
              have g2 := HI.out.bel.size
              have g3 := HG.out.2
              exact ⟨by omega, (hy1 b (by omega)).trans (hb2.block b hlt)⟩) (by rw [hy2]; exact hb2.size), KeptT.to hkb (fun b hp hlt => by
              have g1 : U4.heap.size ≤ b := Nat.le_trans hs1.size hp
              have g2 := HI.out.bel.size
              have g3 := HG.out.2
              exact ⟨by omega, (hy1 b (by omega)).trans rfl⟩) (by rw [hy2]; exact Nat.le_refl _)⟩, HNL.out.1, HNL.out.2⟩))
          clear hM hkl hkd hq2 he2 hka hkb hla hlb hoa hob hb1 hb2 hs hs1 hs2 hy1 hy2 HMZ HQ HX HE HE2 HEL HCT HCI HTY HIN HNL HXM
          go_wp2
          go_roundg g
          case measure => omega
          case rel => exact ⟨j + 1, _, by omega, by go_num, HFIN.out⟩
        | zero =>
          obtain rfl : j = m.msgs.length := by omega
          have hge : ¬ ((m.msgs.length : Int) < (m.msgs.length : Int)) := by omega
          have HO4 : Hid (∀ b, some b = ((.slice B4 m.msgs.length d4) : Value).ownBlock → lo4 ≤ b ∧ b < hi4) := Lib.hid fun b hb => ⟨(World.ownsRow.lt H4R3.out.own b hb.symm).1, H4R3.out.top b hb.symm⟩
          have HSL4 : Hid (SlAt (only U4 fun b => (lo4 ≤ b ∧ b < hi4) ∨ U3.heap.size ≤ b) U4.heap.size 8 (MsgAt (only U4 fun b => (lo4 ≤ b ∧ b < hi4) ∨ U3.heap.size ≤ b) U4.heap.size) (.slice B4 m.msgs.length d4) m.msgs) := Lib.hid (HI.out.done (Nat.le_refl _) keeps_msg (by omega) _ fun b hb => hb.imp (HO4.out b) id)
          have HBW4 : Hid (∀ b, b < U3.heap.size → ¬ (lo4 ≤ b ∧ b < hi4) → U4.heap[b]? = U3.heap[b]?) := Lib.hid fun b h1 h2 => HI.out.bel.block b h1 fun e => h2 (HO4.out b e)
          have HSZ4 : Hid (U3.heap.size ≤ U4.heap.size) := Lib.hid HI.out.bel.size
          have HOW4 := Lib.hid HI.out.own
          have H1R4 := Lib.hid (H1R3.out.step (u' := U4) fun b h1 h2 => by
            have g := HN.out
            have g2 := HSY3.out
            exact HBW4.out b (by omega) (by omega))
          have H2R4 := Lib.hid (H2R3.out.step (u' := U4) fun b h1 h2 => by
            have g := HN.out
            have g2 := HSY3.out
            exact HBW4.out b (by omega) (by omega))
          have H5R4 := Lib.hid (H5R3.out.step (u' := U4) fun b h1 h2 => by
            have g := HN.out
            have g2 := HSY3.out
            exact HBW4.out b (by omega) (by omega))
          have HSY4 : Hid (y5.heap.size ≤ U4.heap.size) := Lib.hid (Nat.le_trans HSY3.out HSZ4.out)
          clear hj HI HTU3 H1R3 H2R3 H4R3 H5R3
          have q3 := (HTU4.out.at 5 rfl).1
          go_wp2
          clear q3
          go_loopg [87] m.nodes.length (fun g i u => ∃ (j : Nat) (KL : List (CellsK 29)), j + g = m.nodes.length ∧ i = .int .i64 j ∧ MidR 42 29 lo5 nodeN (NodeAt w w.heap.size) U4 u (.slice B5 m.nodes.length d5) m.nodes j j KL)
          case atStart => exact ⟨0, _, by omega, rfl, H5R4.out.mid⟩
          case round =>
            obtain ⟨j, KL, hj, rfl, hI⟩ := hrel
            have HI := Lib.hid hI
            clear hI
            obtain ⟨U5, hU⟩ : ∃ z, z = wr := ⟨_, rfl⟩
            subst hU
            have hln : m.nodes.length ≤ 1000 := HFT.out.nodes
            have HTU5 := Lib.hid (HTU4.out.grow HI.out.bel (fun b hb => Nat.le_trans (by have := HN.out; omega : mb ≤ lo5) (World.ownsRow.lt HI.out.own b hb).1) HMP.out)
            cases gk with
            | zero =>
              obtain rfl : j = m.nodes.length := by omega
              have hge : ¬ ((m.nodes.length : Int) < (m.nodes.length : Int)) := by omega
              have HO5 : Hid (∀ b, some b = (.slice B5 m.nodes.length d5 : Value).ownBlock → lo5 ≤ b ∧ b < hi5) := Lib.hid fun b hb => ⟨(World.ownsRow.lt H5R4.out.own b hb.symm).1, H5R4.out.top b hb.symm⟩
              have HSL5 : Hid (SlAt (only U5 fun b => (lo5 ≤ b ∧ b < hi5) ∨ U4.heap.size ≤ b) U5.heap.size 29 (nodeN (only U5 fun b => (lo5 ≤ b ∧ b < hi5) ∨ U4.heap.size ≤ b) U5.heap.size) (.slice B5 m.nodes.length d5) m.nodes) := Lib.hid (HI.out.done (Nat.le_refl _) keeps_node (by omega) _ fun b hb => hb.imp (HO5.out b) id)
              have HBW5 : Hid (∀ b, b < U4.heap.size → ¬ (lo5 ≤ b ∧ b < hi5) → U5.heap[b]? = U4.heap[b]?) := Lib.hid fun b h1 h2 => HI.out.bel.block b h1 fun e => h2 (HO5.out b e)
              have HSZ5 : Hid (U4.heap.size ≤ U5.heap.size) := Lib.hid HI.out.bel.size
              have HOW5 := Lib.hid HI.out.own
              obtain ⟨z0, hz0, hz1⟩ := HTU5.out.wb
              have HZ0 := Lib.hid (And.intro hz0 hz1)
              have HL9 : Hid (([.int .i64 m.labels, .slice B1 m.order.length d1, .slice B2 m.grants.length d2, .slice B3 m.vars.length d3, .slice B4 m.msgs.length d4, .slice B5 m.nodes.length d5] : List Value).length = 6) := Lib.hid rfl
              have HON : Hid (∀ v ∈ ([.int .i64 m.labels, .slice B1 m.order.length d1, .slice B2 m.grants.length d2, .slice B3 m.vars.length d3, .slice B4 m.msgs.length d4, .slice B5 m.nodes.length d5] : List Value), v.oneCell' = true) := Lib.hid (by
                intro u hu
                simp only [List.mem_cons, List.not_mem_nil, or_false] at hu
                rcases hu with rfl | rfl | rfl | rfl | rfl | rfl <;> rfl)
              clear hz0 hz1 HI hj
              go_wp2_with (first | ((with_reducible refine wl_sload 27 _ rfl ?hwl1 (p) (0) ([.int .i64 m.labels, .slice B1 m.order.length d1, .slice B2 m.grants.length d2, .slice B3 m.vars.length d3, .slice B4 m.msgs.length d4, .slice B5 m.nodes.length d5]) _ rfl HTU5.out.wa.range Tryz.underlying27 rfl ?hil1 ?_); (case hwl1 => (exact wantA rfl)); (case hil1 => rw [HL9.out]; kernel_rfl)) | ((with_reducible refine wl_wstore 27 _ _ rfl rfl ?hww2 (q) (z0) ([.int .i64 m.labels, .slice B1 m.order.length d1, .slice B2 m.grants.length d2, .slice B3 m.vars.length d3, .slice B4 m.msgs.length d4, .slice B5 m.nodes.length d5]) HZ0.out.2 ?hl2 ?hxx2 ?hyy2 ?hii2 ?h12 ?_); (case hww2 => (exact wantA rfl)); (case hl2 => rw [HZ0.out.1]; rfl); (case hxx2 => rfl); (case hyy2 => rfl); (case hii2 => kernel_rfl); (case h12 => exact HON.out); intro Z9 hz hb; have HZZ9 := Lib.hid hz; have HBZ9 := Lib.hid hb; clear hz hb))
              (try simp only [Exit.inBlock, Exit.then])
              refine bodyPost_ret (results_modM rfl _ _ q [.int .i64 m.labels, .slice B1 m.order.length d1, .slice B2 m.grants.length d2, .slice B3 m.vars.length d3, .slice B4 m.msgs.length d4, .slice B5 m.nodes.length d5] rfl rfl HZZ9.out.range) rfl ?_
              have g0 := HMP.out
              have g1 := HN.out
              have g2 := HTU5.out.qm
              have g3 := HSY3.out
              have g4 := HSY4.out
              have g5 := HSZ4.out
              have g6 := HSZ5.out
              have g7 := HBZ9.out.size
              have hbel : Below w.heap.size w Z9 := HTU5.out.bel.trans (HBZ9.out.below HTU5.out.bel.size HTU5.out.wq HTU5.out.wq)
              have hz5 : ∀ b, b < U5.heap.size → b ≠ q → Z9.heap[b]? = U5.heap[b]? := fun b h1 h2 => HBZ9.out.block b h1 h2 h2
              have hz4 : ∀ b, b < U4.heap.size → b ≠ q → ¬ (lo5 ≤ b ∧ b < hi5) → Z9.heap[b]? = U4.heap[b]? := fun b h1 h2 h3 => (hz5 b (by omega) h2).trans (HBW5.out b h1 h3)
              have hz3 : ∀ b, b < U3.heap.size → b ≠ q → ¬ (lo5 ≤ b ∧ b < hi5) → ¬ (lo4 ≤ b ∧ b < hi4) → Z9.heap[b]? = U3.heap[b]? := fun b h1 h2 h3 h4 => (hz4 b (by omega) h2 h3).trans (HBW4.out b h1 h4)
              have hln1 := HFT.out.order
              have hln2 := HFT.out.grants
              have s1 : SlAt (only Z9 (fun b => w.heap.size ≤ b)) Z9.heap.size 2 PairR (.slice B1 m.order.length d1) m.order := Row5.sl (H1R4.out.step fun b h1 h2 => hz4 b (by omega) (by omega) (by omega)) (by omega) (fun b => w.heap.size ≤ b) fun b h1 h2 => by
                show w.heap.size ≤ b
                omega
              have s2 : SlAt (only Z9 (fun b => w.heap.size ≤ b)) Z9.heap.size 2 PairR (.slice B2 m.grants.length d2) m.grants := Row5.sl (H2R4.out.step fun b h1 h2 => hz4 b (by omega) (by omega) (by omega)) (by omega) (fun b => w.heap.size ≤ b) fun b h1 h2 => by
                show w.heap.size ≤ b
                omega
              have s3 := sl_to (q := (fun b => w.heap.size ≤ b)) (u' := Z9) keeps_var HSL3.out (fun b hp hlt => by
                have hp' : (lo3 ≤ b ∧ b < hi3) ∨ y5.heap.size ≤ b := hp
                refine ⟨?_, hz3 b hlt (by omega) (by omega) (by omega)⟩
                show w.heap.size ≤ b
                omega) (by omega)
              have s4 := sl_to (q := (fun b => w.heap.size ≤ b)) (u' := Z9) keeps_msg HSL4.out (fun b hp hlt => by
                have hp' : (lo4 ≤ b ∧ b < hi4) ∨ U3.heap.size ≤ b := hp
                refine ⟨?_, hz4 b hlt (by omega) (by omega)⟩
                show w.heap.size ≤ b
                omega) (by omega)
              have s5 := sl_to (q := (fun b => w.heap.size ≤ b)) (u' := Z9) keeps_node HSL5.out (fun b hp hlt => by
                have hp' : (lo5 ≤ b ∧ b < hi5) ∨ U4.heap.size ≤ b := hp
                refine ⟨?_, hz5 b hlt (by omega)⟩
                show w.heap.size ≤ b
                omega) (by omega)
              have t3 : ThW (only Z9 (fun b => w.heap.size ≤ b)) (.slice B3 m.vars.length d3) := ThW.own HOW3.out fun b e => by
                have h1 := HO3.out b e.symm
                refine ⟨?_, hz3 b (by omega) (by omega) (by omega) (by omega)⟩
                show w.heap.size ≤ b
                omega
              have t5 : ThW (only Z9 (fun b => w.heap.size ≤ b)) (.slice B5 m.nodes.length d5) := ThW.own HOW5.out fun b e => by
                have h1 := HO5.out b e.symm
                refine ⟨?_, hz5 b (by omega) (by omega)⟩
                show w.heap.size ≤ b
                omega
              exact ⟨_, rfl, ⟨⟨_, _, _, _, _, rfl, s1, s2, SlAt.map canVar s3 fun _ _ h => h.1, s4, SlAt.map canNode s5 fun _ _ h => h.1⟩, HWF.out⟩, hbel, _, _, _, _, _, _, rfl, s3, s5, t3, t5⟩
            | succ g =>
              have hlt : (j : Int) < (m.nodes.length : Int) := by omega
              have hj0 : (0 : Int) ≤ (j : Int) := by omega
              obtain ⟨x, hx⟩ : ∃ x, m.nodes[j]? = some x := ⟨_, List.getElem?_eq_getElem (by omega)⟩
              obtain ⟨q1, hq1⟩ := HI.out.elem hx
              obtain ⟨gb, cap, hv, hgb, hgt⟩ := HI.out.form (by omega)
              injection hv with hv1 _ hv2
              subst hv1 hv2
              obtain ⟨⟨vn, vc, ce, cb, he, hce, hcb, hnx, hcs, hcl, hex, hbd⟩, hwf⟩ := HI.out.old j q1 x (Nat.le_refl _) hq1 hx
              obtain ⟨-, NA, nc, rfl, -⟩ := id hnx
              obtain ⟨-, CA, cc, rfl, -⟩ := id hcs
              have HQ := Lib.hid hq1
              have HX := Lib.hid hx
              have HE : Hid (q1.1 = [.int .i64 x.kind, .int .i64 x.label] ++ ([(.slice NA x.next.length nc)] ++ ([(.slice CA x.conds.length cc)] ++ (ce ++ (cb ++ [.int .i64 x.var, .int .i64 x.msg, .int .i64 x.catch_, .int .i64 x.wait, .int .i64 x.from_]))))) := Lib.hid (by rw [he]; simp)
              have HC2 : Hid (q1.1[2]? = some (.slice NA x.next.length nc)) := Lib.hid (by rw [HE.out]; rfl)
              have HC3 : Hid (q1.1[3]? = some (.slice CA x.conds.length cc)) := Lib.hid (by rw [HE.out]; rfl)
              have HCE := Lib.hid hce
              have HCB := Lib.hid hcb
              have HNX := Lib.hid hnx
              have HCS := Lib.hid (And.intro hcs hcl)
              have HEX := Lib.hid (And.intro hex hbd)
              have HWN := Lib.hid hwf
              have HG := Lib.hid (And.intro hgb hgt)
              have HFN := Lib.hid (HFT.out.node x (List.mem_of_getElem? hx))
              clear hx hq1 hgb hgt he hce hcb hnx hcs hcl hex hbd hwf
              have q3 := (HTU5.out.at 5 rfl).1
              go_upto_region 19 with (fail)
              clear q3
              refine wp_region_ord3 14 [(0, 0), (1, 0), (2, 0), (3, 0), (4, 0), (5, 1), (7, 0), (8, 0), (9, 0), (10, 1), (6, 2), (11, 2), (12, 0), (13, 0), (14, 3), (15, 0), (16, 0), (17, 3)] (fun z => Below U5.heap.size U5 z) (by kernel_rfl) (by intro c a d v w h; cases d <;> exact h) (Below.refl _ _).drew ?_
              have hs : Below U5.heap.size U5 U5.drew := (Below.refl _ _).drew
              have HMZ : Hid (∀ z, Below U5.heap.size U5 z → MidR 42 29 lo5 nodeN (NodeAt w w.heap.size) U4 z (.slice (some ⟨gb, 0, none⟩) m.nodes.length d5) m.nodes j (j + 1) KL) := Lib.hid fun z hz => HI.out.into.below keeps_node hz
              refine o3_pure 94 (.pointer (some ⟨gb, j * 29, none⟩)) rfl rfl (by exact wantA rfl) (fun z => by go_simp) ?_
              go_frame
              refine o3_pure 95 (.pointer (some ⟨gb, j * 29, none⟩)) rfl rfl (by exact wantA rfl) (fun z => by go_simp) ?_
              go_frame
              refine o3_pure 96 (.pointer (some ⟨gb, j * 29, none⟩)) rfl rfl (by exact wantA rfl) (fun z => by go_simp) ?_
              go_frame
              refine o3_pure 97 (.pointer (some ⟨gb, j * 29, none⟩)) rfl rfl (by exact wantA rfl) (fun z => by go_simp) ?_
              go_frame
              refine o3_pure 98 (.pointer (some ⟨gb, j * 29 + 2, none⟩)) rfl rfl (by exact wantA rfl) (fun z => by go_simp) ?_
              go_frame
              refine o3_load 99 ((.slice NA x.next.length nc)) rfl rfl (by exact wantA rfl) hs (fun z hz => by have k8 := ((HMZ.out z hz).cell HQ.out HC2.out).1; clear hz; go_simp) ?_
              go_frame
              refine o3_pure 101 (.pointer (some ⟨gb, j * 29, none⟩)) rfl rfl (by exact wantA rfl) (fun z => by go_simp) ?_
              go_frame
              refine o3_pure 102 (.pointer (some ⟨gb, j * 29, none⟩)) rfl rfl (by exact wantA rfl) (fun z => by go_simp) ?_
              go_frame
              refine o3_pure 103 (.pointer (some ⟨gb, j * 29 + 3, none⟩)) rfl rfl (by exact wantA rfl) (fun z => by go_simp) ?_
              go_frame
              refine o3_load 104 ((.slice CA x.conds.length cc)) rfl rfl (by exact wantA rfl) hs (fun z hz => by have k8 := ((HMZ.out z hz).cell HQ.out HC3.out).1; clear hz; go_simp) ?_
              go_frame
              refine o3_call 100 34 Tryz.func34 (by kernel_rfl) (by kernel_rfl) [(.slice NA x.next.length nc)] rfl rfl rfl (by exact wantA rfl) rfl ?_
              refine (mclone_int IntR x.next _ _ ((HNX.out.below (HTU5.out.bel.trans ((hs).mono HTU5.out.bel.size)) fun _ _ _ h => h).more (HTU5.out.bel.trans ((hs).mono HTU5.out.bel.size)).size) HFN.out.1 int_oneM).mono ?_
              rintro e x1 ⟨v1, KN, rfl, hl1, hr1, ho1, hb1⟩
              have RN := Lib.hid (Row5.of hl1 hr1 ho1)
              obtain ⟨NB, nd, rfl⟩ := RN.out.shape
              have hs1 : Below U5.heap.size U5 x1 := hs.trans (hb1.mono hs.size)
              have HB1 := Lib.hid hb1
              clear hl1 hr1 ho1 hb1
              refine ⟨_, rfl, hs1, ?_⟩
              go_frame
              refine o3_call 105 35 Tryz.func35 (by kernel_rfl) (by kernel_rfl) [(.slice CA x.conds.length cc)] rfl rfl rfl (by exact wantA rfl) rfl ?_
              refine (mclone_expr (ExpAt w w.heap.size) x.conds _ _ ((HCS.out.1.below (HTU5.out.bel.trans ((hs1).mono HTU5.out.bel.size)) fun _ _ _ h => h).more (HTU5.out.bel.trans ((hs1).mono HTU5.out.bel.size)).size) HFN.out.2.1 (fun _ _ h => ExpAt.one h)).mono ?_
              rintro e x2 ⟨v2, KC, rfl, hl2, hr2, ho2, hb2⟩
              have RC := Lib.hid (Row5.of hl2 hr2 ho2)
              obtain ⟨CB, cd, rfl⟩ := RC.out.shape
              have hs2 : Below U5.heap.size U5 x2 := hs1.trans (hb2.mono hs1.size)
              have HB2 := Lib.hid hb2
              clear hl2 hr2 ho2 hb2
              refine ⟨_, rfl, hs2, ?_⟩
              go_frame
              obtain ⟨th1, th2, hfin⟩ := MidR.two (B' := [(.slice NB x.next.length nd)]) (C' := [(.slice CB x.conds.length cd)]) (j1 := 2) (j2 := 3) HI.out.into (by decide) keeps_node HQ.out HE.out rfl rfl hs2 rfl rfl
              simp only [World.setCells] at th2 hfin
              obtain ⟨o8, k8⟩ := Option.isSome_iff_exists.1 (th1 0 Nat.zero_lt_one).1
              have f8 := (th1 0 Nat.zero_lt_one).2
              rw [Nat.add_zero] at k8 f8
              obtain ⟨o9, k9⟩ := Option.isSome_iff_exists.1 (th2 0 Nat.zero_lt_one).1
              have f9 := (th2 0 Nat.zero_lt_one).2
              rw [Nat.add_zero] at k9 f9
              clear th1 th2
              have K9 := Lib.hid (And.intro k9 f9)
              clear k9 f9
              refine o3_pure 106 (.pointer (some ⟨gb, j * 29, none⟩)) rfl rfl (by exact wantA rfl) (fun z => by go_simp) ?_
              go_frame
              refine o3_pure 107 (.pointer (some ⟨gb, j * 29 + 2, none⟩)) rfl rfl (by exact wantA rfl) (fun z => by go_simp) ?_
              go_frame
              refine o3_store (x2.setCell ⟨gb, j * 29 + 2, none⟩ (.slice NB x.next.length nd)) rfl rfl (by exact wantA rfl) (by go_simp) ?_
              clear k8 f8
              obtain ⟨k9, f9⟩ := K9.out
              clear K9
              have HFI := Lib.hid hfin
              clear hfin
              generalize x2.setCell ⟨gb, j * 29 + 2, none⟩ (.slice NB x.next.length nd) = Y8 at *
              refine o3_pure 108 (.pointer (some ⟨gb, j * 29, none⟩)) rfl rfl (by exact wantA rfl) (fun z => by go_simp) ?_
              go_frame
              refine o3_pure 109 (.pointer (some ⟨gb, j * 29 + 3, none⟩)) rfl rfl (by exact wantA rfl) (fun z => by go_simp) ?_
              go_frame
              refine o3_store (Y8.setCell ⟨gb, j * 29 + 3, none⟩ (.slice CB x.conds.length cd)) rfl rfl (by exact wantA rfl) (by go_simp) ?_
              clear k9 f9
              obtain ⟨hy1, hy2, KL2, q2, hq2, he2, hM, hkl, hkd⟩ := HFI.out _ rfl
              clear HFI
              generalize Y8.setCell ⟨gb, j * 29 + 3, none⟩ (.slice CB x.conds.length cd) = Y9 at *
              refine o3_end ?_
              have HM2 := Lib.hid hM
              have HQ2 := Lib.hid hq2
              have HE2 := Lib.hid he2
              have HKL := Lib.hid hkl
              have HKD := Lib.hid hkd
              have HH3 : Hid (q2.1[3]? = some (.slice CB x.conds.length cd)) := Lib.hid (by rw [HE2.out]; rfl)
              have hgl := HG.out
              have hds : U5.drew.heap.size = U5.heap.size := rfl
              have hul := HI.out.bel.size
              have HSN : Hid (U5.heap.size ≤ x1.heap.size ∧ x1.heap.size ≤ x2.heap.size ∧ Y9.heap.size = x2.heap.size ∧ U4.heap.size ≤ U5.heap.size) := Lib.hid ⟨hs1.size, HB2.out.size, hy2, hul⟩
              have hg5 : gb < U5.heap.size := by omega
              have hzz := hs1.size
              have HRN : Hid (Row5 3 1 U5.drew.heap.size x1.heap.size IntR Y9 (.slice NB x.next.length nd) x.next KN) := Lib.hid (RN.out.step fun b h1 h2 => (hy1 b (by omega)).trans (HB2.out.block b h2))
              have HRC : Hid (Row5 40 10 x1.heap.size x2.heap.size (ExpAt w w.heap.size) Y9 (.slice CB x.conds.length cd) x.conds KC) := Lib.hid (RC.out.step fun b h1 h2 => hy1 b (by omega))
              have HUY : Hid (∀ b, b < U5.heap.size → b ≠ gb → Y9.heap[b]? = U5.heap[b]?) := Lib.hid fun b h1 h2 => (hy1 b h2).trans (hs2.block b h1)
              have HBY : Hid (Below w.heap.size w Y9) := Lib.hid (HTU4.out.bel.trans (HM2.out.low HTU4.out.bel.size (by have := HN.out; have := HMP.out; omega)))
              have k3 := (HM2.out.cell HQ2.out HH3.out).1
              clear hM hq2 he2 hkl hkd hgl hds hul hg5 hzz hs hs1 hs2 hy1 hy2 HMZ HQ HE HC2 HC3 RN RC HB1 HB2 HTU5 HNX
              go_wp2
              clear k3
              have hcn : x.conds.length ≤ 1000 := HFN.out.2.1
              go_loopg [115] x.conds.length (fun g i u => ∃ (c : Nat) (KC2 : List (CellsK 10)), c + g = x.conds.length ∧ i = .int .i64 c ∧ MidR 40 10 x1.heap.size expN (ExpAt w w.heap.size) Y9 u (.slice CB x.conds.length cd) x.conds c c KC2)
              case atStart => exact ⟨0, _, by omega, rfl, HRC.out.mid⟩
              case round =>
                obtain ⟨c, KC2, hc, rfl, hIC⟩ := hrel
                have HIC := Lib.hid hIC
                clear hIC
                obtain ⟨U6, hU⟩ : ∃ z, z = wr := ⟨_, rfl⟩
                subst hU
                have HCO : Hid (∀ b, some b = ((.slice CB x.conds.length cd) : Value).ownBlock → x1.heap.size ≤ b) := Lib.hid fun b hb => (World.ownsRow.lt HIC.out.own b hb.symm).1
                have HB6 : Hid (Below w.heap.size w U6) := Lib.hid (HBY.out.trans (HIC.out.low HBY.out.size (by have := HSN.out; have := HIC.out.bel.size; have := HTU4.out.bel.size; omega)))
                have HG6 : Hid (U6.heap[gb]? = Y9.heap[gb]?) := Lib.hid (HIC.out.bel.block gb (by have := HSN.out; have := HG.out; omega) fun e => by have := HCO.out gb e; have := HSN.out; have := HG.out; omega)
                have HHD : Hid (∀ z, Below U6.heap.size U6 z → z.cell? ⟨gb, j * 29 + 3, none⟩ = some (.slice CB x.conds.length cd)) := Lib.hid fun z hz => by
                  have h1 := (HM2.out.cell HQ2.out HH3.out).1
                  rw [← h1]
                  have h2 := HIC.out.bel.size
                  exact World.cell?_of_block (a := ⟨gb, j * 29 + 3, none⟩) ((hz.block gb (by have := HSN.out; have := HG.out; omega)).trans HG6.out)
                cases gk with
                | succ g2 =>
                  have hct : (c : Int) < (x.conds.length : Int) := by omega
                  have hc0 : (0 : Int) ≤ (c : Int) := by omega
                  obtain ⟨e5, he5⟩ : ∃ y, x.conds[c]? = some y := ⟨_, List.getElem?_eq_getElem (by omega)⟩
                  obtain ⟨q5, hq5⟩ := HIC.out.elem he5
                  obtain ⟨g5, cap5, hv, hg5, hg6⟩ := HIC.out.form (by omega)
                  injection hv with hv1 _ hv2
                  subst hv1 hv2
                  have hre := HIC.out.old c q5 e5 (Nat.le_refl _) hq5 he5
                  have HRE := Lib.hid hre
                  have HL5 := Lib.hid (exp_lenM hre)
                  have HQ5 := Lib.hid hq5
                  have HX5 := Lib.hid he5
                  have HE5 : Hid (q5.1 = [] ++ (q5.1 ++ [])) := Lib.hid (by simp)
                  have HF5 := Lib.hid (HFN.out.2.2.1 e5 (List.mem_of_getElem? he5))
                  have k3 := HHD.out U6 (Below.refl _ _)
                  clear hre he5 hq5 hg5 hg6
                  go_upto_region 23 with (fail)
                  clear k3
                  refine wp_region_ord3 14 [(0, 0), (1, 0), (2, 0), (3, 1), (4, 0), (5, 0), (6, 0), (7, 0), (8, 1), (9, 0), (10, 0), (11, 1), (12, 2), (13, 0), (14, 3)] (fun z => Below U6.heap.size U6 z) (by kernel_rfl) (by intro c a d v w h; cases d <;> exact h) (Below.refl _ _).drew ?_
                  have hs : Below U6.heap.size U6 U6.drew := (Below.refl _ _).drew
                  have HMZ : Hid (∀ z, Below U6.heap.size U6 z → MidR 40 10 x1.heap.size expN (ExpAt w w.heap.size) Y9 z (.slice (some ⟨g5, 0, none⟩) x.conds.length cd) x.conds c (c + 1) KC2) := Lib.hid fun z hz => HIC.out.into.below keeps_exp hz
                  refine o3_pure 118 (.pointer (some ⟨gb, j * 29, none⟩)) rfl rfl (by exact wantA rfl) (fun z => by go_simp) ?_
                  go_frame
                  refine o3_pure 119 (.pointer (some ⟨gb, j * 29, none⟩)) rfl rfl (by exact wantA rfl) (fun z => by go_simp) ?_
                  go_frame
                  refine o3_pure 120 (.pointer (some ⟨gb, j * 29 + 3, none⟩)) rfl rfl (by exact wantA rfl) (fun z => by go_simp) ?_
                  go_frame
                  refine o3_load 121 ((.slice (some ⟨g5, 0, none⟩) x.conds.length cd)) rfl rfl (by exact wantA rfl) hs (fun z hz => by have k8 := HHD.out z hz; clear hz; go_simp) ?_
                  go_frame
                  refine o3_pure 122 (.int .i64 c) rfl rfl (by exact wantA rfl) (fun z => by go_simp) ?_
                  go_frame
                  refine o3_pure 123 (.pointer (some ⟨gb, j * 29, none⟩)) rfl rfl (by exact wantA rfl) (fun z => by go_simp) ?_
                  go_frame
                  refine o3_pure 124 (.pointer (some ⟨gb, j * 29, none⟩)) rfl rfl (by exact wantA rfl) (fun z => by go_simp) ?_
                  go_frame
                  refine o3_pure 125 (.pointer (some ⟨gb, j * 29 + 3, none⟩)) rfl rfl (by exact wantA rfl) (fun z => by go_simp) ?_
                  go_frame
                  refine o3_load 126 ((.slice (some ⟨g5, 0, none⟩) x.conds.length cd)) rfl rfl (by exact wantA rfl) hs (fun z hz => by have k8 := HHD.out z hz; clear hz; go_simp) ?_
                  go_frame
                  refine o3_pure 127 (.int .i64 c) rfl rfl (by exact wantA rfl) (fun z => by go_simp) ?_
                  go_frame
                  refine o3_pure 128 (.pointer (some ⟨g5, c * 10, none⟩)) rfl rfl (by exact wantA rfl) (fun z => by go_simp) ?_
                  go_frame
                  refine o3_load 129 (.agg ⟨q5.1⟩) rfl rfl (by exact wantA rfl) hs (fun z hz => exec_sload 40 rfl g5 (c * 10) q5.1 _ rfl ((HMZ.out z hz).range (d := 0) HQ5.out HE5.out rfl).1 Tryz.underlying40 rfl (by rw [HL5.out]; kernel_rfl)) ?_
                  go_frame
                  refine o3_call 130 36 Tryz.func36 (by kernel_rfl) (by kernel_rfl) [.agg ⟨q5.1⟩] rfl rfl rfl (by exact wantA rfl) rfl ?_
                  refine (mownE_any e5 q5.1 _ HF5.out ((HRE.out.under (HB6.out.trans (hs.mono HB6.out.size))).more (HB6.out.trans (hs.mono HB6.out.size)).size)).mono ?_
                  rintro e z5 ⟨n5, rfl, hk5, hb5, -⟩
                  have hs5 : Below U6.heap.size U6 z5 := hs.trans (hb5.mono hs.size)
                  refine ⟨_, rfl, hs5, ?_⟩
                  go_frame
                  refine o3_pure 131 (.pointer (some ⟨g5, c * 10, none⟩)) rfl rfl (by exact wantA rfl) (fun z => by go_simp) ?_
                  go_frame
                  have hl5 := exp_lenM hk5
                  have ho5 := ExpAt.one hk5
                  have hM5 := HMZ.out z5 hs5
                  have hth : z5.there g5 (c * 10) n5.length := by
                    have h := (hM5.range (d := 0) HQ5.out HE5.out rfl).2
                    have e : n5.length = q5.1.length := by rw [hl5, HL5.out]
                    rw [e]
                    exact h
                  have hp5 := hM5.put (by decide) keeps_exp HQ5.out 0 n5 (by omega)
                  have hlc := (List.getElem?_eq_some_iff.1 HQ5.out).1
                  refine o3_sstore 40 rfl rfl rfl (by exact wantA rfl) g5 (c * 10) n5 rfl rfl hth (by rw [hl5]; kernel_rfl) ho5 ?_
                  refine o3_end ?_
                  have HY5 : Hid (∀ b, b ≠ g5 → (z5.setCells g5 (c * 10) n5).heap[b]? = z5.heap[b]?) := Lib.hid fun b hb => heap_setsX g5 b hb _ _ _
                  have HYZ : Hid ((z5.setCells g5 (c * 10) n5).heap.size = z5.heap.size) := Lib.hid (size_setsX _ _ _ _)
                  have hp6 : MidR 40 10 x1.heap.size expN (ExpAt w w.heap.size) Y9 (z5.setCells g5 (c * 10) n5) (.slice (some ⟨g5, 0, none⟩) x.conds.length cd) x.conds c (c + 1) (KC2.set c (putK q5 0 n5)) := hp5
                  clear hp5 hth
                  generalize z5.setCells g5 (c * 10) n5 = Y5 at *
                  have HFI := Lib.hid (hp6.fin (List.getElem?_set_self hlc) HX5.out (by
                    rw [putK1 (j1 := 0) HE5.out (by rw [hl5, HL5.out]) rfl, List.append_nil, List.nil_append]
                    exact KeptX.to hk5 (fun b hp hlt => by
                      have g1 : U6.heap.size ≤ b := hp
                      have g2 := HIC.out.bel.size
                      have g3 := HIC.out.top g5 rfl
                      exact ⟨by omega, HY5.out b (by omega)⟩) (by rw [HYZ.out]; exact Nat.le_refl _)))
                  clear hp6 hl5 ho5 hM5 hlc hk5 hb5 hs hs5 HMZ HY5 HYZ HQ5 HX5 HE5 HF5 HL5 HRE
                  go_wp2
                  go_roundg g2
                  case measure => omega
                  case rel => exact ⟨c + 1, _, by omega, by go_num, HFI.out⟩
                | zero =>
                  obtain rfl : c = x.conds.length := by omega
                  have hge2 : ¬ ((x.conds.length : Int) < (x.conds.length : Int)) := by omega
                  have HMJ : Hid (MidR 42 29 lo5 nodeN (NodeAt w w.heap.size) U4 U6 (.slice (some ⟨gb, 0, none⟩) m.nodes.length d5) m.nodes j (j + 1) KL2) := Lib.hid (by
                    refine HI.out.into.jump keeps_node ?_ (own_stepM HM2.out.own fun b hb => ?_) HKL.out HKD.out
                    · have g1 := HSN.out
                      have g2 := HIC.out.bel.size
                      refine ⟨HIC.out.bel.os.trans (HM2.out.bel.os.trans HI.out.bel.os.symm), HIC.out.bel.tape.trans (HM2.out.bel.tape.trans HI.out.bel.tape.symm), HIC.out.bel.output.trans (HM2.out.bel.output.trans HI.out.bel.output.symm), by omega, fun b h1 h2 => ?_⟩
                      exact (HIC.out.bel.block b (by omega) fun e => by have := HCO.out b e; omega).trans (HUY.out b h1 fun e => h2 (by rw [e]; rfl))
                    · have e : gb = b := by simpa [Value.ownBlock] using hb
                      subst e
                      exact HG6.out)
                  have HRN6 : Hid (Row5 3 1 U5.drew.heap.size x1.heap.size IntR U6 (.slice NB x.next.length nd) x.next KN) := Lib.hid (HRN.out.step fun b h1 h2 => HIC.out.bel.block b (by have := HSN.out; omega) fun e => by have := HCO.out b e; omega)
                  have HSC : Hid (SlAt (only U6 fun b => x1.heap.size ≤ b) U6.heap.size 10 (expN (only U6 fun b => x1.heap.size ≤ b) U6.heap.size) (.slice CB x.conds.length cd) x.conds) := Lib.hid (HIC.out.done (Nat.le_refl _) keeps_exp (by omega) _ fun b hb => hb.elim (HCO.out b) fun h => by have := HSN.out; have := (HIC.out.bel.size); omega)
                  have HYU : Hid (Y9.heap.size ≤ U6.heap.size) := Lib.hid HIC.out.bel.size
                  have HQ := Lib.hid HQ2.out
                  have HE : Hid (q2.1 = [.int .i64 x.kind, .int .i64 x.label, (.slice NB x.next.length nd), (.slice CB x.conds.length cd)] ++ (ce ++ (cb ++ [.int .i64 x.var, .int .i64 x.msg, .int .i64 x.catch_, .int .i64 x.wait, .int .i64 x.from_]))) := Lib.hid (by rw [HE2.out]; rfl)
                  have HEB : Hid (q2.1 = ([.int .i64 x.kind, .int .i64 x.label, (.slice NB x.next.length nd), (.slice CB x.conds.length cd)] ++ ce) ++ (cb ++ [.int .i64 x.var, .int .i64 x.msg, .int .i64 x.catch_, .int .i64 x.wait, .int .i64 x.from_])) := Lib.hid (by rw [HE.out, List.append_assoc])
                  clear HE2 HQ2 HH3
                  have HE2 := Lib.hid HEB.out
                  have HEL : Hid (([.int .i64 x.kind, .int .i64 x.label, (.slice NB x.next.length nd), (.slice CB x.conds.length cd)] ++ ce : List Value).length = 14) := Lib.hid (by rw [List.length_append, HCE.out]; rfl)
                  clear HEB hc HIC HM2 HRN HRC HHD HG6 HUY
                  go_upto_region 25 with (fail)
                  refine wp_region_ord3 14 [(0, 0), (1, 0), (2, 0), (3, 0), (4, 0), (5, 1), (7, 0), (8, 0), (9, 0), (10, 1), (6, 2), (11, 2), (12, 0), (13, 0), (14, 3), (15, 0), (16, 0), (17, 3)] (fun z => Below U6.heap.size U6 z) (by kernel_rfl) (by intro c a d v w h; cases d <;> exact h) (Below.refl _ _).drew ?_
                  have hs : Below U6.heap.size U6 U6.drew := (Below.refl _ _).drew
                  have HMZ : Hid (∀ z, Below U6.heap.size U6 z → MidR 42 29 lo5 nodeN (NodeAt w w.heap.size) U4 z (.slice (some ⟨gb, 0, none⟩) m.nodes.length d5) m.nodes j (j + 1) KL2) := Lib.hid fun z hz => HMJ.out.below keeps_node hz
                  refine o3_pure 133 (.pointer (some ⟨gb, j * 29, none⟩)) rfl rfl (by exact wantA rfl) (fun z => by go_simp) ?_
                  go_frame
                  refine o3_pure 134 (.pointer (some ⟨gb, j * 29, none⟩)) rfl rfl (by exact wantA rfl) (fun z => by go_simp) ?_
                  go_frame
                  refine o3_pure 135 (.pointer (some ⟨gb, j * 29, none⟩)) rfl rfl (by exact wantA rfl) (fun z => by go_simp) ?_
                  go_frame
                  refine o3_pure 136 (.pointer (some ⟨gb, j * 29, none⟩)) rfl rfl (by exact wantA rfl) (fun z => by go_simp) ?_
                  go_frame
                  refine o3_pure 137 (.pointer (some ⟨gb, j * 29 + 4, none⟩)) rfl rfl (by exact wantA rfl) (fun z => by go_simp) ?_
                  go_frame
                  refine o3_load 138 (.agg ⟨ce⟩) rfl rfl (by exact wantA rfl) hs (fun z hz => exec_sload 40 rfl gb (j * 29 + 4) ce _ rfl ((HMZ.out z hz).range HQ.out HE.out rfl).1 Tryz.underlying40 rfl (by rw [HCE.out]; kernel_rfl)) ?_
                  go_frame
                  refine o3_pure 140 (.pointer (some ⟨gb, j * 29, none⟩)) rfl rfl (by exact wantA rfl) (fun z => by go_simp) ?_
                  go_frame
                  refine o3_pure 141 (.pointer (some ⟨gb, j * 29, none⟩)) rfl rfl (by exact wantA rfl) (fun z => by go_simp) ?_
                  go_frame
                  refine o3_pure 142 (.pointer (some ⟨gb, j * 29 + 14, none⟩)) rfl rfl (by exact wantA rfl) (fun z => by go_simp) ?_
                  go_frame
                  refine o3_load 143 (.agg ⟨cb⟩) rfl rfl (by exact wantA rfl) hs (fun z hz => exec_sload 40 rfl gb (j * 29 + 14) cb _ rfl ((HMZ.out z hz).range HQ.out HE2.out HEL.out).1 Tryz.underlying40 rfl (by rw [HCB.out]; kernel_rfl)) ?_
                  go_frame
                  refine o3_call 139 36 Tryz.func36 (by kernel_rfl) (by kernel_rfl) [.agg ⟨ce⟩] rfl rfl rfl (by exact wantA rfl) rfl ?_
                  refine (mownE_any x.expr ce _ HFN.out.2.2.2.1 ((HEX.out.1.under (HB6.out.trans ((hs).mono HB6.out.size))).more (HB6.out.trans ((hs).mono HB6.out.size)).size)).mono ?_
                  rintro e z1 ⟨na, rfl, hka, hb1, hta⟩
                  have hs1 : Below U6.heap.size U6 z1 := hs.trans (hb1.mono hs.size)
                  refine ⟨_, rfl, hs1, ?_⟩
                  go_frame
                  refine o3_call 144 36 Tryz.func36 (by kernel_rfl) (by kernel_rfl) [.agg ⟨cb⟩] rfl rfl rfl (by exact wantA rfl) rfl ?_
                  refine (mownE_any x.body cb _ HFN.out.2.2.2.2 ((HEX.out.2.under (HB6.out.trans ((hs1).mono HB6.out.size))).more (HB6.out.trans ((hs1).mono HB6.out.size)).size)).mono ?_
                  rintro e z2 ⟨nb, rfl, hkb, hb2, -⟩
                  have hs2 : Below U6.heap.size U6 z2 := hs1.trans (hb2.mono hs1.size)
                  refine ⟨_, rfl, hs2, ?_⟩
                  go_frame
                  have hla := exp_lenM hka
                  have hlb := exp_lenM hkb
                  have hoa := ExpAt.one hka
                  have hob := ExpAt.one hkb
                  obtain ⟨th1, th2, hfin⟩ := MidR.two (B' := na) (C' := nb) (j1 := 4) (j2 := 14) HMJ.out (by decide) keeps_node HQ.out HE.out rfl (by rw [HCE.out]) hs2 (by rw [hla, HCE.out]) (by rw [hlb, HCB.out])
                  refine o3_pure 145 (.pointer (some ⟨gb, j * 29, none⟩)) rfl rfl (by exact wantA rfl) (fun z => by go_simp) ?_
                  go_frame
                  refine o3_pure 146 (.pointer (some ⟨gb, j * 29 + 4, none⟩)) rfl rfl (by exact wantA rfl) (fun z => by go_simp) ?_
                  go_frame
                  refine o3_sstore 40 rfl rfl rfl (by exact wantA rfl) gb (j * 29 + 4) na rfl rfl th1 (by rw [hla]; kernel_rfl) hoa ?_
                  refine o3_pure 147 (.pointer (some ⟨gb, j * 29, none⟩)) rfl rfl (by exact wantA rfl) (fun z => by go_simp) ?_
                  go_frame
                  refine o3_pure 148 (.pointer (some ⟨gb, j * 29 + 14, none⟩)) rfl rfl (by exact wantA rfl) (fun z => by go_simp) ?_
                  go_frame
                  refine o3_sstore 40 rfl rfl rfl (by exact wantA rfl) gb (j * 29 + 14) nb rfl rfl th2 (by rw [hlb]; kernel_rfl) hob ?_
                  obtain ⟨hy1, hy2, KL2, q2, hq2, he2, hM, hkl, hkd⟩ := hfin _ rfl
                  clear hfin th1 th2
                  generalize (z2.setCells gb (j * 29 + 4) na).setCells gb (j * 29 + 14) nb = Y at *
                  refine o3_end ?_
                  have HFI := Lib.hid (hM.fin hq2 HX.out (by
                    rw [he2]
                    have g2 := HSN.out
                    have g3 := HG.out.2
                    have g4 := HYU.out
                    have g5 : U5.drew.heap.size = U5.heap.size := rfl
                    refine ⟨?_, ?_, ?_⟩
                    rotate_left
                    · intro v hv
                      obtain rfl : ((.slice NB x.next.length nd) : Value) = v := Option.some.inj hv
                      refine ThW.own (HRN6.out.step (u' := Y) fun b h1 h2 => (hy1 b (by omega)).trans (hs2.block b (by omega))).own fun b e => ⟨?_, rfl⟩
                      have h1 := World.ownsRow.lt HRN6.out.own b e
                      show U4.heap.size ≤ b
                      omega
                    · intro v hv
                      exact (hta v (mid_at hv rfl (by rw [hla]; decide))).mono (only_toB (fun b hp hlt => by
                        have g1 : U6.heap.size ≤ b := Nat.le_trans (Nat.le_refl _) hp
                        have g2 := HSN.out
                        have g3 := HG.out.2
                        have g4 := HYU.out
                        exact ⟨by omega, (hy1 b (by omega)).trans (hb2.block b hlt)⟩))
                    refine ⟨⟨(.slice NB x.next.length nd), (.slice CB x.conds.length cd), na, nb, by simp [canNode], hla, hlb, ?_, ?_, ?_, ?_, ?_⟩, HWN.out⟩
                    · refine Row5.sl (HRN6.out.step fun b h1 h2 => (hy1 b (by omega)).trans (hs2.block b (by omega))) (Nat.le_trans HFN.out.1 (by decide)) _ fun b h1 h2 => ?_
                      show U4.heap.size ≤ b
                      omega
                    · exact SlAt.map canE (sl_to keeps_exp HSC.out (fun b hp hlt => ⟨by
                        have g6 : x1.heap.size ≤ b := hp
                        show U4.heap.size ≤ b
                        omega, (hy1 b (by have g6 : x1.heap.size ≤ b := hp; omega)).trans (hs2.block b hlt)⟩) (by rw [hy2]; exact hs2.size)) fun _ _ h => h
                    · show (x.conds.map canE).length ≤ maxLen
                      rw [List.length_map]
                      exact HCS.out.2
                    · exact KeptX.to hka (fun b hp hlt => by
                        have g1 : U6.heap.size ≤ b := Nat.le_trans (Nat.le_refl _) hp
                        have g2 := HSN.out
                        have g3 := HG.out.2
                        have g4 := HYU.out
                        exact ⟨by omega, (hy1 b (by omega)).trans (hb2.block b hlt)⟩) (by rw [hy2]; exact hb2.size)
                    · exact KeptX.to hkb (fun b hp hlt => by
                        have g1 : U6.heap.size ≤ b := Nat.le_trans hs1.size hp
                        have g2 := HSN.out
                        have g3 := HG.out.2
                        have g4 := HYU.out
                        exact ⟨by omega, (hy1 b (by omega)).trans rfl⟩) (by rw [hy2]; exact Nat.le_refl _)))
                  clear hM hkl hkd hq2 he2 hka hkb hla hlb hoa hob hb1 hb2 hs hs1 hs2 hy1 hy2 hta HMZ HQ HX HE HE2 HEL HMJ HRN6 HSC HYU HSN HCE HCB HCS HEX HWN HFN HG HBY HB6 HCO
                  go_wp2
                  go_roundg g
                  case measure => omega
                  case rel => exact ⟨j + 1, _, by omega, by go_num, HFI.out⟩
end Go.Proofs.YtpmjcbjdcjjplaaGreat
end
section
namespace Go.Proofs.YtpmjcbjdcjjplaaGreat
open Go.ChangeShapes Go.WideShapes Go.ChangeAt Go.RowKit Go.Deep
set_option linter.unusedVariables false
def FitVr (x : VarT) : Prop := FitTy x.type ∧ Fit x.init
def FitMs (x : MsgT) : Prop := FitTy x.key ∧ FitTy x.body
def FitNd (x : NodeT) : Prop := (∀ e ∈ x.conds, FitX e) ∧ FitX x.expr ∧ FitX x.body
def FitM0 (m : ModelT) : Prop := (∀ x ∈ m.vars, FitVr x) ∧ (∀ x ∈ m.msgs, FitMs x) ∧ ∀ x ∈ m.nodes, FitNd x
section
variable {H : Type} {enc : TypeId × Value → H} {W : World}
theorem bytes_typeM : Tryz.prog.bytesOf 45 = 56 := by kernel_rfl
theorem bytes_exprM : Tryz.prog.bytesOf 40 = 160 := by kernel_rfl
theorem open_fitT : ∀ (fuel : Nat) (cs : List Value) (x : DataW H × List MemPlace), DataW.trod enc Tryz.prog W 0 (fun _ => true) true fuel 45 cs = some x → (∀ n ∈ x.1.weights Tryz.prog 45, n ≤ reachBytes) → ∃ t, TypAt W W.heap.size cs t ∧ FitTy t := by
  intro fuel
  induction fuel using Nat.strongRecOn with
  | _ fuel ih =>
  intro cs x h hw
  obtain ⟨xs, n, hf, hx, hlen, hxl, hg⟩ := DataW.trod_struct Tryz.underlying45 h
  rw [cells_type] at hlen
  clear h
  obtain ⟨c0, c1, c2, rfl⟩ := list3 hlen
  have h0 := hg 0 _ rfl
  have h1 := hg 1 _ rfl
  have h2 := hg 2 _ rfl
  have hx6 : xs.length = 3 := hxl
  clear hg hxl
  rw [List.getElem?_eq_getElem (by omega)] at h0 h1 h2
  simp only [List.getElem_toArray, List.getElem_cons_zero, List.getElem_cons_succ, cells_int, cells_strings, cells_types, List.drop_zero, List.drop_succ_cons, List.take_succ_cons, List.take_zero, List.take_nil] at h0 h1 h2
  rw [hx] at hw
  simp only [DataW.weights, Tryz.underlying45] at hw
  obtain ⟨k0, q0, _, w0⟩ := DataW.trod_int Tryz.underlying3 h0
  have u1 : ∀ n ∈ (xs[1]'(by omega)).1.weights Tryz.prog 35, n ≤ reachBytes := fun n hn => hw n (DataW.weights_mem_each (j := 1) rfl (by rw [List.getElem?_map, List.getElem?_eq_getElem (by omega)]; rfl) n hn)
  obtain ⟨l1, g1, _, b1, _⟩ := open_slF (S := fun _ => True) Tryz.underlying35 cells_string (by omega) h1 u1 fun _ _ cs y hy _ => by
    obtain ⟨s, hs⟩ := open_str hy
    exact ⟨s, hs, trivial⟩
  rw [bytes_string] at b1
  have u2 : ∀ n ∈ (xs[2]'(by omega)).1.weights Tryz.prog 43, n ≤ reachBytes := fun n hn => hw n (DataW.weights_mem_each (j := 2) rfl (by rw [List.getElem?_map, List.getElem?_eq_getElem (by omega)]; rfl) n hn)
  obtain ⟨l2, g2, m2, b2, f2⟩ := open_slF  Tryz.underlying43 cells_type (by omega) h2 u2 fun q hq cs y hy hyw => ih q (by omega) cs y hy hyw
  rw [bytes_typeM] at b2
  simp only [List.cons.injEq, and_true] at q0
  subst q0
  exact ⟨_, TypAt.of w0 g1 m2 g2, .mk b1 b2 f2⟩
theorem open_fitX : ∀ (fuel : Nat) (cs : List Value) (x : DataW H × List MemPlace), DataW.trod enc Tryz.prog W 0 (fun _ => true) true fuel 40 cs = some x → (∀ n ∈ x.1.weights Tryz.prog 40, n ≤ reachBytes) → ∃ t, ExpAt W W.heap.size cs t ∧ FitX t := by
  intro fuel
  induction fuel using Nat.strongRecOn with
  | _ fuel ih =>
  intro cs x h hw
  obtain ⟨xs, n, hf, hx, hlen, hxl, hg⟩ := DataW.trod_struct Tryz.underlying40 h
  rw [cells_expr] at hlen
  clear h
  obtain ⟨c0, c1, d0, d1, d2, d3, d4, d5, c3, c4, rfl⟩ := list10 hlen
  have h0 := hg 0 _ rfl
  have h1 := hg 1 _ rfl
  have h2 := hg 2 _ rfl
  have h3 := hg 3 _ rfl
  have h4 := hg 4 _ rfl
  have hx6 : xs.length = 5 := hxl
  clear hg hxl
  rw [List.getElem?_eq_getElem (by omega)] at h0 h1 h2 h3 h4
  simp only [List.getElem_toArray, List.getElem_cons_zero, List.getElem_cons_succ, cells_exprs, cells_int, cells_string, cells_strings, cells_value, List.drop_zero, List.drop_succ_cons, List.take_succ_cons, List.take_zero, List.take_nil] at h0 h1 h2 h3 h4
  rw [hx] at hw
  simp only [DataW.weights, Tryz.underlying40] at hw
  obtain ⟨k0, q0, _, w0⟩ := DataW.trod_int Tryz.underlying3 h0
  obtain ⟨k1, q1, _, w1⟩ := DataW.trod_string Tryz.underlying9 h1
  have u2 : ∀ n ∈ (xs[2]'(by omega)).1.weights Tryz.prog 38, n ≤ reachBytes := fun n hn => hw n (DataW.weights_mem_each (j := 2) rfl (by rw [List.getElem?_map, List.getElem?_eq_getElem (by omega)]; rfl) n hn)
  obtain ⟨t2, g2, f2⟩ := open_fit _ _ _ h2 u2
  have u3 : ∀ n ∈ (xs[3]'(by omega)).1.weights Tryz.prog 35, n ≤ reachBytes := fun n hn => hw n (DataW.weights_mem_each (j := 3) rfl (by rw [List.getElem?_map, List.getElem?_eq_getElem (by omega)]; rfl) n hn)
  obtain ⟨l3, g3, _, b3, _⟩ := open_slF (S := fun _ => True) Tryz.underlying35 cells_string (by omega) h3 u3 fun _ _ cs y hy _ => by
    obtain ⟨s, hs⟩ := open_str hy
    exact ⟨s, hs, trivial⟩
  rw [bytes_string] at b3
  have u4 : ∀ n ∈ (xs[4]'(by omega)).1.weights Tryz.prog 33, n ≤ reachBytes := fun n hn => hw n (DataW.weights_mem_each (j := 4) rfl (by rw [List.getElem?_map, List.getElem?_eq_getElem (by omega)]; rfl) n hn)
  obtain ⟨l4, g4, m4, b4, f4⟩ := open_slF  Tryz.underlying33 cells_expr (by omega) h4 u4 fun q hq cs y hy hyw => ih q (by omega) cs y hy hyw
  rw [bytes_exprM] at b4
  simp only [List.cons.injEq, and_true] at q0 q1
  subst q0 q1
  exact ⟨_, ExpAt.of w0 w1 g2 g3 m4 g4, .mk f2 b3 b4 f4⟩
theorem open_fitVr {fuel : Nat} {cs : List Value} {x : DataW H × List MemPlace} (h : DataW.trod enc Tryz.prog W 0 (fun _ => true) true fuel 47 cs = some x) (hw : ∀ n ∈ x.1.weights Tryz.prog 47, n ≤ reachBytes) : ∃ t, VarAt W W.heap.size cs t ∧ FitVr t := by
  obtain ⟨xs, n, hf, hx, hlen, hxl, hg⟩ := DataW.trod_struct Tryz.underlying47 h
  rw [cells_var] at hlen
  clear h
  obtain ⟨c0, c1, d0, d1, d2, d3, d4, d5, d6, d7, d8, rfl⟩ := list11 hlen
  have h0 := hg 0 _ rfl
  have h1 := hg 1 _ rfl
  have h2 := hg 2 _ rfl
  have h3 := hg 3 _ rfl
  have hx6 : xs.length = 4 := hxl
  clear hg hxl
  rw [List.getElem?_eq_getElem (by omega)] at h0 h1 h2 h3
  simp only [List.getElem_toArray, List.getElem_cons_zero, List.getElem_cons_succ, cells_int, cells_string, cells_type, cells_value, List.drop_zero, List.drop_succ_cons, List.take_succ_cons, List.take_zero, List.take_nil] at h0 h1 h2 h3
  rw [hx] at hw
  simp only [DataW.weights, Tryz.underlying47] at hw
  obtain ⟨k0, q0, _, w0⟩ := DataW.trod_string Tryz.underlying9 h0
  obtain ⟨k1, q1, _, w1⟩ := DataW.trod_int Tryz.underlying3 h1
  have u2 : ∀ n ∈ (xs[2]'(by omega)).1.weights Tryz.prog 45, n ≤ reachBytes := fun n hn => hw n (DataW.weights_mem_each (j := 2) rfl (by rw [List.getElem?_map, List.getElem?_eq_getElem (by omega)]; rfl) n hn)
  obtain ⟨t2, g2, f2⟩ := open_fitT _ _ _ h2 u2
  have u3 : ∀ n ∈ (xs[3]'(by omega)).1.weights Tryz.prog 38, n ≤ reachBytes := fun n hn => hw n (DataW.weights_mem_each (j := 3) rfl (by rw [List.getElem?_map, List.getElem?_eq_getElem (by omega)]; rfl) n hn)
  obtain ⟨t3, g3, f3⟩ := open_fit _ _ _ h3 u3
  simp only [List.cons.injEq, and_true] at q0 q1
  subst q0 q1
  exact ⟨⟨k0, k1, t2, t3⟩, ⟨⟨_, _, rfl, rfl, rfl, g2, g3⟩, w0, w1⟩, f2, f3⟩
theorem open_fitMs {fuel : Nat} {cs : List Value} {x : DataW H × List MemPlace} (h : DataW.trod enc Tryz.prog W 0 (fun _ => true) true fuel 58 cs = some x) (hw : ∀ n ∈ x.1.weights Tryz.prog 58, n ≤ reachBytes) : ∃ t, MsgAt W W.heap.size cs t ∧ FitMs t := by
  obtain ⟨xs, n, hf, hx, hlen, hxl, hg⟩ := DataW.trod_struct Tryz.underlying58 h
  rw [cells_msg] at hlen
  clear h
  obtain ⟨c0, c1, d0, d1, d2, d3, d4, d5, rfl⟩ := list8 hlen
  have h0 := hg 0 _ rfl
  have h1 := hg 1 _ rfl
  have h2 := hg 2 _ rfl
  have h3 := hg 3 _ rfl
  have hx6 : xs.length = 4 := hxl
  clear hg hxl
  rw [List.getElem?_eq_getElem (by omega)] at h0 h1 h2 h3
  simp only [List.getElem_toArray, List.getElem_cons_zero, List.getElem_cons_succ, cells_int, cells_string, cells_type, List.drop_zero, List.drop_succ_cons, List.take_succ_cons, List.take_zero, List.take_nil] at h0 h1 h2 h3
  rw [hx] at hw
  simp only [DataW.weights, Tryz.underlying58] at hw
  obtain ⟨k0, q0, _, w0⟩ := DataW.trod_string Tryz.underlying9 h0
  obtain ⟨k1, q1, _, w1⟩ := DataW.trod_int Tryz.underlying3 h1
  have u2 : ∀ n ∈ (xs[2]'(by omega)).1.weights Tryz.prog 45, n ≤ reachBytes := fun n hn => hw n (DataW.weights_mem_each (j := 2) rfl (by rw [List.getElem?_map, List.getElem?_eq_getElem (by omega)]; rfl) n hn)
  obtain ⟨t2, g2, f2⟩ := open_fitT _ _ _ h2 u2
  have u3 : ∀ n ∈ (xs[3]'(by omega)).1.weights Tryz.prog 45, n ≤ reachBytes := fun n hn => hw n (DataW.weights_mem_each (j := 3) rfl (by rw [List.getElem?_map, List.getElem?_eq_getElem (by omega)]; rfl) n hn)
  obtain ⟨t3, g3, f3⟩ := open_fitT _ _ _ h3 u3
  simp only [List.cons.injEq, and_true] at q0 q1
  subst q0 q1
  exact ⟨⟨k0, k1, t2, t3⟩, ⟨⟨_, _, rfl, rfl, rfl, g2, g3⟩, w0, w1⟩, f2, f3⟩
theorem open_fitNd {fuel : Nat} {cs : List Value} {x : DataW H × List MemPlace} (h : DataW.trod enc Tryz.prog W 0 (fun _ => true) true fuel 42 cs = some x) (hw : ∀ n ∈ x.1.weights Tryz.prog 42, n ≤ reachBytes) : ∃ t, NodeAt W W.heap.size cs t ∧ FitNd t := by
  obtain ⟨xs, n, hf, hx, hlen, hxl, hg⟩ := DataW.trod_struct Tryz.underlying42 h
  rw [cells_node] at hlen
  clear h
  obtain ⟨c0, c1, c2, c3, d0, d1, d2, d3, d4, d5, d6, d7, d8, d9, e0, e1, e2, e3, e4, e5, e6, e7, e8, e9, c6, c7, c8, c9, c10, rfl⟩ := list29 hlen
  have h0 := hg 0 _ rfl
  have h1 := hg 1 _ rfl
  have h2 := hg 2 _ rfl
  have h3 := hg 3 _ rfl
  have h4 := hg 4 _ rfl
  have h5 := hg 5 _ rfl
  have h6 := hg 6 _ rfl
  have h7 := hg 7 _ rfl
  have h8 := hg 8 _ rfl
  have h9 := hg 9 _ rfl
  have h10 := hg 10 _ rfl
  have hx6 : xs.length = 11 := hxl
  clear hg hxl
  rw [List.getElem?_eq_getElem (by omega)] at h0 h1 h2 h3 h4 h5 h6 h7 h8 h9 h10
  simp only [List.getElem_toArray, List.getElem_cons_zero, List.getElem_cons_succ, cells_expr, cells_exprs, cells_int, cells_ints, List.drop_zero, List.drop_succ_cons, List.take_succ_cons, List.take_zero, List.take_nil] at h0 h1 h2 h3 h4 h5 h6 h7 h8 h9 h10
  rw [hx] at hw
  simp only [DataW.weights, Tryz.underlying42] at hw
  obtain ⟨k0, q0, _, w0⟩ := DataW.trod_int Tryz.underlying3 h0
  obtain ⟨k1, q1, _, w1⟩ := DataW.trod_int Tryz.underlying3 h1
  have u2 : ∀ n ∈ (xs[2]'(by omega)).1.weights Tryz.prog 32, n ≤ reachBytes := fun n hn => hw n (DataW.weights_mem_each (j := 2) rfl (by rw [List.getElem?_map, List.getElem?_eq_getElem (by omega)]; rfl) n hn)
  obtain ⟨l2, g2, m2, b2, f2⟩ := open_slF (S := fun _ => True) Tryz.underlying32 cells_int (by omega) h2 u2 fun _ _ cs y hy _ => by
    obtain ⟨s, hs⟩ := open_i hy
    exact ⟨s, hs, trivial⟩
  have u3 : ∀ n ∈ (xs[3]'(by omega)).1.weights Tryz.prog 33, n ≤ reachBytes := fun n hn => hw n (DataW.weights_mem_each (j := 3) rfl (by rw [List.getElem?_map, List.getElem?_eq_getElem (by omega)]; rfl) n hn)
  obtain ⟨l3, g3, m3, b3, f3⟩ := open_slF  Tryz.underlying33 cells_expr (by omega) h3 u3 fun _ _ cs y hy hyw => open_fitX _ cs y hy hyw
  have u4 : ∀ n ∈ (xs[4]'(by omega)).1.weights Tryz.prog 40, n ≤ reachBytes := fun n hn => hw n (DataW.weights_mem_each (j := 4) rfl (by rw [List.getElem?_map, List.getElem?_eq_getElem (by omega)]; rfl) n hn)
  obtain ⟨t4, g4, f4⟩ := open_fitX _ _ _ h4 u4
  have u5 : ∀ n ∈ (xs[5]'(by omega)).1.weights Tryz.prog 40, n ≤ reachBytes := fun n hn => hw n (DataW.weights_mem_each (j := 5) rfl (by rw [List.getElem?_map, List.getElem?_eq_getElem (by omega)]; rfl) n hn)
  obtain ⟨t5, g5, f5⟩ := open_fitX _ _ _ h5 u5
  obtain ⟨k6, q6, _, w6⟩ := DataW.trod_int Tryz.underlying3 h6
  obtain ⟨k7, q7, _, w7⟩ := DataW.trod_int Tryz.underlying3 h7
  obtain ⟨k8, q8, _, w8⟩ := DataW.trod_int Tryz.underlying3 h8
  obtain ⟨k9, q9, _, w9⟩ := DataW.trod_int Tryz.underlying3 h9
  obtain ⟨k10, q10, _, w10⟩ := DataW.trod_int Tryz.underlying3 h10
  simp only [List.cons.injEq, and_true] at q0 q1 q6 q7 q8 q9 q10
  subst q0 q1 q6 q7 q8 q9 q10
  exact ⟨⟨k0, k1, l2, l3, t4, t5, k6, k7, k8, k9, k10⟩, ⟨⟨_, _, _, _, rfl, rfl, rfl, g2, g3, m3, g4, g5⟩, w0, w1, w6, w7, w8, w9, w10⟩, f3, f4, f5⟩
theorem open_fitM {fuel : Nat} {cs : List Value} {x : DataW H × List MemPlace} (h : DataW.trod enc Tryz.prog W 0 (fun _ => true) true fuel 27 cs = some x) (hw : ∀ n ∈ x.1.weights Tryz.prog 27, n ≤ reachBytes) : ∃ t, ModelAt W W.heap.size cs t ∧ FitM0 t := by
  obtain ⟨xs, n, hf, hx, hlen, hxl, hg⟩ := DataW.trod_struct Tryz.underlying27 h
  rw [cells_model] at hlen
  clear h
  obtain ⟨c0, c1, c2, c3, c4, c5, rfl⟩ := list6 hlen
  have h0 := hg 0 _ rfl
  have h1 := hg 1 _ rfl
  have h2 := hg 2 _ rfl
  have h3 := hg 3 _ rfl
  have h4 := hg 4 _ rfl
  have h5 := hg 5 _ rfl
  have hx6 : xs.length = 6 := hxl
  clear hg hxl
  rw [List.getElem?_eq_getElem (by omega)] at h0 h1 h2 h3 h4 h5
  simp only [List.getElem_toArray, List.getElem_cons_zero, List.getElem_cons_succ, cells_int, cells_msgs, cells_nodes, cells_pairs, cells_vars, List.drop_zero, List.drop_succ_cons, List.take_succ_cons, List.take_zero, List.take_nil] at h0 h1 h2 h3 h4 h5
  rw [hx] at hw
  simp only [DataW.weights, Tryz.underlying27] at hw
  obtain ⟨k0, q0, _, w0⟩ := DataW.trod_int Tryz.underlying3 h0
  have u1 : ∀ n ∈ (xs[1]'(by omega)).1.weights Tryz.prog 22, n ≤ reachBytes := fun n hn => hw n (DataW.weights_mem_each (j := 1) rfl (by rw [List.getElem?_map, List.getElem?_eq_getElem (by omega)]; rfl) n hn)
  obtain ⟨l1, g1, m1, b1, f1⟩ := open_slF (S := fun _ => True) Tryz.underlying22 cells_pair (by omega) h1 u1 fun _ _ cs y hy _ => by
    obtain ⟨s, hs⟩ := open_pr hy
    exact ⟨s, hs, trivial⟩
  have u2 : ∀ n ∈ (xs[2]'(by omega)).1.weights Tryz.prog 22, n ≤ reachBytes := fun n hn => hw n (DataW.weights_mem_each (j := 2) rfl (by rw [List.getElem?_map, List.getElem?_eq_getElem (by omega)]; rfl) n hn)
  obtain ⟨l2, g2, m2, b2, f2⟩ := open_slF (S := fun _ => True) Tryz.underlying22 cells_pair (by omega) h2 u2 fun _ _ cs y hy _ => by
    obtain ⟨s, hs⟩ := open_pr hy
    exact ⟨s, hs, trivial⟩
  have u3 : ∀ n ∈ (xs[3]'(by omega)).1.weights Tryz.prog 23, n ≤ reachBytes := fun n hn => hw n (DataW.weights_mem_each (j := 3) rfl (by rw [List.getElem?_map, List.getElem?_eq_getElem (by omega)]; rfl) n hn)
  obtain ⟨l3, g3, m3, b3, f3⟩ := open_slF  Tryz.underlying23 cells_var (by omega) h3 u3 fun _ _ cs y hy hyw => open_fitVr hy hyw
  have u4 : ∀ n ∈ (xs[4]'(by omega)).1.weights Tryz.prog 24, n ≤ reachBytes := fun n hn => hw n (DataW.weights_mem_each (j := 4) rfl (by rw [List.getElem?_map, List.getElem?_eq_getElem (by omega)]; rfl) n hn)
  obtain ⟨l4, g4, m4, b4, f4⟩ := open_slF  Tryz.underlying24 cells_msg (by omega) h4 u4 fun _ _ cs y hy hyw => open_fitMs hy hyw
  have u5 : ∀ n ∈ (xs[5]'(by omega)).1.weights Tryz.prog 25, n ≤ reachBytes := fun n hn => hw n (DataW.weights_mem_each (j := 5) rfl (by rw [List.getElem?_map, List.getElem?_eq_getElem (by omega)]; rfl) n hn)
  obtain ⟨l5, g5, m5, b5, f5⟩ := open_slF  Tryz.underlying25 cells_node (by omega) h5 u5 fun _ _ cs y hy hyw => open_fitNd hy hyw
  simp only [List.cons.injEq, and_true] at q0
  subst q0
  exact ⟨⟨k0, l1, l2, l3, l4, l5⟩, ⟨⟨_, _, _, _, _, rfl, g1, g2, g3, g4, g5⟩, w0⟩, f3, f4, f5⟩
set_option maxRecDepth 100000 in
theorem model_argF {r : Reach} {b0 : Nat} {v : Value} {d : DataW H} {p : List MemPlace} (hv : Value.okWide Tryz.prog W r b0 27 v) (h : DataW.Trod enc Tryz.prog W 0 (fun _ => true) true 27 v d p) (hw : ∀ n ∈ d.weights Tryz.prog 27, n ≤ reachBytes) :
    ∃ cs m, v = .agg ⟨cs⟩ ∧ ModelAt W W.heap.size cs m ∧ FitM0 m := by
  obtain ⟨cs, rfl, _⟩ := okWide_struct Tryz.underlying27 hv
  obtain ⟨fuel, hf⟩ := h
  obtain ⟨m, hm, hfit⟩ := open_fitM hf hw
  exact ⟨cs.toList, m, rfl, by simpa [Value.cells] using hm, hfit⟩
end
end Go.Proofs.YtpmjcbjdcjjplaaGreat
end
