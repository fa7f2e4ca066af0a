/- Parts of a proof: Sl, Tree, Only, Apart, Model. -/
import Derived.Deep.MidRow
import Derived.Below
import Derived.Test.YtpmjcbjdcjjplaaGreatPack1
import Derived.Test.YtpmjcbjdcjjplaaGreatPack2
import Derived.Test.YtpmjcbjdcjjplaaGreatPack3
section
namespace Go.Proofs.YtpmjcbjdcjjplaaGreat
open Go Go.RowKit
set_option linter.unusedVariables false
def SlAt {α : Type} (w : World) (B k : Nat) (R : List Value → α → Prop) (v : Value) (l : List α) : Prop :=
  l.length ≤ 9223372036854775807 ∧ ∃ A c, v = .slice A l.length c ∧ (0 < l.length → ∃ b o, A = some ⟨b, o, none⟩ ∧ b < B ∧
    ∀ (i : Nat) x, l[i]? = some x → ∃ cs : List Value, cs.length = k ∧ w.rangeAt b (o + i * k) cs ∧ R cs x)
theorem rangeAt_below {w w' : World} {B b o : Nat} {cs : List Value} (h : w.rangeAt b o cs) (hb : Below B w w') (hB : b < B) : w'.rangeAt b o cs :=
  fun j v hv => (hb.cell (p := ⟨b, o + j, none⟩) hB).trans (h j v hv)
section
variable {α : Type} {w w' : World} {B k : Nat} {R R' : List Value → α → Prop} {v : Value} {l : List α}
theorem SlAt.below (h : SlAt w B k R v l) (hb : Below B w w') (hR : ∀ cs x, x ∈ l → R cs x → R' cs x) : SlAt w' B k R' v l := by
  obtain ⟨h0, A, c, rfl, h1⟩ := h
  refine ⟨h0, A, c, rfl, fun hp => ?_⟩
  obtain ⟨b, o, rfl, hlt, h2⟩ := h1 hp
  refine ⟨b, o, rfl, hlt, fun i x hx => ?_⟩
  obtain ⟨cs, h3, h4, h5⟩ := h2 i x hx
  exact ⟨cs, h3, rangeAt_below h4 hb hlt, hR cs x (List.mem_of_getElem? hx) h5⟩
theorem SlAt.more {B' : Nat} (h : SlAt w B k R v l) (hB : B ≤ B') : SlAt w B' k R v l := by
  obtain ⟨h0, A, c, rfl, h1⟩ := h
  refine ⟨h0, A, c, rfl, fun hp => ?_⟩
  obtain ⟨b, o, rfl, hlt, h2⟩ := h1 hp
  exact ⟨b, o, rfl, by omega, h2⟩
theorem SlAt.nil (w : World) (B k : Nat) (R : List Value → α → Prop) : SlAt w B k R (.slice none 0 0) [] := ⟨by simp, none, 0, rfl, fun h => by simp at h⟩
end
def flat {α : Type} (enc : α → List Value) (l : List α) : List Value := l.flatMap enc
def Enc {α : Type} (enc : α → List Value) : List Value → α → Prop := fun cs x => cs = enc x
section
variable {α : Type} {enc : α → List Value} {k : Nat}
theorem flat_len (hk : ∀ x, (enc x).length = k) : ∀ l : List α, (flat enc l).length = l.length * k
  | [] => by simp [flat]
  | x :: l => by
    show (enc x ++ flat enc l).length = _
    rw [List.length_append, hk, flat_len hk l, List.length_cons, Nat.succ_mul]; omega
theorem flat_snoc (l : List α) (x : α) : flat enc (l ++ [x]) = flat enc l ++ enc x := by simp [flat]
theorem flat_at (hk : ∀ x, (enc x).length = k) : ∀ (l : List α) (i : Nat) (x : α), l[i]? = some x → ∀ j u, (enc x)[j]? = some u → (flat enc l)[i * k + j]? = some u
  | [], i, x, h => by simp at h
  | y :: l, 0, x, h => fun j u hu => by
    have : y = x := by simpa using h
    subst this
    show (enc y ++ flat enc l)[0 * k + j]? = some u
    rw [Nat.zero_mul, Nat.zero_add, List.getElem?_append_left (by have := (List.getElem?_eq_some_iff.1 hu).1; exact this)]
    exact hu
  | y :: l, i + 1, x, h => fun j u hu => by
    show (enc y ++ flat enc l)[(i + 1) * k + j]? = some u
    rw [List.getElem?_append_right (by rw [hk, Nat.succ_mul]; omega), hk]
    have := flat_at hk l i x (by simpa using h) j u hu
    rw [show (i + 1) * k + j - k = i * k + j by rw [Nat.succ_mul]; omega]
    exact this
end
def OwnSl {α : Type} (T : TypeId) (k : Nat) (enc : α → List Value) (w : World) (base : Nat) (v : Value) (l : List α) : Prop := w.ownsRow base T k v l.length (flat enc l)
section
variable {α : Type} {T : TypeId} {k : Nat} {enc : α → List Value} {w w' : World} {base : Nat} {v : Value} {l : List α}
theorem OwnSl.nil (w : World) (base : Nat) : OwnSl T k enc w base (.slice none 0 0) [] := ⟨by simp [flat], .inl ⟨rfl, rfl⟩⟩
theorem OwnSl.at (h : OwnSl T k enc w base v l) (hk : ∀ x, (enc x).length = k) (hl : l.length ≤ 9223372036854775807) : SlAt w w.heap.size k (Enc enc) v l := by
  refine ⟨hl, ?_⟩
  rcases h.2 with ⟨rfl, h0⟩ | ⟨g, cap, cur, hv, _, hg, _⟩
  · exact ⟨none, 0, by rw [h0], fun h1 => by omega⟩
  · refine ⟨some ⟨g, 0, none⟩, cap, hv, fun _ => ?_⟩
    have hlt : g < w.heap.size := by
      rcases Nat.lt_or_ge g w.heap.size with h2 | h2
      · exact h2
      · rw [Array.getElem?_eq_none h2] at hg; cases hg
    refine ⟨g, 0, rfl, hlt, fun i x hx => ⟨enc x, hk x, fun j u hu => ?_, rfl⟩⟩
    have := World.ownsRow.cells h (g := g) (by rw [hv]; rfl) (i * k + j) u (flat_at hk l i x hx j u hu)
    rw [Addr.add_mid] at this
    rw [show 0 + i * k + j = 0 + (i * k + j) by omega]; exact this
theorem OwnSl.mono {base' : Nat} (h : OwnSl T k enc w base v l) (hb : base' ≤ base) : OwnSl T k enc w base' v l := by
  refine ⟨h.1, ?_⟩
  rcases h.2 with h1 | ⟨g, cap, cur, h1, h2, h3⟩
  · exact .inl h1
  · exact .inr ⟨g, cap, cur, h1, by omega, h3⟩
theorem OwnSl.below (h : OwnSl T k enc w base v l) (hb : Below w.heap.size w w') : OwnSl T k enc w' base v l :=
  World.ownsRow.kept h (row := none) ⟨hb.os, hb.tape, hb.output, hb.size, fun i hi _ => hb.block i hi⟩ (by cases e : v.ownBlock <;> simp)
def encI (i : Int) : List Value := [.int .i64 i]
theorem flat_ints : ∀ l : List Int, flat encI l = l.map fun i => .int .i64 i
  | [] => rfl
  | a :: l => by
    show encI a ++ flat encI l = _
    rw [flat_ints l]; rfl
theorem OwnSl.block (h : OwnSl T k enc w base v l) {b : Nat} (hb : v.ownBlock = some b) : base ≤ b := by
  rcases h.2 with ⟨rfl, _⟩ | ⟨g, cap, cur, rfl, hg, _⟩
  · cases hb
  · have : g = b := by simpa [Value.ownBlock] using hb
    omega
end
section
variable {P : Program} {ops : Array Oper} {rest : List Oper} {o : Oper} {a : Act} {w : World} {Q : Exit → Act → World → Prop}
theorem wl_sload (T : TypeId) (x : Operand) (ho : o.op = .load T x) (hw : Region.wanted o (yielded ops a.tmps) = true) (b ofs : Nat) (cs : List Value) (d : TypeDesc)
    (hx : a.eval x = .pointer (some ⟨b, ofs, none⟩)) (hc : w.rangeAt b ofs cs) (hu : P.underlying T = some d) (hd : d.isRow = true) (hi : (P.info? T).map (·.size) = some cs.length)
    (h : wpList P ops Q rest (a.put o.dst (.agg cs.toArray)) w) : wpList P ops Q (o :: rest) a w :=
  wpList_step fun K hK => by
    rw [if_pos hw]
    exact wp_load_mid T x ho b ofs hx cs d hc hu hd hi (hK _ _ h)
theorem wl_sstore (T : TypeId) (x y : Operand) (ho : o.op = .store T x y) (hw : Region.wanted o (yielded ops a.tmps) = true) (b ofs : Nat) (cs : List Value)
    (hx : a.eval x = .pointer (some ⟨b, ofs, none⟩)) (hy : a.eval y = .agg cs.toArray) (ht : w.there b ofs cs.length) (hi : (P.info? T).map (·.size) = some cs.length) (h1 : ∀ v ∈ cs, v.oneCell' = true)
    (h : wpList P ops Q rest (a.put o.dst undef) (w.setCells b ofs cs)) : wpList P ops Q (o :: rest) a w :=
  wpList_step fun K hK => by
    rw [if_pos hw]
    exact wp_store_mid T x y ho b ofs cs.toArray hx hy (by simpa using ht) (by simpa using hi) (all_oneCell_toArray h1) (by simpa using hK _ _ h)
theorem exec_sload (T : TypeId) {x : Operand} (ho : o.op = .load T x) (b ofs : Nat) (cs : List Value) (d : TypeDesc)
    (hx : a.eval x = .pointer (some ⟨b, ofs, none⟩)) (hc : w.rangeAt b ofs cs) (hu : P.underlying T = some d) (hd : d.isRow = true) (hi : (P.info? T).map (·.size) = some cs.length) :
    (execOp a.eval o).run P w = .ok (.value (.agg cs.toArray)) w := by
  unfold execOp
  simp only [ho, hx, Instr.loadAt, Instr.sureAddr, Sem.run_bind, Sem.run_pure, Result.andThen_ok, run_loadVar_mid w b ofs T cs d hc hu hd hi]
theorem wl_push {α : Type} (hgd : o.guard = none) (s x : Operand) (t : TypeId) (ho : o.op = .call { callee := .builtin .append, args := #[s, x], argTypes := #[t, t] })
    (base : Nat) (e : TypeId) (i : TypeInfo) (z : Value) (k bytes : Nat) (enc : α → List Value) (ht : P.underlying t = some (.slice e)) (hi : P.info? e = some i) (hz : i.zero = some z)
    (hsize : i.size = k) (hby : i.bytes = bytes) (hzs : z.cells.size = k) (hsz : 0 < k) (hk : ∀ x, (enc x).length = k) (h1 : ∀ x, ∀ u ∈ enc x, u.oneCell' = true)
    (v : Value) (l : List α) (hs : a.eval s = v) (hown : OwnSl e k enc w base v l) (nb c : Nat) (y : α) (hx : a.eval x = .slice (some ⟨nb, 0, none⟩) 1 c)
    (hc : ∀ j u, (enc y)[j]? = some u → w.cell? ⟨nb, j, none⟩ = some u) (h63 : l.length + 1 ≤ maxLen) (hbytes : (l.length + 1) * bytes ≤ 140737488355328) (hbase : base ≤ w.heap.size)
    (h : ∀ v' w', OwnSl e k enc w' base v' (l ++ [y]) → w.grownBy w' v.ownBlock → wpList P ops Q rest (a.put o.dst v') w') : wpList P ops Q (o :: rest) a w :=
  wl_append hgd s x t ho base e i z k bytes ht hi hz hsize hby hzs hsz v l.length (flat enc l) hs hown (some ⟨nb, 0, none⟩) 1 c (enc y) hx (by rw [hk]; omega)
    (fun _ => ⟨_, rfl, fun j u hu => by rw [Addr.add_mid, Nat.zero_add]; exact hc j u hu⟩) (h1 y) h63 hbytes hbase
    (fun v' w' ho hg => h v' w' (by unfold OwnSl; rw [flat_snoc, List.length_append]; exact ho) hg)
end
end Go.Proofs.YtpmjcbjdcjjplaaGreat
end
section
namespace Go.Proofs.YtpmjcbjdcjjplaaGreat
open Go Go.RowKit
set_option linter.unusedVariables false
inductive VT where
  | mk (kind n : Int) (f : Nat) (s : ByteArray) (names : List ByteArray) (items : List VT)
inductive TT where
  | mk (kind : Int) (names : List ByteArray) (items : List TT)
inductive ET where
  | mk (kind : Int) (s : ByteArray) (v : VT) (names : List ByteArray) (kids : List ET)
def VT.items : VT → List VT | .mk _ _ _ _ _ l => l
def TT.items : TT → List TT | .mk _ _ l => l
def ET.kids : ET → List ET | .mk _ _ _ _ l => l
theorem VT.ind {P : VT → Prop} (h : ∀ k n f s ns its, (∀ x ∈ its, P x) → P (.mk k n f s ns its)) : ∀ t, P t
  | .mk k n f s ns its => h k n f s ns its fun x hx => VT.ind h x
termination_by t => SizeOf.sizeOf t
decreasing_by have := List.sizeOf_lt_of_mem hx; simp; omega
theorem TT.ind {P : TT → Prop} (h : ∀ k ns its, (∀ x ∈ its, P x) → P (.mk k ns its)) : ∀ t, P t
  | .mk k ns its => h k ns its fun x hx => TT.ind h x
termination_by t => SizeOf.sizeOf t
decreasing_by have := List.sizeOf_lt_of_mem hx; simp; omega
theorem ET.ind {P : ET → Prop} (h : ∀ k s v ns its, (∀ x ∈ its, P x) → P (.mk k s v ns its)) : ∀ t, P t
  | .mk k s v ns its => h k s v ns its fun x hx => ET.ind h x
termination_by t => SizeOf.sizeOf t
decreasing_by have := List.sizeOf_lt_of_mem hx; simp; omega
def wfI (i : Int) : Prop := (Lit.int .i64 i).wf = true
def StrR : List Value → ByteArray → Prop := fun cs s => cs = [.string s] ∧ s.size ≤ maxLen
def IntR : List Value → Int → Prop := fun cs i => cs = [.int .i64 i] ∧ wfI i
def PairR : List Value → Int × Int → Prop := fun cs p => cs = [.int .i64 p.1, .int .i64 p.2] ∧ wfI p.1 ∧ wfI p.2
inductive ValAt (w : World) (B : Nat) : List Value → VT → Prop
  | mk {k n : Int} {f : Nat} {s : ByteArray} {ns : List ByteArray} {its : List VT} {vn : Value} {A : Option Addr} {c : Nat} (b o : Nat) (css : Nat → List Value)
      (hk : wfI k) (hn : wfI n) (hf : (Lit.float .f64 f).wf = true) (hs : s.size ≤ maxLen) (hns : SlAt w B 1 StrR vn ns) (hl : its.length ≤ maxLen)
      (hA : 0 < its.length → A = some ⟨b, o, none⟩ ∧ b < B) (hc : ∀ i, i < its.length → (css i).length = 6 ∧ w.rangeAt b (o + i * 6) (css i))
      (hi : ∀ i x, its[i]? = some x → ValAt w B (css i) x) :
      ValAt w B [.int .i64 k, .int .i64 n, .float .f64 f, .string s, vn, .slice A its.length c] (.mk k n f s ns its)
inductive TypAt (w : World) (B : Nat) : List Value → TT → Prop
  | mk {k : Int} {ns : List ByteArray} {its : List TT} {vn : Value} {A : Option Addr} {c : Nat} (b o : Nat) (css : Nat → List Value)
      (hk : wfI k) (hns : SlAt w B 1 StrR vn ns) (hl : its.length ≤ maxLen)
      (hA : 0 < its.length → A = some ⟨b, o, none⟩ ∧ b < B) (hc : ∀ i, i < its.length → (css i).length = 3 ∧ w.rangeAt b (o + i * 3) (css i))
      (hi : ∀ i x, its[i]? = some x → TypAt w B (css i) x) :
      TypAt w B [.int .i64 k, vn, .slice A its.length c] (.mk k ns its)
inductive ExpAt (w : World) (B : Nat) : List Value → ET → Prop
  | mk {k : Int} {s : ByteArray} {t : VT} {c0 c1 c2 c3 c4 c5 : Value} {ns : List ByteArray} {its : List ET} {vn : Value} {A : Option Addr} {c : Nat} (b o : Nat) (css : Nat → List Value)
      (hk : wfI k) (hs : s.size ≤ maxLen) (hv : ValAt w B [c0, c1, c2, c3, c4, c5] t) (hns : SlAt w B 1 StrR vn ns) (hl : its.length ≤ maxLen)
      (hA : 0 < its.length → A = some ⟨b, o, none⟩ ∧ b < B) (hc : ∀ i, i < its.length → (css i).length = 10 ∧ w.rangeAt b (o + i * 10) (css i))
      (hi : ∀ i x, its[i]? = some x → ExpAt w B (css i) x) :
      ExpAt w B [.int .i64 k, .string s, c0, c1, c2, c3, c4, c5, vn, .slice A its.length c] (.mk k s t ns its)
section
variable {w w' : World} {B B' : Nat} {cs : List Value}
theorem maxLen_small : maxLen ≤ 9223372036854775807 := by unfold maxLen; omega
theorem items_at {α : Type} {k : Nat} {R : List Value → α → Prop} {its : List α} {A : Option Addr} {c b o : Nat} {css : Nat → List Value} (hl : its.length ≤ maxLen)
    (hA : 0 < its.length → A = some ⟨b, o, none⟩ ∧ b < B) (hc : ∀ i, i < its.length → (css i).length = k ∧ w.rangeAt b (o + i * k) (css i)) (hi : ∀ i x, its[i]? = some x → R (css i) x) :
    SlAt w B k R (.slice A its.length c) its :=
  ⟨Nat.le_trans hl maxLen_small, A, c, rfl, fun h0 => ⟨b, o, (hA h0).1, (hA h0).2, fun i x hx => ⟨css i, (hc i (List.getElem?_eq_some_iff.1 hx).1).1, (hc i (List.getElem?_eq_some_iff.1 hx).1).2, hi i x hx⟩⟩⟩
theorem items_of {α : Type} {k : Nat} {R : List Value → α → Prop} {its : List α} {v : Value} (h : SlAt w B k R v its) (hm : its.length ≤ maxLen) :
    ∃ (A : Option Addr) (c b o : Nat) (css : Nat → List Value), v = .slice A its.length c ∧ (0 < its.length → A = some ⟨b, o, none⟩ ∧ b < B) ∧ (∀ i, i < its.length → (css i).length = k ∧ w.rangeAt b (o + i * k) (css i)) ∧ (∀ i x, its[i]? = some x → R (css i) x) := by
  obtain ⟨_, A, c, rfl, h1⟩ := h
  by_cases h0 : 0 < its.length
  · obtain ⟨b, o, rfl, hb, h2⟩ := h1 h0
    have hex : ∀ i, ∃ cs : List Value, ∀ x, its[i]? = some x → cs.length = k ∧ w.rangeAt b (o + i * k) cs ∧ R cs x := fun i => by
      cases hx : its[i]? with
      | none => exact ⟨[], fun x h => by cases h⟩
      | some x =>
        obtain ⟨cs, h3⟩ := h2 i x hx
        exact ⟨cs, fun y hy => by injection hy with hy; subst hy; exact h3⟩
    refine ⟨_, c, b, o, fun i => (hex i).choose, rfl, fun _ => ⟨rfl, hb⟩, fun i hi => ?_, fun i x hx => ((hex i).choose_spec x hx).2.2⟩
    have := (hex i).choose_spec its[i] (List.getElem?_eq_getElem hi)
    exact ⟨this.1, this.2.1⟩
  · exact ⟨A, c, 0, 0, fun _ => [], rfl, fun h => absurd h h0, fun i hi => by omega, fun i x hx => by have := (List.getElem?_eq_some_iff.1 hx).1; omega⟩
theorem ValAt.under {t : VT} (h : ValAt w B cs t) (hb : Below B w w') : ValAt w' B cs t := by
  induction h with
  | mk b o css hk hn hf hs hns hl hA hc hi ih =>
    exact .mk b o css hk hn hf hs (hns.below hb fun _ _ _ h => h) hl hA (fun i h => ⟨(hc i h).1, rangeAt_below (hc i h).2 hb (hA (by omega)).2⟩) ih
theorem ValAt.more {t : VT} (h : ValAt w B cs t) (hB : B ≤ B') : ValAt w B' cs t := by
  induction h with
  | mk b o css hk hn hf hs hns hl hA hc hi ih =>
    exact .mk b o css hk hn hf hs (hns.more hB) hl (fun h => ⟨(hA h).1, Nat.lt_of_lt_of_le (hA h).2 hB⟩) hc ih
theorem TypAt.under {t : TT} (h : TypAt w B cs t) (hb : Below B w w') : TypAt w' B cs t := by
  induction h with
  | mk b o css hk hns hl hA hc hi ih =>
    exact .mk b o css hk (hns.below hb fun _ _ _ h => h) hl hA (fun i h => ⟨(hc i h).1, rangeAt_below (hc i h).2 hb (hA (by omega)).2⟩) ih
theorem TypAt.more {t : TT} (h : TypAt w B cs t) (hB : B ≤ B') : TypAt w B' cs t := by
  induction h with
  | mk b o css hk hns hl hA hc hi ih =>
    exact .mk b o css hk (hns.more hB) hl (fun h => ⟨(hA h).1, Nat.lt_of_lt_of_le (hA h).2 hB⟩) hc ih
theorem ExpAt.under {t : ET} (h : ExpAt w B cs t) (hb : Below B w w') : ExpAt w' B cs t := by
  induction h with
  | mk b o css hk hs hv hns hl hA hc hi ih =>
    exact .mk b o css hk hs (hv.under hb) (hns.below hb fun _ _ _ h => h) hl hA (fun i h => ⟨(hc i h).1, rangeAt_below (hc i h).2 hb (hA (by omega)).2⟩) ih
theorem ExpAt.more {t : ET} (h : ExpAt w B cs t) (hB : B ≤ B') : ExpAt w B' cs t := by
  induction h with
  | mk b o css hk hs hv hns hl hA hc hi ih =>
    exact .mk b o css hk hs (hv.more hB) (hns.more hB) hl (fun h => ⟨(hA h).1, Nat.lt_of_lt_of_le (hA h).2 hB⟩) hc ih
theorem ValAt.inv {k n : Int} {f : Nat} {s : ByteArray} {ns : List ByteArray} {its : List VT} (h : ValAt w B cs (.mk k n f s ns its)) :
    ∃ vn vi, cs = [.int .i64 k, .int .i64 n, .float .f64 f, .string s, vn, vi] ∧ wfI k ∧ wfI n ∧ (Lit.float .f64 f).wf = true ∧ s.size ≤ maxLen ∧ SlAt w B 1 StrR vn ns ∧ its.length ≤ maxLen ∧ SlAt w B 6 (ValAt w B) vi its := by
  cases h with
  | mk b o css hk hn hf hs hns hl hA hc hi => exact ⟨_, _, rfl, hk, hn, hf, hs, hns, hl, items_at hl hA hc hi⟩
theorem TypAt.inv {k : Int} {ns : List ByteArray} {its : List TT} (h : TypAt w B cs (.mk k ns its)) :
    ∃ vn vi, cs = [.int .i64 k, vn, vi] ∧ wfI k ∧ SlAt w B 1 StrR vn ns ∧ its.length ≤ maxLen ∧ SlAt w B 3 (TypAt w B) vi its := by
  cases h with
  | mk b o css hk hns hl hA hc hi => exact ⟨_, _, rfl, hk, hns, hl, items_at hl hA hc hi⟩
theorem ExpAt.inv {k : Int} {s : ByteArray} {t : VT} {ns : List ByteArray} {its : List ET} (h : ExpAt w B cs (.mk k s t ns its)) :
    ∃ c0 c1 c2 c3 c4 c5 vn vi, cs = [.int .i64 k, .string s, c0, c1, c2, c3, c4, c5, vn, vi] ∧ wfI k ∧ s.size ≤ maxLen ∧ ValAt w B [c0, c1, c2, c3, c4, c5] t ∧ SlAt w B 1 StrR vn ns ∧ its.length ≤ maxLen ∧ SlAt w B 10 (ExpAt w B) vi its := by
  cases h with
  | mk b o css hk hs hv hns hl hA hc hi => exact ⟨_, _, _, _, _, _, _, _, rfl, hk, hs, hv, hns, hl, items_at hl hA hc hi⟩
theorem ValAt.of {k n : Int} {f : Nat} {s : ByteArray} {ns : List ByteArray} {its : List VT} {vn vi : Value} (hk : wfI k) (hn : wfI n) (hf : (Lit.float .f64 f).wf = true) (hs : s.size ≤ maxLen)
    (hns : SlAt w B 1 StrR vn ns) (hl : its.length ≤ maxLen) (hi : SlAt w B 6 (ValAt w B) vi its) : ValAt w B [.int .i64 k, .int .i64 n, .float .f64 f, .string s, vn, vi] (.mk k n f s ns its) := by
  obtain ⟨A, c, b, o, css, rfl, h1, h2, h3⟩ := items_of hi hl
  exact .mk b o css hk hn hf hs hns hl h1 h2 h3
theorem TypAt.of {k : Int} {ns : List ByteArray} {its : List TT} {vn vi : Value} (hk : wfI k)
    (hns : SlAt w B 1 StrR vn ns) (hl : its.length ≤ maxLen) (hi : SlAt w B 3 (TypAt w B) vi its) : TypAt w B [.int .i64 k, vn, vi] (.mk k ns its) := by
  obtain ⟨A, c, b, o, css, rfl, h1, h2, h3⟩ := items_of hi hl
  exact .mk b o css hk hns hl h1 h2 h3
theorem ExpAt.of {k : Int} {s : ByteArray} {t : VT} {ns : List ByteArray} {its : List ET} {c0 c1 c2 c3 c4 c5 vn vi : Value} (hk : wfI k) (hs : s.size ≤ maxLen) (hv : ValAt w B [c0, c1, c2, c3, c4, c5] t)
    (hns : SlAt w B 1 StrR vn ns) (hl : its.length ≤ maxLen) (hi : SlAt w B 10 (ExpAt w B) vi its) : ExpAt w B [.int .i64 k, .string s, c0, c1, c2, c3, c4, c5, vn, vi] (.mk k s t ns its) := by
  obtain ⟨A, c, b, o, css, rfl, h1, h2, h3⟩ := items_of hi hl
  exact .mk b o css hk hs hv hns hl h1 h2 h3
end
structure VarT where
  name : ByteArray
  label : Int
  type : TT
  init : VT
structure MsgT where
  name : ByteArray
  label : Int
  key : TT
  body : TT
structure NodeT where
  kind : Int
  label : Int
  next : List Int
  conds : List ET
  expr : ET
  body : ET
  var : Int
  msg : Int
  catch_ : Int
  wait : Int
  from_ : Int
structure ModelT where
  labels : Int
  order : List (Int × Int)
  grants : List (Int × Int)
  vars : List VarT
  msgs : List MsgT
  nodes : List NodeT
structure VarAt (w : World) (B : Nat) (cs : List Value) (x : VarT) : Prop where
  ex : ∃ ct ci, cs = [.string x.name, .int .i64 x.label] ++ ct ++ ci ∧ ct.length = 3 ∧ ci.length = 6 ∧ TypAt w B ct x.type ∧ ValAt w B ci x.init
  name : x.name.size ≤ maxLen
  label : wfI x.label
structure MsgAt (w : World) (B : Nat) (cs : List Value) (x : MsgT) : Prop where
  ex : ∃ ck cb, cs = [.string x.name, .int .i64 x.label] ++ ck ++ cb ∧ ck.length = 3 ∧ cb.length = 3 ∧ TypAt w B ck x.key ∧ TypAt w B cb x.body
  name : x.name.size ≤ maxLen
  label : wfI x.label
structure NodeAt (w : World) (B : Nat) (cs : List Value) (x : NodeT) : Prop where
  ex : ∃ vn vc ce cb, cs = [.int .i64 x.kind, .int .i64 x.label, vn, vc] ++ ce ++ cb ++ [.int .i64 x.var, .int .i64 x.msg, .int .i64 x.catch_, .int .i64 x.wait, .int .i64 x.from_] ∧
    ce.length = 10 ∧ cb.length = 10 ∧ SlAt w B 1 IntR vn x.next ∧ SlAt w B 10 (ExpAt w B) vc x.conds ∧ x.conds.length ≤ maxLen ∧ ExpAt w B ce x.expr ∧ ExpAt w B cb x.body
  wf : wfI x.kind ∧ wfI x.label ∧ wfI x.var ∧ wfI x.msg ∧ wfI x.catch_ ∧ wfI x.wait ∧ wfI x.from_
structure ModelAt (w : World) (B : Nat) (cs : List Value) (m : ModelT) : Prop where
  ex : ∃ v1 v2 v3 v4 v5, cs = [.int .i64 m.labels, v1, v2, v3, v4, v5] ∧ SlAt w B 2 PairR v1 m.order ∧ SlAt w B 2 PairR v2 m.grants ∧ SlAt w B 11 (VarAt w B) v3 m.vars ∧ SlAt w B 8 (MsgAt w B) v4 m.msgs ∧ SlAt w B 29 (NodeAt w B) v5 m.nodes
  wf : wfI m.labels
section
variable {w w' : World} {B B' : Nat} {cs : List Value}
theorem VarAt.under {x : VarT} (h : VarAt w B cs x) (hb : Below B w w') : VarAt w' B cs x := by
  obtain ⟨⟨ct, ci, h1, h2, h3, h4, h5⟩, h6, h7⟩ := h
  exact ⟨⟨ct, ci, h1, h2, h3, h4.under hb, h5.under hb⟩, h6, h7⟩
theorem MsgAt.under {x : MsgT} (h : MsgAt w B cs x) (hb : Below B w w') : MsgAt w' B cs x := by
  obtain ⟨⟨ct, ci, h1, h2, h3, h4, h5⟩, h6, h7⟩ := h
  exact ⟨⟨ct, ci, h1, h2, h3, h4.under hb, h5.under hb⟩, h6, h7⟩
theorem NodeAt.under {x : NodeT} (h : NodeAt w B cs x) (hb : Below B w w') : NodeAt w' B cs x := by
  obtain ⟨⟨vn, vc, ce, cb, h1, h2, h3, h4, h5, h6, h7, h8⟩, h9⟩ := h
  exact ⟨⟨vn, vc, ce, cb, h1, h2, h3, h4.below hb (fun _ _ _ h => h), h5.below hb (fun _ _ _ h => h.under hb), h6, h7.under hb, h8.under hb⟩, h9⟩
theorem ModelAt.under {m : ModelT} (h : ModelAt w B cs m) (hb : Below B w w') : ModelAt w' B cs m := by
  obtain ⟨⟨v1, v2, v3, v4, v5, h1, h2, h3, h4, h5, h6⟩, h7⟩ := h
  exact ⟨⟨v1, v2, v3, v4, v5, h1, h2.below hb (fun _ _ _ h => h), h3.below hb (fun _ _ _ h => h), h4.below hb (fun _ _ _ h => h.under hb), h5.below hb (fun _ _ _ h => h.under hb), h6.below hb (fun _ _ _ h => h.under hb)⟩, h7⟩
theorem SlAt.one {α : Type} {k : Nat} {R : List Value → α → Prop} {v : Value} {l : List α} (h : SlAt w B k R v l) : v.oneCell' = true := by
  obtain ⟨_, A, c, rfl, _⟩ := h; rfl
theorem ValAt.one {x : VT} (h : ValAt w B cs x) : ∀ v ∈ cs, v.oneCell' = true := by
  cases x
  obtain ⟨vn, vi, rfl, _, _, _, _, h1, _, h2⟩ := h.inv
  intro v hv
  simp only [List.mem_cons, List.not_mem_nil, or_false] at hv
  rcases hv with rfl | rfl | rfl | rfl | rfl | rfl
  · rfl
  · rfl
  · rfl
  · rfl
  · exact h1.one
  · exact h2.one
theorem TypAt.one {x : TT} (h : TypAt w B cs x) : ∀ v ∈ cs, v.oneCell' = true := by
  cases x
  obtain ⟨vn, vi, rfl, _, h1, _, h2⟩ := h.inv
  intro v hv
  simp only [List.mem_cons, List.not_mem_nil, or_false] at hv
  rcases hv with rfl | rfl | rfl
  · rfl
  · exact h1.one
  · exact h2.one
theorem ExpAt.one {x : ET} (h : ExpAt w B cs x) : ∀ v ∈ cs, v.oneCell' = true := by
  cases x
  obtain ⟨c0, c1, c2, c3, c4, c5, vn, vi, rfl, _, _, h3, h1, _, h2⟩ := h.inv
  have h4 := h3.one
  intro v hv
  simp only [List.mem_cons, List.not_mem_nil, or_false] at hv h4
  rcases hv with rfl | rfl | h | h | h | h | h | h | rfl | rfl
  · rfl
  · rfl
  · exact h4 v (.inl h)
  · exact h4 v (.inr (.inl h))
  · exact h4 v (.inr (.inr (.inl h)))
  · exact h4 v (.inr (.inr (.inr (.inl h))))
  · exact h4 v (.inr (.inr (.inr (.inr (.inl h)))))
  · exact h4 v (.inr (.inr (.inr (.inr (.inr h)))))
  · exact h1.one
  · exact h2.one
theorem VarAt.one {x : VarT} (h : VarAt w B cs x) : ∀ v ∈ cs, v.oneCell' = true := by
  obtain ⟨⟨ct, ci, rfl, _, _, h1, h2⟩, _, _⟩ := h
  intro v hv
  simp only [List.mem_append, List.mem_cons, List.not_mem_nil, or_false] at hv
  rcases hv with ((rfl | rfl) | hv) | hv
  · rfl
  · rfl
  · exact h1.one v hv
  · exact h2.one v hv
theorem MsgAt.one {x : MsgT} (h : MsgAt w B cs x) : ∀ v ∈ cs, v.oneCell' = true := by
  obtain ⟨⟨ct, ci, rfl, _, _, h1, h2⟩, _, _⟩ := h
  intro v hv
  simp only [List.mem_append, List.mem_cons, List.not_mem_nil, or_false] at hv
  rcases hv with ((rfl | rfl) | hv) | hv
  · rfl
  · rfl
  · exact h1.one v hv
  · exact h2.one v hv
theorem NodeAt.one {x : NodeT} (h : NodeAt w B cs x) : ∀ v ∈ cs, v.oneCell' = true := by
  obtain ⟨⟨vn, vc, ce, cb, rfl, _, _, h1, h2, _, h3, h4⟩, _⟩ := h
  intro v hv
  simp only [List.mem_append, List.mem_cons, List.not_mem_nil, or_false] at hv
  rcases hv with (((rfl | rfl | rfl | rfl) | hv) | hv) | (rfl | rfl | rfl | rfl | rfl)
  · rfl
  · rfl
  · exact h1.one
  · exact h2.one
  · exact h3.one v hv
  · exact h4.one v hv
  all_goals rfl
theorem SlAt.weak {α : Type} {k : Nat} {R R' : List Value → α → Prop} {v : Value} {l : List α} (h : SlAt w B k R v l) (hR : ∀ cs x, R cs x → R' cs x) : SlAt w B k R' v l := by
  obtain ⟨h0, A, c, rfl, h1⟩ := h
  refine ⟨h0, A, c, rfl, fun hp => ?_⟩
  obtain ⟨b, o, rfl, hlt, h2⟩ := h1 hp
  refine ⟨b, o, rfl, hlt, fun i x hx => ?_⟩
  obtain ⟨cs, h3, h4, h5⟩ := h2 i x hx
  exact ⟨cs, h3, h4, hR cs x h5⟩
theorem VarAt.more {x : VarT} (h : VarAt w B cs x) (hB : B ≤ B') : VarAt w B' cs x := by
  obtain ⟨⟨ct, ci, h1, h2, h3, h4, h5⟩, h6, h7⟩ := h
  exact ⟨⟨ct, ci, h1, h2, h3, h4.more hB, h5.more hB⟩, h6, h7⟩
theorem MsgAt.more {x : MsgT} (h : MsgAt w B cs x) (hB : B ≤ B') : MsgAt w B' cs x := by
  obtain ⟨⟨ct, ci, h1, h2, h3, h4, h5⟩, h6, h7⟩ := h
  exact ⟨⟨ct, ci, h1, h2, h3, h4.more hB, h5.more hB⟩, h6, h7⟩
theorem NodeAt.more {x : NodeT} (h : NodeAt w B cs x) (hB : B ≤ B') : NodeAt w B' cs x := by
  obtain ⟨⟨vn, vc, ce, cb, h1, h2, h3, h4, h5, h6, h7, h8⟩, h9⟩ := h
  exact ⟨⟨vn, vc, ce, cb, h1, h2, h3, h4.more hB, (h5.more hB).weak (fun _ _ h => h.more hB), h6, h7.more hB, h8.more hB⟩, h9⟩
theorem ModelAt.more {m : ModelT} (h : ModelAt w B cs m) (hB : B ≤ B') : ModelAt w B' cs m := by
  obtain ⟨⟨v1, v2, v3, v4, v5, h1, h2, h3, h4, h5, h6⟩, h7⟩ := h
  exact ⟨⟨v1, v2, v3, v4, v5, h1, h2.more hB, h3.more hB, (h4.more hB).weak (fun _ _ h => h.more hB), (h5.more hB).weak (fun _ _ h => h.more hB), (h6.more hB).weak (fun _ _ h => h.more hB)⟩, h7⟩
end
end Go.Proofs.YtpmjcbjdcjjplaaGreat
end
section
namespace Go.Proofs.YtpmjcbjdcjjplaaGreat
open Go Go.RowKit
set_option linter.unusedVariables false
open Classical in
noncomputable def only (w : World) (p : Nat → Prop) : World := { w with heap := w.heap.mapIdx fun b o => if p b then o else .deferred none }
theorem only_cell {w : World} {p : Nat → Prop} {a : Addr} {v : Value} : (only w p).cell? a = some v ↔ p a.block ∧ w.cell? a = some v := by
  unfold only World.cell?
  simp only [Array.getElem?_mapIdx]
  cases h : w.heap[a.block]? with
  | none => simp
  | some o =>
    by_cases hp : p a.block
    · simp [hp]
    · simp [hp]
theorem cell_lt {w : World} {a : Addr} {v : Value} (h : w.cell? a = some v) : a.block < w.heap.size := by
  unfold World.cell? at h
  rcases Nat.lt_or_ge a.block w.heap.size with h1 | h1
  · exact h1
  · rw [Array.getElem?_eq_none h1] at h; cases h
section
variable {w w' : World} {B : Nat}
theorem rangeAt_cells {b o : Nat} {cs : List Value} (h : w.rangeAt b o cs) (hc : ∀ a v, w.cell? a = some v → w'.cell? a = some v) : w'.rangeAt b o cs := fun j v hv => hc _ _ (h j v hv)
theorem SlAt.cells {α : Type} {k : Nat} {R R' : List Value → α → Prop} {v : Value} {l : List α} (h : SlAt w B k R v l) (hc : ∀ a v, w.cell? a = some v → w'.cell? a = some v) (hR : ∀ cs x, x ∈ l → R cs x → R' cs x) : SlAt w' B k R' v l := by
  obtain ⟨h0, A, c, rfl, h1⟩ := h
  refine ⟨h0, A, c, rfl, fun hp => ?_⟩
  obtain ⟨b, o, rfl, hlt, h2⟩ := h1 hp
  refine ⟨b, o, rfl, hlt, fun i x hx => ?_⟩
  obtain ⟨cs, h3, h4, h5⟩ := h2 i x hx
  exact ⟨cs, h3, rangeAt_cells h4 hc, hR cs x (List.mem_of_getElem? hx) h5⟩
theorem ValAt.cells {cs : List Value} {t : VT} (h : ValAt w B cs t) (hc : ∀ a v, w.cell? a = some v → w'.cell? a = some v) : ValAt w' B cs t := by
  induction h with
  | mk b o css hk hn hf hs hns hl hA hcc hi ih =>
    exact .mk b o css hk hn hf hs (hns.cells hc fun _ _ _ h => h) hl hA (fun i h => ⟨(hcc i h).1, rangeAt_cells (hcc i h).2 hc⟩) ih
end
theorem only_to {p q : Nat → Prop} {w w' : World} (hb : ∀ b, p b → b < w.heap.size → q b ∧ w'.heap[b]? = w.heap[b]?) : ∀ a v, (only w p).cell? a = some v → (only w' q).cell? a = some v := fun a v hv => by
  obtain ⟨h1, h2⟩ := only_cell.1 hv
  obtain ⟨h3, h4⟩ := hb a.block h1 (cell_lt h2)
  exact only_cell.2 ⟨h3, (World.cell?_of_block h4).trans h2⟩
end Go.Proofs.YtpmjcbjdcjjplaaGreat
end
section
namespace Go.Proofs.YtpmjcbjdcjjplaaGreat
open Go Go.RowKit
set_option linter.unusedVariables false
def Apart (x y : Value) : Prop := ∀ b, x.ownBlock = some b → y.ownBlock ≠ some b
theorem Apart.ne {x y : Value} (h : Apart x y) : y.ownBlock = none ∨ y.ownBlock ≠ x.ownBlock := by
  cases hy : y.ownBlock with
  | none => exact .inl rfl
  | some b => exact .inr fun e => h b e.symm hy
theorem Apart.symm {x y : Value} (h : Apart x y) : Apart y x := fun b h1 h2 => h b h2 h1
theorem Apart.next {x x' y : Value} {n : Nat} (h : Apart x y) (hblk : x'.ownBlock = x.ownBlock ∨ x'.ownBlock = some n) (hy : ∀ b, y.ownBlock = some b → b < n) : Apart x' y := fun b h1 h2 => by
  rcases hblk with e | e
  · exact h b (e ▸ h1) h2
  · rw [e] at h1
    injection h1 with h1
    have := hy b h2
    omega
end Go.Proofs.YtpmjcbjdcjjplaaGreat
end
section
namespace Go.Proofs.YtpmjcbjdcjjplaaGreat
open Go Go.RowKit
set_option linter.unusedVariables false
structure GN where
  next : List Int
  catch_ : Int
  wait : Int
abbrev EdgeT := Nat × Nat × Int
def encE (e : EdgeT) : List Value := [.int .i64 e.1, .int .i64 e.2.1, .int .i64 e.2.2]
theorem encE_len (e : EdgeT) : (encE e).length = 3 := rfl
theorem encE_one (e : EdgeT) : ∀ v ∈ encE e, v.oneCell' = true := by
  intro v hv
  simp only [encE, List.mem_cons, List.not_mem_nil, or_false] at hv
  rcases hv with rfl | rfl | rfl <;> rfl
def nextE (i : Nat) : Nat → List Int → List EdgeT
  | _, [] => []
  | p, t :: r => (i, p, t) :: nextE i (p + 1) r
def nodeE (i : Nat) (x : GN) : List EdgeT := nextE i 0 x.next ++ if 0 ≤ x.catch_ then [(i, x.next.length, x.catch_)] else []
def edgesFrom : Nat → List GN → List EdgeT
  | _, [] => []
  | i, x :: g => nodeE i x ++ edgesFrom (i + 1) g
def edgesOf (g : List GN) : List EdgeT := edgesFrom 0 g
theorem nextE_snoc (i : Nat) : ∀ (l : List Int) (p : Nat) (t : Int), nextE i p (l ++ [t]) = nextE i p l ++ [(i, p + l.length, t)]
  | [], p, t => rfl
  | a :: l, p, t => by
    show (i, p, a) :: nextE i (p + 1) (l ++ [t]) = _
    rw [nextE_snoc i l]
    simp [nextE]; omega
theorem nextE_len (i : Nat) : ∀ (l : List Int) (p : Nat), (nextE i p l).length = l.length
  | [], _ => rfl
  | _ :: l, p => by simp [nextE, nextE_len i l]
theorem edgesFrom_snoc : ∀ (g : List GN) (i : Nat) (x : GN), edgesFrom i (g ++ [x]) = edgesFrom i g ++ nodeE (i + g.length) x
  | [], i, x => by simp [edgesFrom]
  | y :: g, i, x => by
    show nodeE i y ++ edgesFrom (i + 1) (g ++ [x]) = _
    rw [edgesFrom_snoc g, ← List.append_assoc, List.length_cons]
    rw [show i + 1 + g.length = i + (g.length + 1) by omega]; rfl
theorem edges_take {g : List GN} {i : Nat} {x : GN} (h : g[i]? = some x) : edgesOf (g.take (i + 1)) = edgesOf (g.take i) ++ nodeE i x := by
  have hi := (List.getElem?_eq_some_iff.1 h).1
  unfold edgesOf
  rw [take_at h, edgesFrom_snoc, List.length_take, Nat.zero_add, Nat.min_eq_left (by omega)]
theorem next_take {i k : Nat} {l : List Int} {t : Int} (h : l[k]? = some t) : nextE i 0 (l.take (k + 1)) = nextE i 0 (l.take k) ++ [(i, k, t)] := by
  have hk := (List.getElem?_eq_some_iff.1 h).1
  rw [take_at h, nextE_snoc, List.length_take, Nat.zero_add, Nat.min_eq_left (by omega)]
theorem edges_part_len (g : List GN) (i : Nat) : (edgesOf (g.take i)).length ≤ (edgesOf g).length := by
  have key : ∀ (g : List GN) (i k : Nat), (edgesFrom k (g.take i)).length ≤ (edgesFrom k g).length := by
    intro g
    induction g with
    | nil => intro i k; simp
    | cons x g ih =>
      intro i k
      cases i with
      | zero => simp [edgesFrom]
      | succ i =>
        show (nodeE k x ++ edgesFrom (k + 1) (g.take i)).length ≤ (nodeE k x ++ edgesFrom (k + 1) g).length
        rw [List.length_append, List.length_append]
        have := ih i (k + 1)
        omega
  exact key g i 0
theorem edges_room {g : List GN} {i k : Nat} {x : GN} (h : g[i]? = some x) (hk : k ≤ x.next.length) : (edgesOf (g.take i) ++ nextE i 0 (x.next.take k)).length ≤ (edgesOf g).length ∧
    (0 ≤ x.catch_ → (edgesOf (g.take i) ++ nextE i 0 x.next).length + 1 ≤ (edgesOf g).length) ∧ (k < x.next.length → (edgesOf (g.take i) ++ nextE i 0 (x.next.take k)).length + 1 ≤ (edgesOf g).length) := by
  have h1 := edges_part_len g (i + 1)
  rw [edges_take h] at h1
  unfold nodeE at h1
  simp only [List.length_append, nextE_len, List.length_take] at *
  refine ⟨by omega, fun hc => ?_, fun hl => by omega⟩
  rw [if_pos hc] at h1
  simp at h1
  omega
theorem edges_from {g : List GN} {e : EdgeT} (h : e ∈ edgesOf g) : e.1 < g.length := by
  have key : ∀ (g : List GN) (k : Nat), e ∈ edgesFrom k g → e.1 < k + g.length := by
    intro g
    induction g with
    | nil => intro k h; cases h
    | cons x g ih =>
      intro k h
      rcases List.mem_append.1 h with h | h
      · unfold nodeE at h
        rcases List.mem_append.1 h with h | h
        · have : ∀ (l : List Int) (p : Nat), e ∈ nextE k p l → e.1 = k := by
            intro l
            induction l with
            | nil => intro p h; cases h
            | cons a l ih =>
              intro p h
              rcases List.mem_cons.1 h with rfl | h
              · rfl
              · exact ih _ h
          have := this _ _ h
          simp; omega
        · split at h
          · rw [List.mem_singleton.1 h]; simp
          · cases h
      · have := ih _ h
        simp; omega
  have := key g 0 h
  omega
def okE (n : Nat) (e : EdgeT) : Bool := decide (0 ≤ e.2.2) && decide (e.2.2 < n)
def inE (n : Nat) (l : List EdgeT) : List (Nat × Nat) := (l.filter (okE n)).map fun e => (e.1, e.2.2.toNat)
def graphE (g : List GN) : List (Nat × Nat) := inE g.length (edgesOf g)
theorem inE_snoc (n : Nat) (l : List EdgeT) (e : EdgeT) : inE n (l ++ [e]) = if okE n e = true then inE n l ++ [(e.1, e.2.2.toNat)] else inE n l := by
  unfold inE
  rw [List.filter_append, List.map_append]
  by_cases h : okE n e = true <;> simp [h]
theorem okE_iff {n : Nat} {e : EdgeT} : okE n e = true ↔ 0 ≤ e.2.2 ∧ e.2.2 < n := by unfold okE; simp
theorem graphE_lt {g : List GN} : ∀ e ∈ graphE g, e.1 < g.length ∧ e.2 < g.length := by
  intro e he
  unfold graphE inE at he
  obtain ⟨x, hx, rfl⟩ := List.mem_map.1 he
  obtain ⟨h1, h2⟩ := List.mem_filter.1 hx
  rw [okE_iff] at h2
  exact ⟨edges_from h1, by show x.2.2.toNat < _; omega⟩
structure GraphR (w : World) (B : Nat) (cs : List Value) (x : GN) : Prop where
  next : ∃ vn, cs[2]? = some vn ∧ SlAt w B 1 IntR vn x.next
  catch_ : cs[26]? = some (.int .i64 x.catch_)
  wait : cs[27]? = some (.int .i64 x.wait)
  one : ∀ v ∈ cs, v.oneCell' = true
  wf : wfI x.catch_ ∧ wfI x.wait
theorem GraphR.under {w w' : World} {B : Nat} {cs : List Value} {x : GN} (h : GraphR w B cs x) (hb : Below B w w') : GraphR w' B cs x :=
  ⟨let ⟨vn, h1, h2⟩ := h.next; ⟨vn, h1, h2.below hb fun _ _ _ h => h⟩, h.catch_, h.wait, h.one, h.wf⟩
theorem GraphR.more {w : World} {B B' : Nat} {cs : List Value} {x : GN} (h : GraphR w B cs x) (hB : B ≤ B') : GraphR w B' cs x :=
  ⟨let ⟨vn, h1, h2⟩ := h.next; ⟨vn, h1, h2.more hB⟩, h.catch_, h.wait, h.one, h.wf⟩
def GraphAt (w : World) (B : Nat) (v : Value) (g : List GN) : Prop := SlAt w B 29 (GraphR w B) v g
theorem GraphAt.under {w w' : World} {B : Nat} {v : Value} {g : List GN} (h : GraphAt w B v g) (hb : Below B w w') : GraphAt w' B v g := SlAt.below h hb fun _ _ _ h => h.under hb
theorem GraphAt.more {w : World} {B B' : Nat} {v : Value} {g : List GN} (h : GraphAt w B v g) (hB : B ≤ B') : GraphAt w B' v g := (SlAt.more h hB).weak fun _ _ h => h.more hB
theorem GraphAt.next {w w' : World} {v : Value} {g : List GN} (h : GraphAt w w.heap.size v g) (hb : Below w.heap.size w w') : GraphAt w' w'.heap.size v g := (h.under hb).more hb.size
theorem SlAt.map {α β : Type} {w : World} {B k : Nat} {R : List Value → α → Prop} {R' : List Value → β → Prop} {v : Value} {l : List α} (f : α → β) (h : SlAt w B k R v l) (hR : ∀ cs x, R cs x → R' cs (f x)) : SlAt w B k R' v (l.map f) := by
  obtain ⟨h0, A, c, rfl, h1⟩ := h
  refine ⟨by simpa using h0, A, c, by simp, fun hp => ?_⟩
  obtain ⟨b, o, rfl, hlt, h2⟩ := h1 (by simpa using hp)
  refine ⟨b, o, rfl, hlt, fun i y hy => ?_⟩
  rw [List.getElem?_map] at hy
  cases hx : l[i]? with
  | none => rw [hx] at hy; cases hy
  | some x =>
    rw [hx] at hy
    simp at hy
    subst hy
    obtain ⟨cs, h3, h4, h5⟩ := h2 i x hx
    exact ⟨cs, h3, h4, hR cs x h5⟩
end Go.Proofs.YtpmjcbjdcjjplaaGreat
end
