/- No program: slices that are read, of elements of k cells each; slices of the call's own; structs loaded and stored whole. -/
import Derived.Test.YtieciegfloldhaaGreatDoorKit
import Derived.Test.YtieciegfloldhaaGreatDoorAppend
import Derived.Deep.MidRow
import Derived.Below
namespace Go.Proofs.YtieciegfloldhaaGreatDoor
open Go Go.RowKit
set_option linter.unusedVariables false

/-- A slice whose elements have k cells each, below block B; R says what the cells of an element hold. -/
def SlAt {α : Type} (w : World) (B k : Nat) (R : List Value → α → Prop) (v : Value) (l : List α) : Prop :=
  l.length ≤ 9223372036854775807 ∧ ∃ A c, v = .slice A l.length c ∧ (0 < l.length → ∃ b o, A = some ⟨b, o, none⟩ ∧ b < B ∧
    ∀ (i : Nat) x, l[i]? = some x → ∃ cs : List Value, cs.length = k ∧ w.rangeAt b (o + i * k) cs ∧ R cs x)
theorem rangeAt_below {w w' : World} {B b o : Nat} {cs : List Value} (h : w.rangeAt b o cs) (hb : Below B w w') (hB : b < B) : w'.rangeAt b o cs :=
  fun j v hv => (hb.cell (p := ⟨b, o + j, none⟩) hB).trans (h j v hv)
section
variable {α : Type} {w w' : World} {B k : Nat} {R R' : List Value → α → Prop} {v : Value} {l : List α}
theorem SlAt.below (h : SlAt w B k R v l) (hb : Below B w w') (hR : ∀ cs x, x ∈ l → R cs x → R' cs x) : SlAt w' B k R' v l := by
  obtain ⟨h0, A, c, rfl, h1⟩ := h
  refine ⟨h0, A, c, rfl, fun hp => ?_⟩
  obtain ⟨b, o, rfl, hlt, h2⟩ := h1 hp
  refine ⟨b, o, rfl, hlt, fun i x hx => ?_⟩
  obtain ⟨cs, h3, h4, h5⟩ := h2 i x hx
  exact ⟨cs, h3, rangeAt_below h4 hb hlt, hR cs x (List.mem_of_getElem? hx) h5⟩
theorem SlAt.more {B' : Nat} (h : SlAt w B k R v l) (hB : B ≤ B') : SlAt w B' k R v l := by
  obtain ⟨h0, A, c, rfl, h1⟩ := h
  refine ⟨h0, A, c, rfl, fun hp => ?_⟩
  obtain ⟨b, o, rfl, hlt, h2⟩ := h1 hp
  exact ⟨b, o, rfl, by omega, h2⟩
theorem SlAt.nil (w : World) (B k : Nat) (R : List Value → α → Prop) : SlAt w B k R (.slice none 0 0) [] := ⟨by simp, none, 0, rfl, fun h => by simp at h⟩
end

/-- elements whose cells are known -/
def flat {α : Type} (enc : α → List Value) (l : List α) : List Value := l.flatMap enc
def Enc {α : Type} (enc : α → List Value) : List Value → α → Prop := fun cs x => cs = enc x
section
variable {α : Type} {enc : α → List Value} {k : Nat}
theorem flat_len (hk : ∀ x, (enc x).length = k) : ∀ l : List α, (flat enc l).length = l.length * k
  | [] => by simp [flat]
  | x :: l => by
    show (enc x ++ flat enc l).length = _
    rw [List.length_append, hk, flat_len hk l, List.length_cons, Nat.succ_mul]; omega
theorem flat_snoc (l : List α) (x : α) : flat enc (l ++ [x]) = flat enc l ++ enc x := by simp [flat]
theorem flat_at (hk : ∀ x, (enc x).length = k) : ∀ (l : List α) (i : Nat) (x : α), l[i]? = some x → ∀ j u, (enc x)[j]? = some u → (flat enc l)[i * k + j]? = some u
  | [], i, x, h => by simp at h
  | y :: l, 0, x, h => fun j u hu => by
    have : y = x := by simpa using h
    subst this
    show (enc y ++ flat enc l)[0 * k + j]? = some u
    rw [Nat.zero_mul, Nat.zero_add, List.getElem?_append_left (by have := (List.getElem?_eq_some_iff.1 hu).1; exact this)]
    exact hu
  | y :: l, i + 1, x, h => fun j u hu => by
    show (enc y ++ flat enc l)[(i + 1) * k + j]? = some u
    rw [List.getElem?_append_right (by rw [hk, Nat.succ_mul]; omega), hk]
    have := flat_at hk l i x (by simpa using h) j u hu
    rw [show (i + 1) * k + j - k = i * k + j by rw [Nat.succ_mul]; omega]
    exact this
theorem flat_one (h1 : ∀ x, ∀ u ∈ enc x, u.oneCell' = true) (l : List α) : ∀ u ∈ flat enc l, u.oneCell' = true := by
  intro u hu
  obtain ⟨x, _, hx⟩ := List.mem_flatMap.1 hu
  exact h1 x u hx
end

/-- a slice of the call's own -/
def OwnSl {α : Type} (T : TypeId) (k : Nat) (enc : α → List Value) (w : World) (base : Nat) (v : Value) (l : List α) : Prop := w.ownsRow base T k v l.length (flat enc l)
section
variable {α : Type} {T : TypeId} {k : Nat} {enc : α → List Value} {w w' : World} {base : Nat} {v : Value} {l : List α}
theorem OwnSl.nil (w : World) (base : Nat) : OwnSl T k enc w base (.slice none 0 0) [] := ⟨by simp [flat], .inl ⟨rfl, rfl⟩⟩
theorem OwnSl.at (h : OwnSl T k enc w base v l) (hk : ∀ x, (enc x).length = k) (hl : l.length ≤ 9223372036854775807) : SlAt w w.heap.size k (Enc enc) v l := by
  refine ⟨hl, ?_⟩
  rcases h.2 with ⟨rfl, h0⟩ | ⟨g, cap, cur, hv, _, hg, _⟩
  · exact ⟨none, 0, by rw [h0], fun h1 => by omega⟩
  · refine ⟨some ⟨g, 0, none⟩, cap, hv, fun _ => ?_⟩
    have hlt : g < w.heap.size := by
      rcases Nat.lt_or_ge g w.heap.size with h2 | h2
      · exact h2
      · rw [Array.getElem?_eq_none h2] at hg; cases hg
    refine ⟨g, 0, rfl, hlt, fun i x hx => ⟨enc x, hk x, fun j u hu => ?_, rfl⟩⟩
    have := World.ownsRow.cells h (g := g) (by rw [hv]; rfl) (i * k + j) u (flat_at hk l i x hx j u hu)
    rw [Addr.add_mid] at this
    rw [show 0 + i * k + j = 0 + (i * k + j) by omega]; exact this
theorem OwnSl.mono {base' : Nat} (h : OwnSl T k enc w base v l) (hb : base' ≤ base) : OwnSl T k enc w base' v l := by
  refine ⟨h.1, ?_⟩
  rcases h.2 with h1 | ⟨g, cap, cur, h1, h2, h3⟩
  · exact .inl h1
  · exact .inr ⟨g, cap, cur, h1, by omega, h3⟩
theorem OwnSl.below (h : OwnSl T k enc w base v l) (hb : Below w.heap.size w w') : OwnSl T k enc w' base v l :=
  World.ownsRow.kept h (row := none) ⟨hb.os, hb.tape, hb.output, hb.size, fun i hi _ => hb.block i hi⟩ (by cases e : v.ownBlock <;> simp)
def encI (i : Int) : List Value := [.int .i64 i]
theorem flat_ints : ∀ l : List Int, flat encI l = l.map fun i => .int .i64 i
  | [] => rfl
  | a :: l => by
    show encI a ++ flat encI l = _
    rw [flat_ints l]; rfl
/-- what the block of one's own holds, where it is written into -/
theorem OwnSl.block (h : OwnSl T k enc w base v l) {b : Nat} (hb : v.ownBlock = some b) : base ≤ b := by
  rcases h.2 with ⟨rfl, _⟩ | ⟨g, cap, cur, rfl, hg, _⟩
  · cases hb
  · have : g = b := by simpa [Value.ownBlock] using hb
    omega
end

section
variable {P : Program} {ops : Array Oper} {rest : List Oper} {o : Oper} {a : Act} {w : World} {Q : Exit → Act → World → Prop}
/-- a struct loaded whole -/
theorem wl_sload (T : TypeId) (x : Operand) (ho : o.op = .load T x) (hw : Region.wanted o (yielded ops a.tmps) = true) (b ofs : Nat) (cs : List Value) (d : TypeDesc)
    (hx : a.eval x = .pointer (some ⟨b, ofs, none⟩)) (hc : w.rangeAt b ofs cs) (hu : P.underlying T = some d) (hd : d.isRow = true) (hi : (P.info? T).map (·.size) = some cs.length)
    (h : wpList P ops Q rest (a.put o.dst (.agg cs.toArray)) w) : wpList P ops Q (o :: rest) a w :=
  wpList_step fun K hK => by
    rw [if_pos hw]
    exact wp_load_mid T x ho b ofs hx cs d hc hu hd hi (hK _ _ h)
theorem wl_sstore (T : TypeId) (x y : Operand) (ho : o.op = .store T x y) (hw : Region.wanted o (yielded ops a.tmps) = true) (b ofs : Nat) (cs : List Value)
    (hx : a.eval x = .pointer (some ⟨b, ofs, none⟩)) (hy : a.eval y = .agg cs.toArray) (ht : w.there b ofs cs.length) (hi : (P.info? T).map (·.size) = some cs.length) (h1 : ∀ v ∈ cs, v.oneCell' = true)
    (h : wpList P ops Q rest (a.put o.dst undef) (w.setCells b ofs cs)) : wpList P ops Q (o :: rest) a w :=
  wpList_step fun K hK => by
    rw [if_pos hw]
    exact wp_store_mid T x y ho b ofs cs.toArray hx hy (by simpa using ht) (by simpa using hi) (all_oneCell_toArray h1) (by simpa using hK _ _ h)
theorem exec_sload (T : TypeId) {x : Operand} (ho : o.op = .load T x) (b ofs : Nat) (cs : List Value) (d : TypeDesc)
    (hx : a.eval x = .pointer (some ⟨b, ofs, none⟩)) (hc : w.rangeAt b ofs cs) (hu : P.underlying T = some d) (hd : d.isRow = true) (hi : (P.info? T).map (·.size) = some cs.length) :
    (execOp a.eval o).run P w = .ok (.value (.agg cs.toArray)) w := by
  unfold execOp
  simp only [ho, hx, Instr.loadAt, Instr.sureAddr, Sem.run_bind, Sem.run_pure, Result.andThen_ok, run_loadVar_mid w b ofs T cs d hc hu hd hi]
/-- one element that a literal made is put behind a slice of one's own -/
theorem wl_push {α : Type} (hgd : o.guard = none) (s x : Operand) (t : TypeId) (ho : o.op = .call { callee := .builtin .append, args := #[s, x], argTypes := #[t, t] })
    (base : Nat) (e : TypeId) (i : TypeInfo) (z : Value) (k bytes : Nat) (enc : α → List Value) (ht : P.underlying t = some (.slice e)) (hi : P.info? e = some i) (hz : i.zero = some z)
    (hsize : i.size = k) (hby : i.bytes = bytes) (hzs : z.cells.size = k) (hsz : 0 < k) (hk : ∀ x, (enc x).length = k) (h1 : ∀ x, ∀ u ∈ enc x, u.oneCell' = true)
    (v : Value) (l : List α) (hs : a.eval s = v) (hown : OwnSl e k enc w base v l) (nb c : Nat) (y : α) (hx : a.eval x = .slice (some ⟨nb, 0, none⟩) 1 c)
    (hc : ∀ j u, (enc y)[j]? = some u → w.cell? ⟨nb, j, none⟩ = some u) (h63 : l.length + 1 ≤ maxLen) (hbytes : (l.length + 1) * bytes ≤ 140737488355328) (hbase : base ≤ w.heap.size)
    (h : ∀ v' w', OwnSl e k enc w' base v' (l ++ [y]) → w.grownBy w' v.ownBlock → wpList P ops Q rest (a.put o.dst v') w') : wpList P ops Q (o :: rest) a w :=
  wl_append hgd s x t ho base e i z k bytes ht hi hz hsize hby hzs hsz v l.length (flat enc l) hs hown (some ⟨nb, 0, none⟩) 1 c (enc y) hx (by rw [hk]; omega)
    (fun _ => ⟨_, rfl, fun j u hu => by rw [Addr.add_mid, Nat.zero_add]; exact hc j u hu⟩) (h1 y) h63 hbytes hbase
    (fun v' w' ho hg => h v' w' (by unfold OwnSl; rw [flat_snoc, List.length_append]; exact ho) hg)
end
end Go.Proofs.YtieciegfloldhaaGreatDoor
