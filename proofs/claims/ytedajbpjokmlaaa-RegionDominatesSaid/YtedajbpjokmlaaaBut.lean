/- No program: worlds that differ in two blocks at most; a box of one cell; what leads out of a graph's nodes. -/
import Derived.Test.YtedajbpjokmlaaaBack
namespace Go.Proofs.Ytedajbpjokmlaaa
open Go Go.RowKit
set_option linter.unusedVariables false

/-- all blocks but two lie as they lay -/
structure But (w W : World) (p q : Nat) : Prop where
  os : W.os = w.os
  tape : W.tape = w.tape
  output : W.output = w.output
  size : w.heap.size ≤ W.heap.size
  block : ∀ b, b < w.heap.size → b ≠ p → b ≠ q → W.heap[b]? = w.heap[b]?
section
variable {w W Z : World} {p q : Nat}
theorem But.refl (w : World) (p q : Nat) : But w w p q := ⟨rfl, rfl, rfl, Nat.le_refl _, fun _ _ _ _ => rfl⟩
theorem But.trans (h : But w W p q) (k : But W Z p q) : But w Z p q :=
  ⟨k.os.trans h.os, k.tape.trans h.tape, k.output.trans h.output, Nat.le_trans h.size k.size, fun b hb h1 h2 => (k.block b (Nat.lt_of_lt_of_le hb h.size) h1 h2).trans (h.block b hb h1 h2)⟩
theorem But.of_below (hb : Below w.heap.size w W) (p q : Nat) : But w W p q := ⟨hb.os, hb.tape, hb.output, hb.size, fun b h _ _ => hb.block b h⟩
theorem But.set1 (w : World) (p q i : Nat) (v : Value) : But w (w.setCell ⟨p, i, none⟩ v) p q :=
  ⟨rfl, rfl, rfl, by simp [World.setCell], fun b _ h1 _ => Below.heap_setCell w ⟨p, i, none⟩ v b h1⟩
theorem But.set2 (w : World) (p q i : Nat) (v : Value) : But w (w.setCell ⟨q, i, none⟩ v) p q :=
  ⟨rfl, rfl, rfl, by simp [World.setCell], fun b _ _ h2 => Below.heap_setCell w ⟨q, i, none⟩ v b h2⟩
theorem But.own (h : But w W p q) {row : Option Nat} (hg : W.grownBy Z row) (hr : ∀ r, row = some r → w.heap.size ≤ r) : But w Z p q :=
  ⟨hg.os.trans h.os, hg.tape.trans h.tape, hg.output.trans h.output, Nat.le_trans h.size hg.size, fun b hb h1 h2 => (hg.block b (Nat.lt_of_lt_of_le hb h.size) (fun e => by have := hr b e.symm; omega)).trans (h.block b hb h1 h2)⟩
theorem But.cell (h : But w W p q) {b o : Nat} (hb : b < w.heap.size) (h1 : b ≠ p) (h2 : b ≠ q) : W.cell? ⟨b, o, none⟩ = w.cell? ⟨b, o, none⟩ := World.cell?_of_block (a := ⟨b, o, none⟩) (h.block b hb h1 h2)
theorem But.below (h : But w W p q) {B : Nat} (hB : B ≤ w.heap.size) (hp : B ≤ p) (hq : B ≤ q) : Below B w W := ⟨h.os, h.tape, h.output, h.size, fun b hb => h.block b (by omega) (by omega) (by omega)⟩
end

/-- a box of one cell -/
structure Box1 (w : World) (b : Nat) (v : Value) : Prop where
  cell : w.cell? ⟨b, 0, none⟩ = some v
  fz : w.frozen? ⟨b, 0, none⟩ = false
  one : w.cell? ⟨b, 1, none⟩ = none
  lt : b < w.heap.size
theorem Box1.new (w : World) (v : Value) (T : TypeId) : Box1 (w.alloc (.cells #[v] T)) w.heap.size v := ⟨cell_box w #[v] T 0, frozen_box w #[v] T 0, cell_box w #[v] T 1, box_size w _⟩
theorem Box1.keep {w W : World} {b : Nat} {v : Value} (h : Box1 w b v) (hb : W.heap[b]? = w.heap[b]?) : Box1 W b v :=
  ⟨(World.cell?_of_block (a := ⟨b, 0, none⟩) hb).trans h.cell, (World.frozen?_of_block (a := ⟨b, 0, none⟩) hb).trans h.fz, (World.cell?_of_block (a := ⟨b, 1, none⟩) hb).trans h.one, by
    rcases Nat.lt_or_ge b W.heap.size with h2 | h2
    · exact h2
    · rw [Array.getElem?_eq_none h2, Array.getElem?_eq_getElem h.lt] at hb; cases hb⟩
theorem Box1.below {w W : World} {b B : Nat} {v : Value} (h : Box1 w b v) (hb : Below B w W) (hB : b < B) : Box1 W b v := h.keep (hb.block b hB)
theorem Box1.set {w : World} {b : Nat} {v : Value} (h : Box1 w b v) (u : Value) : Box1 (w.setCell ⟨b, 0, none⟩ u) b u :=
  ⟨World.cell?_setCell_same _ _ _ h.cell, by rw [World.frozen?_setCell]; exact h.fz, (World.cell?_setCell_other _ _ _ _ (by simp)).trans h.one, by simpa [World.setCell] using h.lt⟩

/-- a graph's rows, that lie in other blocks than p and q -/
structure OutsAt (w : World) (p q gb n : Nat) (E : List (Nat × Nat)) : Prop where
  lt : gb < w.heap.size ∧ gb ≠ p ∧ gb ≠ q
  c0 : w.cell? ⟨gb, 0, none⟩ = some (.int .i64 n)
  ex : ∃ tb, (tb < w.heap.size ∧ tb ≠ p ∧ tb ≠ q) ∧ w.cell? ⟨gb, 1, none⟩ = some (.slice (some ⟨tb, 0, none⟩) n n) ∧ ∀ i, i < n → ∃ A c, w.cell? ⟨tb, i, none⟩ = some (.slice A (outs E i).length c) ∧
    (0 < (outs E i).length → ∃ b, A = some ⟨b, 0, none⟩ ∧ (b < w.heap.size ∧ b ≠ p ∧ b ≠ q) ∧ ∀ (j : Nat) x, (outs E i)[j]? = some x → w.cell? ⟨b, j, none⟩ = some (.int .i64 x))
theorem OutsAt.but {w W : World} {p q gb n : Nat} {E : List (Nat × Nat)} (h : OutsAt w p q gb n E) (hb : But w W p q) : OutsAt W p q gb n E := by
  obtain ⟨⟨l1, l2, l3⟩, c0, tb, ⟨t1, t2, t3⟩, c1, hr⟩ := h
  refine ⟨⟨Nat.lt_of_lt_of_le l1 hb.size, l2, l3⟩, (hb.cell l1 l2 l3).trans c0, tb, ⟨Nat.lt_of_lt_of_le t1 hb.size, t2, t3⟩, (hb.cell l1 l2 l3).trans c1, fun i hi => ?_⟩
  obtain ⟨A, c, h1, h2⟩ := hr i hi
  refine ⟨A, c, (hb.cell t1 t2 t3).trans h1, fun h0 => ?_⟩
  obtain ⟨b, rfl, ⟨b1, b2, b3⟩, hx⟩ := h2 h0
  exact ⟨b, rfl, ⟨Nat.lt_of_lt_of_le b1 hb.size, b2, b3⟩, fun j x hj => (hb.cell b1 b2 b3).trans (hx j x hj)⟩
theorem GAt.outs {w : World} {p q gb tb fb n base : Nat} {V : Nat → Value} {E : List (Nat × Nat)} (h : GAt w gb tb fb n base V E) (hE : E.length ≤ 10000) (hp : p < base) (hgb : gb ≠ p) (hq : w.heap.size ≤ q) : OutsAt w p q gb n E := by
  have h1 := h.lt
  have h2 := h.rows.lt
  have h3 := h.ge
  refine ⟨⟨h1, hgb, by omega⟩, h.c0, tb, ⟨h2.1, by omega, by omega⟩, h.c1, fun i hi => ?_⟩
  have ho := h.rows.own i (by omega)
  unfold rowsG at ho
  rw [if_pos hi] at ho
  obtain ⟨A, c, hv, hA⟩ := (own_nats ho (Nat.le_trans (outs_len E i) hE)).ex
  refine ⟨A, c, by rw [← hv]; exact h.rows.ct.c i hi, fun h0 => ?_⟩
  obtain ⟨b, rfl, hb, hx⟩ := hA h0
  have hbb := ho.block (b := b) (by rw [hv]; rfl)
  exact ⟨b, rfl, ⟨hb, by omega, by omega⟩, hx⟩
theorem OutAt.below {w w' : World} {B : Nat} {v : Value} {l : List Nat} (h : OutAt w B v l) (hb : Below B w w') : OutAt w' B v l := by
  obtain ⟨A, c, rfl, hA⟩ := h.ex
  refine ⟨A, c, rfl, fun h0 => ?_⟩
  obtain ⟨b, rfl, h1, h2⟩ := hA h0
  exact ⟨b, rfl, h1, fun i x hx => (hb.cell (p := ⟨b, i, none⟩) h1).trans (h2 i x hx)⟩
/-- a list that is read -/
def IntsV (w : World) (v : Value) (l : List Int) : Prop := SlAt w w.heap.size 1 (Enc encI) v l
theorem IntsV.below {w w' : World} {v : Value} {l : List Int} (h : IntsV w v l) (hb : Below w.heap.size w w') : IntsV w' v l := (SlAt.below h hb (fun _ _ _ h => h)).more hb.size
theorem OwnSl.ints {w : World} {base : Nat} {v : Value} {l : List Int} {T : TypeId} (h : OwnSl T 1 encI w base v l) (hl : l.length ≤ 10000) : IntsV w v l := h.at encI_len (by omega)
theorem RowL.ints {w : World} {b : Nat} {l : List Int} (h : RowL w b l) (hl : l.length ≤ 10000) (hb : b < w.heap.size) : IntsV w (.slice (some ⟨b, 0, none⟩) l.length l.length) l := by
  refine ⟨by omega, _, _, rfl, fun h0 => ⟨b, 0, rfl, hb, fun i x hx => ⟨encI x, rfl, fun j v hv => ?_, rfl⟩⟩⟩
  have hi := (List.getElem?_eq_some_iff.1 hx).1
  have hj : j = 0 := by have := (List.getElem?_eq_some_iff.1 hv).1; simp [encI] at this; exact this
  subst hj
  have hv' : v = .int .i64 x := by simpa [encI] using hv.symm
  rw [hv', Nat.zero_add, Nat.mul_one, Nat.add_zero]
  rw [h.at hi, List.getD_eq_getElem?_getD, hx]; rfl
def TwoR (w : World) (l : List Int) (ok : Bool) (e : Ending) (w' : World) : Prop :=
  ∃ v, e = .returned (.tuple #[v, .bool ok]) ∧ IntsV w' v l ∧ Below w.heap.size w w'
end Go.Proofs.Ytedajbpjokmlaaa
