/- What the walks of this seat share: tactics, boxes, posts. -/
import Derived.Test.YtieciegfloldhaaGreatDoorProg
import Derived.Test.YtieciegfloldhaaGreatDoorOrder2
import Derived.Test.YtieciegfloldhaaGreatDoorTree
import Derived.Deep.DeepCutAuto
import Derived.Deep.LoopGhost
import Derived.Deep.Cut
import Derived.Deep.Draws
import Derived.Deep.QuietTactic
import Derived.BigQuiet
import Derived.BigRegion
import Derived.Maps.RangeWalk
import Derived.StillTailTactics
import Derived.WalkMore
import Derived.RegionTactic
import Derived.Lib.SliceRun
import Derived.Lib.Hide
namespace Go.Proofs.YtieciegfloldhaaGreatDoor
open Go.RowKit
set_option linter.unusedVariables false

def SomeInt (w : World) (e : Ending) (w' : World) : Prop := ∃ n : Int, e = .returned (.int .i64 n) ∧ Below w.heap.size w w'
def SomeBool (w : World) (e : Ending) (w' : World) : Prop := ∃ b : Bool, e = .returned (.bool b) ∧ Below w.heap.size w w'
theorem cell_box (w : World) (cs : Array Value) (T : TypeId) (i : Nat) : (w.alloc (.cells cs T)).cell? ⟨w.heap.size, i, none⟩ = cs[i]? :=
  cell_of_row _ w.heap.size i cs T (0, 0) (heap_alloc_new w _)
theorem range_box (w : World) (cs : List Value) (T : TypeId) : (w.alloc (.cells ⟨cs⟩ T)).rangeAt w.heap.size 0 cs := fun j v hv => by
  rw [Nat.zero_add, cell_box]; simpa using hv
theorem cells_box (w : World) (cs : List Value) (T : TypeId) : ∀ j v, cs[j]? = some v → (w.alloc (.cells ⟨cs⟩ T)).cell? ⟨w.heap.size, j, none⟩ = some v := fun j v hv => by
  rw [cell_box]; simpa using hv
theorem box_below (w : World) (o : Obj) : Below w.heap.size w (w.alloc o) := (Below.refl w.heap.size w).alloc (Nat.le_refl _) o
theorem box_size (w : World) (o : Obj) : w.heap.size < (w.alloc o).heap.size := by simp

theorem below_sets {B : Nat} {u w : World} (h : Below B u w) {b : Nat} (hb : B ≤ b) (vs : List Value) : ∀ o, Below B u (w.setCells b o vs) := by
  induction vs generalizing w with
  | nil => intro o; exact h
  | cons v vs ih => intro o; exact ih (w := w.setCell ⟨b, o, none⟩ v) (h.setCell hb v) (o + 1)
theorem size_sets (b : Nat) (vs : List Value) : ∀ (o : Nat) (w : World), (w.setCells b o vs).heap.size = w.heap.size := by
  induction vs with
  | nil => intro o w; rfl
  | cons v vs ih => intro o w; exact (ih (o + 1) (w.setCell ⟨b, o, none⟩ v)).trans (by simp [World.setCell])
theorem frozen_box (w : World) (cs : Array Value) (T : TypeId) (i : Nat) : (w.alloc (.cells cs T)).frozen? ⟨w.heap.size, i, none⟩ = false := by
  have h := heap_alloc_new w (.cells cs T)
  unfold World.frozen?
  rw [h]
  simp
theorem there_box (w : World) (z : Array Value) (T : TypeId) : (w.alloc (.cells z T)).there w.heap.size 0 z.size := fun j hj => by
  rw [Nat.zero_add, cell_box, frozen_box]
  exact ⟨by rw [Array.getElem?_eq_getElem hj]; rfl, rfl⟩
/-- the block's elements are of type T -/
def Tag (w : World) (b : Nat) (T : TypeId) : Prop := ∃ c, w.heap[b]? = some (.cells c T (0, 0))
theorem Tag.set {w : World} {b : Nat} {T : TypeId} (h : Tag w b T) (p : Addr) (v : Value) : Tag (w.setCell p v) b T := by
  obtain ⟨c, hc⟩ := h
  unfold World.setCell Tag
  simp only [Array.getElem?_modify, hc]
  split
  · exact ⟨_, rfl⟩
  · exact ⟨_, rfl⟩
theorem Tag.sets {b : Nat} {T : TypeId} (q : Nat) (vs : List Value) : ∀ (o : Nat) {w : World}, Tag w b T → Tag (w.setCells q o vs) b T := by
  induction vs with
  | nil => intro o w h; exact h
  | cons v vs ih => intro o w h; exact ih (o + 1) (h.set ⟨q, o, none⟩ v)
/-- a slice of one's own lies in another block than one of another type -/
theorem OwnSl.apart {α : Type} {T T' : TypeId} {k nb base : Nat} {enc : α → List Value} {w : World} {v : Value} {l : List α} (h : OwnSl T k enc w base v l) (ht : Tag w nb T') (hne : T ≠ T') : some nb ≠ v.ownBlock := by
  intro hb
  obtain ⟨c, hc⟩ := ht
  rcases h.2 with ⟨rfl, _⟩ | ⟨g, cap, cur, rfl, _, hg, _⟩
  · cases hb
  · have : nb = g := by simpa [Value.ownBlock] using hb
    subst this
    rw [hc] at hg
    injection hg with hg
    injection hg with _ hg _
    exact hne hg.symm
/-- a struct put whole into a box of its own -/
structure Boxed (T : TypeId) (w W : World) (cs : List Value) : Prop where
  tag : Tag W w.heap.size T
  below : Below w.heap.size w W
  range : W.rangeAt w.heap.size 0 cs
  size : w.heap.size < W.heap.size
theorem boxed_store (w : World) (z : Array Value) (T : TypeId) (cs : List Value) (h : cs.length = z.size) : Boxed T w ((w.alloc (.cells z T)).setCells w.heap.size 0 cs) cs :=
  ⟨Tag.sets _ _ _ ⟨z, heap_alloc_new w _⟩, below_sets (box_below w _) (Nat.le_refl _) cs 0, World.rangeAt_setCells_same _ _ _ _ (by rw [h]; exact there_box w z T), by rw [size_sets]; simp⟩
section
variable {P : Program} {ops : Array Oper} {rest : List Oper} {o : Oper} {a : Act} {w : World} {Q : Exit → Act → World → Prop}
theorem wl_sbox (T : TypeId) (x y : Operand) (ho : o.op = .store T x y) (hw : Region.wanted o (yielded ops a.tmps) = true) (w0 : World) (z : Array Value) (cs : List Value) (hwld : w = w0.alloc (.cells z T)) (hz : cs.length = z.size)
    (hx : a.eval x = .pointer (some ⟨w0.heap.size, 0, none⟩)) (hy : a.eval y = .agg cs.toArray) (hi : (P.info? T).map (·.size) = some cs.length) (h1 : ∀ v ∈ cs, v.oneCell' = true)
    (h : ∀ Z, Boxed T w0 Z cs → wpList P ops Q rest (a.put o.dst undef) Z) : wpList P ops Q (o :: rest) a w := by
  subst hwld
  exact wl_sstore T x y ho hw w0.heap.size 0 cs hx hy (by rw [hz]; exact there_box w0 z T) hi h1 (h _ (boxed_store w0 z T cs hz))
end
theorem boxed_new (w : World) (cs : List Value) (T : TypeId) : Boxed T w (w.alloc (.cells ⟨cs⟩ T)) cs := ⟨⟨_, heap_alloc_new w _⟩, box_below w _, range_box w cs T, box_size w _⟩
theorem Boxed.cell {T : TypeId} {w W : World} {cs : List Value} (h : Boxed T w W cs) (j : Nat) {v : Value} (hv : cs[j]? = some v) : W.cell? ⟨w.heap.size, j, none⟩ = some v := by
  have := h.range j v hv
  rwa [Nat.zero_add] at this
theorem Boxed.cell' {T : TypeId} {w W Z : World} {cs : List Value} (h : Boxed T w W cs) (hb : Below W.heap.size W Z) (j : Nat) {v : Value} (hv : cs[j]? = some v) : Z.cell? ⟨w.heap.size, j, none⟩ = some v :=
  (hb.cell (p := ⟨w.heap.size, j, none⟩) h.size).trans (h.cell j hv)
theorem Boxed.sub {T : TypeId} {w W Z : World} {cs : List Value} (h : Boxed T w W cs) (hb : Below W.heap.size W Z) (p q r : List Value) (hc : cs = p ++ q ++ r) (k : Nat) (hk : k = p.length) : Z.rangeAt w.heap.size k q := fun j v hv => by
  subst hk
  have := h.cell' hb (p.length + j) (v := v) (by rw [hc, List.append_assoc, List.getElem?_append_right (by omega), show p.length + j - p.length = j by omega, List.getElem?_append_left (List.getElem?_eq_some_iff.1 hv).1]; exact hv)
  exact this
theorem range_sub {w : World} {b o : Nat} {p cs q : List Value} (h : w.rangeAt b o (p ++ cs ++ q)) (k : Nat) (hk : k = o + p.length) : w.rangeAt b k cs := fun j v hv => by
  subst hk
  have := h (p.length + j) v (by rw [List.append_assoc, List.getElem?_append_right (by omega), show p.length + j - p.length = j by omega, List.getElem?_append_left (List.getElem?_eq_some_iff.1 hv).1]; exact hv)
  rw [Nat.add_assoc]; exact this
theorem range_cell {w : World} {b o : Nat} {cs : List Value} (h : w.rangeAt b o cs) (j : Nat) {v : Value} (hv : cs[j]? = some v) : w.cell? ⟨b, o + j, none⟩ = some v := h j v hv
end Go.Proofs.YtieciegfloldhaaGreatDoor
