/- No program: rows of one's own that are written in place. -/
import Derived.Test.YtlfefikhmdbbfaaGreatWalk
import Derived.Laws.MakeOwn
namespace Go.Proofs.YtlfefikhmdbbfaaGreat
open Go Go.RowKit
set_option linter.unusedVariables false

theorem grown_refl (w : World) (r : Option Nat) : w.grownBy w r := World.grownBy.refl w r
theorem grown_drewN {a w : World} {r : Option Nat} (h : a.grownBy w r) (k : Nat) : a.grownBy (w.drewN k) r := ⟨h.os, h.tape, h.output, h.size, h.block⟩
theorem grown_set {a w : World} {g o : Nat} (h : a.grownBy w (some g)) (u : Value) : a.grownBy (w.setCell ⟨g, o, none⟩ u) (some g) :=
  ⟨h.os, h.tape, h.output, by simpa [World.setCell] using h.size, fun i hi hne => (Below.heap_setCell w ⟨g, o, none⟩ u i (by
    rintro rfl
    exact hne rfl)).trans (h.block i hi hne)⟩
theorem grown_below {a b c : World} {g : Nat} (h : a.grownBy b (some g)) (hb : Below b.heap.size b c) : a.grownBy c (some g) :=
  ⟨hb.os.trans h.os, hb.tape.trans h.tape, hb.output.trans h.output, Nat.le_trans h.size hb.size, fun i hi hne => (hb.block i (Nat.lt_of_lt_of_le hi h.size)).trans (h.block i hi hne)⟩
theorem grown_is_below {a b : World} {g B : Nat} (h : a.grownBy b (some g)) (hB : B ≤ g) (hs : B ≤ a.heap.size) : Below B a b :=
  ⟨h.os, h.tape, h.output, h.size, fun k hk => h.block k (by omega) (by intro e; injection e with e; omega)⟩
theorem below_is_grown {a b : World} (h : Below a.heap.size a b) (r : Option Nat) : a.grownBy b r := ⟨h.os, h.tape, h.output, h.size, fun k hk _ => h.block k hk⟩
theorem range_grown {a b : World} {g q o : Nat} {cs : List Value} (h : a.grownBy b (some g)) (hr : a.rangeAt q o cs) (hq : q < a.heap.size) (hne : q ≠ g) : b.rangeAt q o cs :=
  fun j v hv => (World.cell?_of_block (a := ⟨q, o + j, none⟩) (h.block q hq (by intro e; injection e with e; exact hne e))).trans (hr j v hv)

/-- n cells of block g hold f, and may be written -/
structure RowF (w : World) (g n : Nat) (f : Nat → Value) : Prop where
  c : ∀ i, i < n → w.cell? ⟨g, i, none⟩ = some (f i)
  fz : ∀ i, i < n → w.frozen? ⟨g, i, none⟩ = false
theorem RowF.keep {w w' : World} {g n : Nat} {f : Nat → Value} (h : RowF w g n f) (hb : w'.heap[g]? = w.heap[g]?) : RowF w' g n f :=
  ⟨fun i hi => (World.cell?_of_block (a := ⟨g, i, none⟩) hb).trans (h.c i hi), fun i hi => (World.frozen?_of_block (a := ⟨g, i, none⟩) hb).trans (h.fz i hi)⟩
theorem RowF.below {w w' : World} {g n B : Nat} {f : Nat → Value} (h : RowF w g n f) (hb : Below B w w') (hg : g < B) : RowF w' g n f := h.keep (hb.block g hg)
theorem RowF.drewN {w : World} {g n : Nat} {f : Nat → Value} (h : RowF w g n f) (k : Nat) : RowF (w.drewN k) g n f := ⟨h.c, h.fz⟩
theorem RowF.congr {w : World} {g n : Nat} {f f' : Nat → Value} (h : RowF w g n f) (hf : ∀ i, i < n → f i = f' i) : RowF w g n f' :=
  ⟨fun i hi => by rw [← hf i hi]; exact h.c i hi, h.fz⟩
theorem RowF.set {w : World} {g n : Nat} {f : Nat → Value} (h : RowF w g n f) {i : Nat} (hi : i < n) (v : Value) : RowF (w.setCell ⟨g, i, none⟩ v) g n (fun j => if j = i then v else f j) := by
  refine ⟨fun j hj => ?_, fun j hj => ?_⟩
  · by_cases e : j = i
    · subst e
      rw [World.cell?_setCell_same _ _ _ (h.c j hj), if_pos rfl]
    · rw [World.cell?_setCell_other _ _ _ _ (by intro h; injection h with _ h _; exact e h.symm), if_neg e]
      exact h.c j hj
  · rw [World.frozen?_setCell]; exact h.fz j hj
theorem rowF_new (w : World) (n : Nat) (v : Value) (T : TypeId) : RowF (w.alloc (.cells (Array.replicate n v) T)) w.heap.size n (fun _ => v) :=
  ⟨fun i hi => by rw [cell_box]; simp [hi], fun i hi => frozen_box _ _ _ _⟩
theorem made_at (z : Value) (h1 : z.cells = #[z]) (n i : Nat) (hi : i < n) : (madeCells z.cells n)[i]? = some z := by
  rw [h1]; unfold madeCells; simp [hi, Nat.mod_one]
/-- a slice of n elements of one cell each is made -/
theorem wl_make {P : Program} {ops : Array Oper} {rest : List Oper} {o : Oper} {a : Act} {w : World} {Q : Exit → Act → World → Prop} (t e : TypeId) (x y : Operand) (ho : o.op = .makeSlice t x y) (hw : Region.wanted o (yielded ops a.tmps) = true)
    (i : TypeInfo) (z : Value) (bytes n : Nat) (ht : P.underlying t = some (.slice e)) (hi : P.info? e = some i) (hz : i.zero = some z) (hsize : i.size = 1) (hby : i.bytes = bytes) (hb : bytes ≤ 1000) (h1 : z.cells = #[z])
    (hx : a.eval x = .int .i64 n) (hy : a.eval y = .int .i64 n) (hn : n ≤ 10000)
    (h : ∀ w', RowF w' w.heap.size n (fun _ => z) → Tag w' w.heap.size e → Below w.heap.size w w' → w.heap.size < w'.heap.size → wpList P ops Q rest (a.put o.dst (.slice (some ⟨w.heap.size, 0, none⟩) n n)) w') : wpList P ops Q (o :: rest) a w := by
  have hbn : (i.bytes : Int) * (n : Int) ≤ 281474976710656 := by
    have h1 : bytes * n ≤ 1000 * 10000 := Nat.mul_le_mul hb hn
    have h2 : ((i.bytes * n : Nat) : Int) ≤ 281474976710656 := by rw [hby]; omega
    rwa [Int.natCast_mul] at h2
  have hr := run_make (P := P) w t e i z ht hi hz .i64 .i64 n n (by omega) (Int.le_refl _) hbn (by omega)
  simp only [Int.toNat_natCast, hsize, Nat.mul_one] at hr
  refine wpList_step fun K hK => ?_
  rw [if_pos hw]
  unfold Oper.wp execOp
  simp only [ho, hx, hy, Sem.run_bind, hr, Result.andThen_ok]
  refine hK _ _ (h _ ⟨fun j hj => by rw [cell_box]; exact made_at z h1 n j hj, fun j hj => frozen_box _ _ _ _⟩ ⟨_, heap_alloc_new w _⟩ (box_below w _) (box_size w _))
end Go.Proofs.YtlfefikhmdbbfaaGreat
