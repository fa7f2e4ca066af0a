/- Parts of a proof: Walk, Build1, Par2, Edges, Edges3. -/
import Derived.Test.YtpmjcbjdcjjplaaGreatProg
import Derived.Deep.DeepCutAuto
import Derived.Deep.LoopGhost
import Derived.Deep.Cut
import Derived.Deep.Draws
import Derived.Deep.QuietTactic
import Derived.BigQuiet
import Derived.BigRegion
import Derived.Maps.RangeWalk
import Derived.StillTailTactics
import Derived.WalkMore
import Derived.RegionTactic
import Derived.Lib.SliceRun
import Derived.Lib.Hide
import Derived.Test.YtpmjcbjdcjjplaaGreatPack4
import Derived.Test.YtpmjcbjdcjjplaaGreatPack6
import Derived.Test.YtpmjcbjdcjjplaaGreatPack7
import Derived.Test.YtpmjcbjdcjjplaaGreatPack8
section
namespace Go.Proofs.YtpmjcbjdcjjplaaGreat
open Go.RowKit
set_option linter.unusedVariables false
def SomeInt (w : World) (e : Ending) (w' : World) : Prop := ∃ n : Int, e = .returned (.int .i64 n) ∧ Below w.heap.size w w'
def SomeBool (w : World) (e : Ending) (w' : World) : Prop := ∃ b : Bool, e = .returned (.bool b) ∧ Below w.heap.size w w'
theorem cell_box (w : World) (cs : Array Value) (T : TypeId) (i : Nat) : (w.alloc (.cells cs T)).cell? ⟨w.heap.size, i, none⟩ = cs[i]? :=
  cell_of_row _ w.heap.size i cs T (0, 0) (heap_alloc_new w _)
theorem range_box (w : World) (cs : List Value) (T : TypeId) : (w.alloc (.cells ⟨cs⟩ T)).rangeAt w.heap.size 0 cs := fun j v hv => by
  rw [Nat.zero_add, cell_box]; simpa using hv
theorem cells_box (w : World) (cs : List Value) (T : TypeId) : ∀ j v, cs[j]? = some v → (w.alloc (.cells ⟨cs⟩ T)).cell? ⟨w.heap.size, j, none⟩ = some v := fun j v hv => by
  rw [cell_box]; simpa using hv
theorem box_below (w : World) (o : Obj) : Below w.heap.size w (w.alloc o) := (Below.refl w.heap.size w).alloc (Nat.le_refl _) o
theorem box_size (w : World) (o : Obj) : w.heap.size < (w.alloc o).heap.size := by simp
theorem below_sets {B : Nat} {u w : World} (h : Below B u w) {b : Nat} (hb : B ≤ b) (vs : List Value) : ∀ o, Below B u (w.setCells b o vs) := by
  induction vs generalizing w with
  | nil => intro o; exact h
  | cons v vs ih => intro o; exact ih (w := w.setCell ⟨b, o, none⟩ v) (h.setCell hb v) (o + 1)
theorem size_sets (b : Nat) (vs : List Value) : ∀ (o : Nat) (w : World), (w.setCells b o vs).heap.size = w.heap.size := by
  induction vs with
  | nil => intro o w; rfl
  | cons v vs ih => intro o w; exact (ih (o + 1) (w.setCell ⟨b, o, none⟩ v)).trans (by simp [World.setCell])
theorem frozen_box (w : World) (cs : Array Value) (T : TypeId) (i : Nat) : (w.alloc (.cells cs T)).frozen? ⟨w.heap.size, i, none⟩ = false := by
  have h := heap_alloc_new w (.cells cs T)
  unfold World.frozen?
  rw [h]
  simp
theorem there_box (w : World) (z : Array Value) (T : TypeId) : (w.alloc (.cells z T)).there w.heap.size 0 z.size := fun j hj => by
  rw [Nat.zero_add, cell_box, frozen_box]
  exact ⟨by rw [Array.getElem?_eq_getElem hj]; rfl, rfl⟩
def Tag (w : World) (b : Nat) (T : TypeId) : Prop := ∃ c, w.heap[b]? = some (.cells c T (0, 0))
theorem Tag.set {w : World} {b : Nat} {T : TypeId} (h : Tag w b T) (p : Addr) (v : Value) : Tag (w.setCell p v) b T := by
  obtain ⟨c, hc⟩ := h
  unfold World.setCell Tag
  simp only [Array.getElem?_modify, hc]
  split
  · exact ⟨_, rfl⟩
  · exact ⟨_, rfl⟩
theorem Tag.sets {b : Nat} {T : TypeId} (q : Nat) (vs : List Value) : ∀ (o : Nat) {w : World}, Tag w b T → Tag (w.setCells q o vs) b T := by
  induction vs with
  | nil => intro o w h; exact h
  | cons v vs ih => intro o w h; exact ih (o + 1) (h.set ⟨q, o, none⟩ v)
theorem OwnSl.apart {α : Type} {T T' : TypeId} {k nb base : Nat} {enc : α → List Value} {w : World} {v : Value} {l : List α} (h : OwnSl T k enc w base v l) (ht : Tag w nb T') (hne : T ≠ T') : some nb ≠ v.ownBlock := by
  intro hb
  obtain ⟨c, hc⟩ := ht
  rcases h.2 with ⟨rfl, _⟩ | ⟨g, cap, cur, rfl, _, hg, _⟩
  · cases hb
  · have : nb = g := by simpa [Value.ownBlock] using hb
    subst this
    rw [hc] at hg
    injection hg with hg
    injection hg with _ hg _
    exact hne hg.symm
structure Boxed (T : TypeId) (w W : World) (cs : List Value) : Prop where
  tag : Tag W w.heap.size T
  below : Below w.heap.size w W
  range : W.rangeAt w.heap.size 0 cs
  size : w.heap.size < W.heap.size
theorem boxed_store (w : World) (z : Array Value) (T : TypeId) (cs : List Value) (h : cs.length = z.size) : Boxed T w ((w.alloc (.cells z T)).setCells w.heap.size 0 cs) cs :=
  ⟨Tag.sets _ _ _ ⟨z, heap_alloc_new w _⟩, below_sets (box_below w _) (Nat.le_refl _) cs 0, World.rangeAt_setCells_same _ _ _ _ (by rw [h]; exact there_box w z T), by rw [size_sets]; simp⟩
section
variable {P : Program} {ops : Array Oper} {rest : List Oper} {o : Oper} {a : Act} {w : World} {Q : Exit → Act → World → Prop}
theorem wl_sbox (T : TypeId) (x y : Operand) (ho : o.op = .store T x y) (hw : Region.wanted o (yielded ops a.tmps) = true) (w0 : World) (z : Array Value) (cs : List Value) (hwld : w = w0.alloc (.cells z T)) (hz : cs.length = z.size)
    (hx : a.eval x = .pointer (some ⟨w0.heap.size, 0, none⟩)) (hy : a.eval y = .agg cs.toArray) (hi : (P.info? T).map (·.size) = some cs.length) (h1 : ∀ v ∈ cs, v.oneCell' = true)
    (h : ∀ Z, Boxed T w0 Z cs → wpList P ops Q rest (a.put o.dst undef) Z) : wpList P ops Q (o :: rest) a w := by
  subst hwld
  exact wl_sstore T x y ho hw w0.heap.size 0 cs hx hy (by rw [hz]; exact there_box w0 z T) hi h1 (h _ (boxed_store w0 z T cs hz))
end
theorem Boxed.cell {T : TypeId} {w W : World} {cs : List Value} (h : Boxed T w W cs) (j : Nat) {v : Value} (hv : cs[j]? = some v) : W.cell? ⟨w.heap.size, j, none⟩ = some v := by
  have := h.range j v hv
  rwa [Nat.zero_add] at this
theorem Boxed.cell' {T : TypeId} {w W Z : World} {cs : List Value} (h : Boxed T w W cs) (hb : Below W.heap.size W Z) (j : Nat) {v : Value} (hv : cs[j]? = some v) : Z.cell? ⟨w.heap.size, j, none⟩ = some v :=
  (hb.cell (p := ⟨w.heap.size, j, none⟩) h.size).trans (h.cell j hv)
theorem Boxed.sub {T : TypeId} {w W Z : World} {cs : List Value} (h : Boxed T w W cs) (hb : Below W.heap.size W Z) (p q r : List Value) (hc : cs = p ++ q ++ r) (k : Nat) (hk : k = p.length) : Z.rangeAt w.heap.size k q := fun j v hv => by
  subst hk
  have := h.cell' hb (p.length + j) (v := v) (by rw [hc, List.append_assoc, List.getElem?_append_right (by omega), show p.length + j - p.length = j by omega, List.getElem?_append_left (List.getElem?_eq_some_iff.1 hv).1]; exact hv)
  exact this
theorem range_sub {w : World} {b o : Nat} {p cs q : List Value} (h : w.rangeAt b o (p ++ cs ++ q)) (k : Nat) (hk : k = o + p.length) : w.rangeAt b k cs := fun j v hv => by
  subst hk
  have := h (p.length + j) v (by rw [List.append_assoc, List.getElem?_append_right (by omega), show p.length + j - p.length = j by omega, List.getElem?_append_left (List.getElem?_eq_some_iff.1 hv).1]; exact hv)
  rw [Nat.add_assoc]; exact this
theorem range_cell {w : World} {b o : Nat} {cs : List Value} (h : w.rangeAt b o cs) (j : Nat) {v : Value} (hv : cs[j]? = some v) : w.cell? ⟨b, o + j, none⟩ = some v := h j v hv
end Go.Proofs.YtpmjcbjdcjjplaaGreat
end
section
namespace Go.Proofs.YtpmjcbjdcjjplaaGreat
open Go
set_option linter.unusedVariables false
theorem fill_list : ∀ (ks pre rest : List Value), rest.length = ks.length →
    (ks.zipIdx pre.length).foldl (fun (cs : Array Value) (p : Value × Nat) => cs.setIfInBounds (0 + p.2) p.1) (pre ++ rest).toArray = (pre ++ ks).toArray
  | [], pre, rest, h => by
    rw [List.eq_nil_of_length_eq_zero h]; rfl
  | k :: ks, pre, rest, h => by
    cases rest with
    | nil => cases h
    | cons r rest =>
      rw [List.zipIdx_cons, List.foldl_cons]
      have h1 : (pre ++ r :: rest).toArray.setIfInBounds (0 + pre.length) k = ((pre ++ [k]) ++ rest).toArray := by
        rw [Nat.zero_add, List.setIfInBounds_toArray]
        congr 1
        simp
      show List.foldl _ ((pre ++ r :: rest).toArray.setIfInBounds (0 + pre.length) k) _ = _
      rw [h1]
      have := fill_list ks (pre ++ [k]) rest (by simpa using h)
      rw [List.length_append] at this
      rw [List.append_assoc] at this ⊢
      rw [List.append_assoc] at this
      exact this
theorem fill_one (size : Nat) (ks : List Value) (cells : Array Value) (h1 : ks.length = size) (h2 : cells.size = size) : Instr.fill (fun i => some (i * size, size)) cells [(0, .agg ks.toArray)] = some ks.toArray := by
  unfold Instr.fill
  simp only [Nat.zero_mul]
  have hc : (Value.agg ks.toArray).cells = ks.toArray := rfl
  rw [hc]
  rw [if_neg (by simp [h1, h2])]
  unfold Instr.fill
  congr 1
  have := fill_list ks [] cells.toList (by simpa [h1] using h2)
  simpa using this
section
variable {P : Program}
theorem run_build1 (w : World) (t e : TypeId) (i : TypeInfo) (z : Value) (ks : List Value) (ht : P.underlying t = some (.slice e)) (hi : P.info? e = some i) (hz : i.zero = some z) (hsz : i.size = ks.length) (h0 : 0 < ks.length) (hmax : ks.length ≤ 1000) :
    (Instr.buildSlice t 1 #[(0, .agg ks.toArray)]).run P w = .ok (.slice (some ⟨w.heap.size, 0, none⟩) 1 1) (w.alloc (.cells ⟨ks⟩ e)) := by
  have hs : (sizeOf e).run P w = .ok ks.length w := by simp [sizeOf, typeInfo, hi, hsz]
  have hzv : (zeroValue e).run P w = .ok z w := by simp [zeroValue, typeInfo, hi, hz]
  have hf : ∀ cells : Array Value, cells.size = ks.length → Instr.fill (fun i => some (i * ks.length, ks.length)) cells [(0, .agg ks.toArray)] = some ks.toArray := fun cells hc => fill_one ks.length ks cells rfl hc
  unfold Instr.buildSlice
  simp only [Sem.run_bind, run_underlying ht, Result.andThen_ok, hs, Nat.one_mul]
  rw [if_neg (by omega), if_neg (by omega)]
  simp only [Sem.run_bind, Sem.run_pure, Result.andThen_ok, hzv]
  rw [hf _ (by simp)]
  simp [newRow]
variable {ops : Array Oper} {rest : List Oper} {o : Oper} {a : Act} {w : World} {Q : Exit → Act → World → Prop}
theorem wl_build1 (t : TypeId) (x : Operand) (ho : o.op = .buildSlice t 1 #[(0, x)]) (hw : Region.wanted o (yielded ops a.tmps) = true) (e : TypeId) (i : TypeInfo) (z : Value) (ks : List Value) (hx : a.eval x = .agg ks.toArray)
    (ht : P.underlying t = some (.slice e)) (hi : P.info? e = some i) (hz : i.zero = some z) (hsz : i.size = ks.length) (h0 : 0 < ks.length) (hmax : ks.length ≤ 1000)
    (h : wpList P ops Q rest (a.put o.dst (.slice (some ⟨w.heap.size, 0, none⟩) 1 1)) (w.alloc (.cells ⟨ks⟩ e))) : wpList P ops Q (o :: rest) a w := by
  refine wpList_step fun K hK => ?_
  rw [if_pos hw]
  unfold Oper.wp execOp
  have hr := run_build1 (P := P) w t e i z ks ht hi hz hsz h0 hmax
  simp only [ho, List.map_toArray, List.map_cons, List.map_nil, hx, Sem.run_bind, Sem.run_pure, Result.andThen_ok, hr]
  exact hK _ _ h
end
end Go.Proofs.YtpmjcbjdcjjplaaGreat
end
section
namespace Go.Proofs.YtpmjcbjdcjjplaaGreat
open Go Go.RowKit
set_option linter.unusedVariables false
set_option linter.unusedSimpArgs false
section
variable {P : Program} {ops : Array Oper} {rest : List Oper} {o : Oper} {a : Act} {w : World} {Q : Exit → Act → World → Prop}
def Whole (T : TypeId) (w : World) (b : Nat) (cs : List Value) : Prop := w.heap[b]? = some (.cells ⟨cs⟩ T (0, 0))
theorem Whole.new (w : World) (cs : List Value) (T : TypeId) : Whole T (w.alloc (.cells ⟨cs⟩ T)) w.heap.size cs := heap_alloc_new w _
theorem Whole.range {T : TypeId} {b : Nat} {cs : List Value} (h : Whole T w b cs) : w.rangeAt b 0 cs := by
  intro j v hv
  rw [Nat.zero_add]
  rw [cell_of_row w b j ⟨cs⟩ T _ h]
  simpa using hv
theorem Whole.lt {T : TypeId} {b : Nat} {cs : List Value} (h : Whole T w b cs) : b < w.heap.size := by
  rcases Nat.lt_or_ge b w.heap.size with h1 | h1
  · exact h1
  · unfold Whole at h; rw [Array.getElem?_eq_none h1] at h; cases h
theorem Whole.keep {T : TypeId} {w' : World} {b : Nat} {cs : List Value} (h : Whole T w b cs) (hb : w'.heap[b]? = w.heap[b]?) : Whole T w' b cs := hb.trans h
theorem Whole.there {T : TypeId} {b : Nat} {cs : List Value} (h : Whole T w b cs) : w.there b 0 cs.length := by
  intro j hj
  rw [Nat.zero_add, cell_of_row w b j ⟨cs⟩ T _ h]
  refine ⟨by simp [hj], ?_⟩
  unfold World.frozen?
  have h2 : w.heap[b]? = some (.cells ⟨cs⟩ T (0, 0)) := h
  simp [h2]
theorem Whole.tag {T : TypeId} {b : Nat} {cs : List Value} (h : Whole T w b cs) : Tag w b T := ⟨_, h⟩
theorem heap_set_row (b : Nat) (T : TypeId) : ∀ (vs pre mid : List Value) (w : World), w.heap[b]? = some (.cells ⟨pre ++ mid⟩ T (0, 0)) → mid.length = vs.length → (w.setCells b pre.length vs).heap[b]? = some (.cells ⟨pre ++ vs⟩ T (0, 0))
  | [], pre, mid, w, h, hl => by
    rw [List.eq_nil_of_length_eq_zero hl] at h
    exact h
  | v :: vs, pre, [], w, h, hl => by cases hl
  | v :: vs, pre, m :: mid, w, h, hl => by
    have h1 : (w.setCell ⟨b, pre.length, none⟩ v).heap[b]? = some (.cells ⟨(pre ++ [v]) ++ mid⟩ T (0, 0)) := by
      show (w.heap.modify b _)[b]? = _
      rw [Array.getElem?_modify, if_pos rfl, h]
      simp
    have h2 := heap_set_row b T vs (pre ++ [v]) mid (w.setCell ⟨b, pre.length, none⟩ v) h1 (by simpa using hl)
    rw [List.length_append] at h2
    have e : pre ++ [v] ++ vs = pre ++ v :: vs := by simp
    rw [e] at h2
    exact h2
theorem but_sets (b : Nat) : ∀ (cs : List Value) (w : World) (i : Nat), But w (w.setCells b i cs) b b
  | [], w, _ => But.refl w b b
  | v :: cs, w, i => (But.setAt w b i v).trans (but_sets b cs _ (i + 1))
theorem wl_wstore (T : TypeId) (x y : Operand) (ho : o.op = .store T x y) (hn : o.dst = none) (hw : Region.wanted o (yielded ops a.tmps) = true) (b : Nat) (cs0 cs : List Value) (hb : Whole T w b cs0) (hl : cs0.length = cs.length)
    (hx : a.eval x = .pointer (some ⟨b, 0, none⟩)) (hy : a.eval y = .agg cs.toArray) (hi : (P.info? T).map (·.size) = some cs.length) (h1 : ∀ v ∈ cs, v.oneCell' = true)
    (h : ∀ Z, Whole T Z b cs → But w Z b b → wpList P ops Q rest a Z) : wpList P ops Q (o :: rest) a w := by
  have h := fun Z h1 h2 => (show wpList P ops Q rest (a.put o.dst undef) Z from by rw [hn]; exact h Z h1 h2)
  refine wl_sstore T x y ho hw b 0 cs hx hy (by rw [← hl]; exact hb.there) hi h1 (h _ ?_ (but_sets b cs w 0))
  have := heap_set_row b T cs [] cs0 w hb hl
  exact this
end
theorem results_exp {fn : Func} {p : Tmp} (h : fn.results = #[.cell p 40]) (tmps : Array Value) (w : World) (g : Nat) (cs : List Value) (hl : cs.length = 10)
    (hp : tmps.getD p undef = .pointer (some ⟨g, 0, none⟩)) (hm : Whole 40 w g cs) : (results fn tmps).run Tryz.prog w = .ok (.agg ⟨cs⟩) w := by
  have hp' : tmps[p]?.getD undef = .pointer (some ⟨g, 0, none⟩) := by simpa using hp
  have hl := run_loadVar_mid (P := Tryz.prog) w g 0 40 cs _ hm.range Tryz.underlying40 rfl (by rw [hl]; kernel_rfl)
  simp [results, h, hp', asAddr, hl]
end Go.Proofs.YtpmjcbjdcjjplaaGreat
end
section
namespace Go.Proofs.YtpmjcbjdcjjplaaGreat
open Go.RowKit
set_option linter.unusedVariables false
theorem info_edge : (Tryz.prog.info? 51).map (fun i => (i.zero, i.size, i.bytes)) = some (some (.agg #[.int .i64 0, .int .i64 0, .int .i64 0]), 3, 24) := by kernel_rfl
theorem info_parts' {P : Program} {e : TypeId} {z : Option Value} {s b : Nat} (h : (P.info? e).map (fun i => (i.zero, i.size, i.bytes)) = some (z, s, b)) : ∃ i, P.info? e = some i ∧ i.zero = z ∧ i.size = s ∧ i.bytes = b := by
  cases hq : P.info? e with
  | none => rw [hq] at h; cases h
  | some i =>
    rw [hq] at h
    simp at h
    exact ⟨i, rfl, h.1, h.2.1, h.2.2⟩
theorem room_max {n : Nat} (h : n ≤ 10000) : n ≤ maxLen := by unfold maxLen; omega
theorem room_bytes {n : Nat} (h : n ≤ 10000) : n * 24 ≤ 140737488355328 := by omega
def EdgePost (w : World) (l : List EdgeT) (e : Ending) (w' : World) : Prop := ∃ v, e = .returned v ∧ OwnSl 51 3 encE w' w.heap.size v l ∧ Below w.heap.size w w'
set_option maxHeartbeats 2000000 in
set_option maxRecDepth 100000 in
theorem edges_any (g : List GN) (c0 c1 c2 c3 c4 v5 : Value) (w : World) (hg : GraphAt w w.heap.size v5 g) (hlen : (edgesOf g).length ≤ 10000) :
    Calls Tryz.prog 9 #[.agg ⟨[c0, c1, c2, c3, c4, v5]⟩] w (EdgePost w (edgesOf g)) := by
  obtain ⟨i0, hi, hz0, hz1, hz2⟩ := info_parts' info_edge
  have HI0 := Lib.hid hi
  have HZ0 := Lib.hid hz0
  have HZ1 := Lib.hid hz1
  have HZ2 := Lib.hid hz2
  obtain ⟨hgl, A, c, rfl, hA⟩ := hg
  have HA := Lib.hid hA
  have HLEN := Lib.hid hlen
  clear hi hz0 hz1 hz2 hA hlen
  go_enter Tryz.func9, Tryz.ntmps9
  go_upto_region 1 with (fail)
  have HB := Lib.hid (box_below w (.cells ⟨[c0, c1, c2, c3, c4, .slice A g.length c]⟩ 27))
  have HSZ := Lib.hid (box_size w (.cells ⟨[c0, c1, c2, c3, c4, .slice A g.length c]⟩ 27))
  have HC5 := Lib.hid (cell_box w ⟨[c0, c1, c2, c3, c4, .slice A g.length c]⟩ 27 5)
  generalize w.alloc (.cells ⟨[c0, c1, c2, c3, c4, .slice A g.length c]⟩ 27) = W at *
  have d5 := HC5.out
  simp only [List.getElem?_toArray, List.getElem?_cons_succ, List.getElem?_cons_zero] at d5
  go_wp2
  clear d5
  go_loopg [2, 10] g.length (fun q v i wr => ∃ j : Nat, j + q = g.length ∧ i = .int .i64 j ∧ OwnSl 51 3 encE wr W.heap.size v (edgesOf (g.take j)) ∧ Below W.heap.size W wr)
  case atStart => exact ⟨0, by omega, rfl, OwnSl.nil _ _, Below.refl _ _⟩
  case round =>
    obtain ⟨j, hj, rfl, hown, hb⟩ := hrel
    have HOWN := Lib.hid hown
    have HB1 := Lib.hid hb
    have HB1' := Lib.hid (HB.out.trans (hb.mono HB.out.size))
    have d5 := (hb.cell (p := ⟨w.heap.size, 5, none⟩) HSZ.out).trans HC5.out
    simp only [List.getElem?_toArray, List.getElem?_cons_succ, List.getElem?_cons_zero] at d5
    clear hb hown
    cases gk with
    | zero =>
      have hge : ¬ ((j : Int) < (g.length : Int)) := by omega
      have HTK := Lib.hid (List.take_of_length_le (l := g) (i := j) (by omega))
      go_wp2
      go_ret
      exact ⟨_, rfl, by rw [HTK.out] at HOWN; exact HOWN.out.mono HB.out.size, HB1'.out⟩
    | succ q =>
      have hlt : (j : Int) < (g.length : Int) := by omega
      obtain ⟨y, hy⟩ : ∃ y, g[j]? = some y := ⟨_, List.getElem?_eq_getElem (by omega)⟩
      obtain ⟨b, o, rfl, hbb, hc⟩ := HA.out (by omega)
      obtain ⟨ks, hcl, hr, hR⟩ := hc j y hy
      have hrk := fun (z : World) (hz : Below w.heap.size w z) => rangeAt_below hr hz hbb
      obtain ⟨vn, hvn, hns⟩ := hR.next
      obtain ⟨hnl, NA, nc, rfl, hna⟩ := hns
      have HN := Lib.hid (fun (z : World) (hz : Below w.heap.size w z) => (range_cell (hrk z hz) 2 hvn))
      have HK := Lib.hid (fun (z : World) (hz : Below w.heap.size w z) => (range_cell (hrk z hz) 26 hR.catch_))
      have HNA := Lib.hid hna
      have HET := Lib.hid (edges_take hy)
      have HRM := Lib.hid (fun (k : Nat) (hk : k ≤ y.next.length) => edges_room hy hk)
      clear hc hcl hr hR hrk hvn hna hy
      have dn := HN.out wr HB1'.out
      go_wp2
      clear d5 dn
      go_loopg [2, 22] y.next.length (fun q2 v i u => ∃ k : Nat, k + q2 = y.next.length ∧ i = .int .i64 k ∧ OwnSl 51 3 encE u W.heap.size v (edgesOf (g.take j) ++ nextE j 0 (y.next.take k)) ∧ Below W.heap.size W u)
      case atStart => exact ⟨0, by omega, rfl, by simpa [nextE] using HOWN.out, HB1.out⟩
      case round =>
        obtain ⟨k, hk, rfl, hown, hb⟩ := hrel
        have HOWN2 := Lib.hid hown
        have HB2 := Lib.hid hb
        have HB2' := Lib.hid (HB.out.trans (hb.mono HB.out.size))
        clear hb hown
        cases gk with
        | succ q2 =>
          have hlt2 : (k : Int) < (y.next.length : Int) := by omega
          obtain ⟨t, ht⟩ : ∃ t, y.next[k]? = some t := ⟨_, List.getElem?_eq_getElem (by omega)⟩
          obtain ⟨bn, on, rfl, hbn, hcn⟩ := HNA.out (by omega)
          obtain ⟨cs, hcs1, hcs2, hcs3⟩ := hcn k t ht
          have dt : wr.cell? ⟨bn, on + k, none⟩ = some (.int .i64 t) := by
            have := range_cell (rangeAt_below hcs2 HB2'.out hbn) 0 (v := .int .i64 t) (by rw [hcs3.1]; rfl)
            simpa using this
          have HNT := Lib.hid (next_take (i := j) ht)
          have HR1 := Lib.hid ((HRM.out k (by omega)).2.2 (by omega))
          have HWZ := Lib.hid (HOWN2.out.below (box_below wr (.cells ⟨encE (j, k, t)⟩ 51)))
          have HCE := Lib.hid (cells_box wr (encE (j, k, t)) 51)
          have HM1 := Lib.hid (room_max (Nat.le_trans HR1.out HLEN.out))
          have HM2 := Lib.hid (room_bytes (Nat.le_trans HR1.out HLEN.out))
          have HBZ := Lib.hid (HB2.out.alloc HB2.out.size (.cells ⟨encE (j, k, t)⟩ 51))
          clear hcn hcs1 hcs2 hcs3 ht
          go_wp2_with (at_builtin; refine wl_push rfl _ _ 48 rfl W.heap.size 51 i0 (.agg #[.int .i64 0, .int .i64 0, .int .i64 0]) 3 24 encE Tryz.underlying48 HI0.out HZ0.out HZ1.out HZ2.out rfl (by decide) encE_len encE_one _ _ rfl HWZ.out wr.heap.size 1 (j, k, t) rfl HCE.out HM1.out HM2.out HBZ.out.size ?_)
          intro v' w' hown hg
          have HOWN3 := Lib.hid hown
          have HB3 := Lib.hid (HBZ.out.grown hg HBZ.out.size (fun b hb => HWZ.out.block hb))
          clear hown hg
          go_wp2
          go_roundg q2
          case measure => omega
          case rel => exact ⟨k + 1, by omega, by go_num, by rw [HNT.out]; first | exact HOWN3.out | (rw [← List.append_assoc]; exact HOWN3.out), HB3.out⟩
        | zero =>
          have hge2 : ¬ ((k : Int) < (y.next.length : Int)) := by omega
          have HTK := Lib.hid (List.take_of_length_le (l := y.next) (i := k) (by omega))
          rw [HTK.out] at HOWN2
          have dk := HK.out wr HB2'.out
          have dn := HN.out wr HB2'.out
          by_cases hcat : 0 ≤ y.catch_
          · go_upto_region 11 with (fail)
            have HR1 := Lib.hid ((HRM.out y.next.length (Nat.le_refl _)).2.1 hcat)
            have HE : Hid (nodeE j y = nextE j 0 y.next ++ [(j, y.next.length, y.catch_)]) := Lib.hid (by unfold nodeE; rw [if_pos hcat])
            refine wp_region_ord_tail 13 [(0, true), (1, true), (2, true), (3, true), (4, true), (5, true), (6, true), (7, true), (8, true), (9, true), (10, true), (11, true), (12, false)]
              (fun z => z.cell? ⟨b, o + j * 29 + 2, none⟩ = some (.slice NA y.next.length nc) ∧ z.cell? ⟨b, o + j * 29 + 26, none⟩ = some (.int .i64 y.catch_)) (by kernel_rfl) (by kernel_rfl) rfl (by intro c a d v w h; cases d <;> exact h) ?_
            have HB3 := Lib.hid HB2.out.drew
            have HOWN3 := Lib.hid (HOWN2.out.below (Below.refl _ wr).drew)
            have hs : wr.drew.cell? ⟨b, o + j * 29 + 2, none⟩ = some (.slice NA y.next.length nc) ∧ wr.drew.cell? ⟨b, o + j * 29 + 26, none⟩ = some (.int .i64 y.catch_) := ⟨dn, dk⟩
            clear dk dn HOWN2 HB2
            generalize wr.drew = wd at *
            refine ord_move (some 40) _ _ _ rfl rfl rfl (by exact wantA rfl) hs rfl ?_
            go_frame
            refine ord_move (some 41) (.int .i64 j) _ _ rfl rfl rfl (by exact wantA rfl) hs rfl ?_
            go_frame
            refine ord_move (some 42) (.pointer (some ⟨b, o + j * 29, none⟩)) _ _ rfl rfl rfl (by exact wantA rfl) hs rfl ?_
            go_frame
            refine ord_load (some 43) (.pointer (some ⟨b, o + j * 29, none⟩)) _ rfl rfl (by exact wantA rfl) hs (fun z hz => by go_simp) ?_
            go_frame
            refine ord_load (some 44) (.pointer (some ⟨b, o + j * 29 + 2, none⟩)) _ rfl rfl (by exact wantA rfl) hs (fun z hz => by go_simp) ?_
            go_frame
            refine ord_load (some 45) (.slice NA y.next.length nc) _ rfl rfl (by exact wantA rfl) hs (fun z hz => by have dn := hz.1; go_simp) ?_
            go_frame
            refine ord_load (some 46) (.int .i64 y.next.length) _ rfl rfl (by exact wantA rfl) hs (fun z hz => by go_simp) ?_
            go_frame
            refine ord_move (some 47) (.pointer (some ⟨b, o + j * 29, none⟩)) _ _ rfl rfl rfl (by exact wantA rfl) hs rfl ?_
            go_frame
            refine ord_load (some 48) (.pointer (some ⟨b, o + j * 29, none⟩)) _ rfl rfl (by exact wantA rfl) hs (fun z hz => by go_simp) ?_
            go_frame
            refine ord_load (some 49) (.pointer (some ⟨b, o + j * 29 + 26, none⟩)) _ rfl rfl (by exact wantA rfl) hs (fun z hz => by go_simp) ?_
            go_frame
            refine ord_load (some 50) (.int .i64 y.catch_) _ rfl rfl (by exact wantA rfl) hs (fun z hz => by have dk := hz.2; go_simp) ?_
            go_frame
            refine ord_load (some 51) (.agg ⟨encE (j, y.next.length, y.catch_)⟩) _ rfl rfl (by exact wantA rfl) hs (fun z hz => by go_simp; rfl) ?_
            go_frame
            have hs2 : (wd.alloc (.cells ⟨encE (j, y.next.length, y.catch_)⟩ 51)).cell? ⟨b, o + j * 29 + 2, none⟩ = some (.slice NA y.next.length nc) ∧ (wd.alloc (.cells ⟨encE (j, y.next.length, y.catch_)⟩ 51)).cell? ⟨b, o + j * 29 + 26, none⟩ = some (.int .i64 y.catch_) :=
              ⟨((box_below wd _).cell (p := ⟨b, o + j * 29 + 2, none⟩) (World.block_lt_of_cell? wd _ hs.1)).trans hs.1, ((box_below wd _).cell (p := ⟨b, o + j * 29 + 26, none⟩) (World.block_lt_of_cell? wd _ hs.2)).trans hs.2⟩
            refine ord_run (some 52) (.slice (some ⟨wd.heap.size, 0, none⟩) 1 1) (wd.alloc (.cells ⟨encE (j, y.next.length, y.catch_)⟩ 51)) _ rfl rfl (by exact wantA rfl) (by go_simp; rfl) hs2 ?_
            go_frame
            refine ord_tail ?_
            simp only [List.drop_succ_cons, List.drop_zero]
            clear hs hs2 hcat
            have HWZ := Lib.hid (HOWN3.out.below (box_below wd (.cells ⟨encE (j, y.next.length, y.catch_)⟩ 51)))
            have HCE := Lib.hid (cells_box wd (encE (j, y.next.length, y.catch_)) 51)
            have HM1 := Lib.hid (room_max (Nat.le_trans HR1.out HLEN.out))
            have HM2 := Lib.hid (room_bytes (Nat.le_trans HR1.out HLEN.out))
            have HBZ := Lib.hid (HB3.out.alloc HB3.out.size (.cells ⟨encE (j, y.next.length, y.catch_)⟩ 51))
            go_wp2_with (at_builtin; refine wl_push rfl _ _ 48 rfl W.heap.size 51 i0 (.agg #[.int .i64 0, .int .i64 0, .int .i64 0]) 3 24 encE Tryz.underlying48 HI0.out HZ0.out HZ1.out HZ2.out rfl (by decide) encE_len encE_one _ _ rfl HWZ.out wd.heap.size 1 (j, y.next.length, y.catch_) rfl HCE.out HM1.out HM2.out HBZ.out.size ?_)
            intro v' w' hown hg
            have HOWN4 := Lib.hid hown
            have HB4 := Lib.hid (HBZ.out.grown hg HBZ.out.size (fun b hb => HWZ.out.block hb))
            clear hown hg
            go_wp2
            go_roundg q
            case measure => omega
            case rel => exact ⟨j + 1, by omega, by go_num, by rw [HET.out, HE.out]; first | exact HOWN4.out | (rw [← List.append_assoc]; exact HOWN4.out), HB4.out⟩
          · have HE : Hid (nodeE j y = nextE j 0 y.next) := Lib.hid (by unfold nodeE; rw [if_neg hcat, List.append_nil])
            go_wp2
            go_roundg q
            case measure => omega
            case rel => exact ⟨j + 1, by omega, by go_num, by rw [HET.out, HE.out]; exact HOWN2.out, HB2.out⟩
end Go.Proofs.YtpmjcbjdcjjplaaGreat
end
section
namespace Go.Proofs.YtpmjcbjdcjjplaaGreat
open Go.RowKit
set_option linter.unusedVariables false
theorem push_below {α : Type} {T : TypeId} {k B base : Nat} {enc : α → List Value} {w0 w w' : World} {v : Value} {l : List α} (h : Below B w0 w) (hB : B ≤ w.heap.size) (hown : OwnSl T k enc w base v l) (hbase : B ≤ base) (hg : w.grownBy w' v.ownBlock) : Below B w0 w' :=
  h.grown hg hB fun b hb => Nat.le_trans hbase (hown.block hb)
end Go.Proofs.YtpmjcbjdcjjplaaGreat
end
