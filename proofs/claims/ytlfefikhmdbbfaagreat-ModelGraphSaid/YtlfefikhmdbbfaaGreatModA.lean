/- Lemmas that the laws of chapters 12 take from chapter 15's texts: worlds that differ in two blocks, lists that are read, the document's Same, small models. -/
import Derived.Test.YtlfefikhmdbbfaaGreatMReach
import Derived.Test.YtlfefikhmdbbfaaGreatSmall3
namespace Go.Proofs.YtlfefikhmdbbfaaGreat
open Go Go.RowKit
set_option linter.unusedVariables false

/-- all blocks but two lie as they lay -/
structure But (w W : World) (p q : Nat) : Prop where
  os : W.os = w.os
  tape : W.tape = w.tape
  output : W.output = w.output
  size : w.heap.size ≤ W.heap.size
  block : ∀ b, b < w.heap.size → b ≠ p → b ≠ q → W.heap[b]? = w.heap[b]?
section
variable {w W Z : World} {p q : Nat}
theorem But.refl (w : World) (p q : Nat) : But w w p q := ⟨rfl, rfl, rfl, Nat.le_refl _, fun _ _ _ _ => rfl⟩
theorem But.trans (h : But w W p q) (k : But W Z p q) : But w Z p q :=
  ⟨k.os.trans h.os, k.tape.trans h.tape, k.output.trans h.output, Nat.le_trans h.size k.size, fun b hb h1 h2 => (k.block b (Nat.lt_of_lt_of_le hb h.size) h1 h2).trans (h.block b hb h1 h2)⟩
theorem But.of_below (hb : Below w.heap.size w W) (p q : Nat) : But w W p q := ⟨hb.os, hb.tape, hb.output, hb.size, fun b h _ _ => hb.block b h⟩
theorem But.set1 (w : World) (p q i : Nat) (v : Value) : But w (w.setCell ⟨p, i, none⟩ v) p q :=
  ⟨rfl, rfl, rfl, by simp [World.setCell], fun b _ h1 _ => Below.heap_setCell w ⟨p, i, none⟩ v b h1⟩
theorem But.set2 (w : World) (p q i : Nat) (v : Value) : But w (w.setCell ⟨q, i, none⟩ v) p q :=
  ⟨rfl, rfl, rfl, by simp [World.setCell], fun b _ _ h2 => Below.heap_setCell w ⟨q, i, none⟩ v b h2⟩
theorem But.own (h : But w W p q) {row : Option Nat} (hg : W.grownBy Z row) (hr : ∀ r, row = some r → w.heap.size ≤ r) : But w Z p q :=
  ⟨hg.os.trans h.os, hg.tape.trans h.tape, hg.output.trans h.output, Nat.le_trans h.size hg.size, fun b hb h1 h2 => (hg.block b (Nat.lt_of_lt_of_le hb h.size) (fun e => by have := hr b e.symm; omega)).trans (h.block b hb h1 h2)⟩
theorem But.cell (h : But w W p q) {b o : Nat} (hb : b < w.heap.size) (h1 : b ≠ p) (h2 : b ≠ q) : W.cell? ⟨b, o, none⟩ = w.cell? ⟨b, o, none⟩ := World.cell?_of_block (a := ⟨b, o, none⟩) (h.block b hb h1 h2)
theorem But.below (h : But w W p q) {B : Nat} (hB : B ≤ w.heap.size) (hp : B ≤ p) (hq : B ≤ q) : Below B w W := ⟨h.os, h.tape, h.output, h.size, fun b hb => h.block b (by omega) (by omega) (by omega)⟩
end

/-- a box of one cell -/
structure Box1 (w : World) (b : Nat) (v : Value) : Prop where
  cell : w.cell? ⟨b, 0, none⟩ = some v
  fz : w.frozen? ⟨b, 0, none⟩ = false
  one : w.cell? ⟨b, 1, none⟩ = none
  lt : b < w.heap.size
theorem Box1.new (w : World) (v : Value) (T : TypeId) : Box1 (w.alloc (.cells #[v] T)) w.heap.size v := ⟨cell_box w #[v] T 0, frozen_box w #[v] T 0, cell_box w #[v] T 1, box_size w _⟩
theorem Box1.keep {w W : World} {b : Nat} {v : Value} (h : Box1 w b v) (hb : W.heap[b]? = w.heap[b]?) : Box1 W b v :=
  ⟨(World.cell?_of_block (a := ⟨b, 0, none⟩) hb).trans h.cell, (World.frozen?_of_block (a := ⟨b, 0, none⟩) hb).trans h.fz, (World.cell?_of_block (a := ⟨b, 1, none⟩) hb).trans h.one, by
    rcases Nat.lt_or_ge b W.heap.size with h2 | h2
    · exact h2
    · rw [Array.getElem?_eq_none h2, Array.getElem?_eq_getElem h.lt] at hb; cases hb⟩
theorem Box1.below {w W : World} {b B : Nat} {v : Value} (h : Box1 w b v) (hb : Below B w W) (hB : b < B) : Box1 W b v := h.keep (hb.block b hB)
theorem Box1.set {w : World} {b : Nat} {v : Value} (h : Box1 w b v) (u : Value) : Box1 (w.setCell ⟨b, 0, none⟩ u) b u :=
  ⟨World.cell?_setCell_same _ _ _ h.cell, by rw [World.frozen?_setCell]; exact h.fz, (World.cell?_setCell_other _ _ _ _ (by simp)).trans h.one, by simpa [World.setCell] using h.lt⟩

def IntsV (w : World) (v : Value) (l : List Int) : Prop := SlAt w w.heap.size 1 (Enc encI) v l
theorem IntsV.below {w w' : World} {v : Value} {l : List Int} (h : IntsV w v l) (hb : Below w.heap.size w w') : IntsV w' v l := (SlAt.below h hb (fun _ _ _ h => h)).more hb.size
theorem OwnSl.ints {w : World} {base : Nat} {v : Value} {l : List Int} {T : TypeId} (h : OwnSl T 1 encI w base v l) (hl : l.length ≤ 10000) : IntsV w v l := h.at encI_len (by omega)
def IntsAt (w : World) (B : Nat) (v : Value) (l : List Int) : Prop :=
  l.length ≤ 9223372036854775807 ∧ ∃ A c, v = .slice A l.length c ∧ (0 < l.length → ∃ b o, A = some ⟨b, o, none⟩ ∧ b < B ∧ ∀ (i : Nat) x, l[i]? = some x → w.cell? ⟨b, o + i, none⟩ = some (.int .i64 x))
theorem IntsV.ints {w : World} {v : Value} {l : List Int} (h : IntsV w v l) : IntsAt w w.heap.size v l := by
  obtain ⟨h0, A, c, rfl, h1⟩ := h
  refine ⟨h0, A, c, rfl, fun hp => ?_⟩
  obtain ⟨b, o, rfl, hb, h2⟩ := h1 hp
  refine ⟨b, o, rfl, hb, fun i x hx => ?_⟩
  obtain ⟨cs, h3, h4, h5⟩ := h2 i x hx
  have h5' : cs = encI x := h5
  subst h5'
  have := h4 0 (.int .i64 x) rfl
  simpa using this
set_option maxHeartbeats 1000000 in
theorem same_any (u v : Value) (a b : List Int) (B : Nat) (w : World) (ha : IntsAt w B u a) (hb : IntsAt w B v b) :
    Calls Tryz.prog 15 #[u, v] w fun e w' => e = .returned (.bool (a == b)) ∧ ∃ m, w' = w.drewN m := by
  obtain ⟨la, A, ca, rfl, ha⟩ := ha
  obtain ⟨lb, D, cb, rfl, hb⟩ := hb
  by_cases hlen : a.length = b.length
  · have h1 : ((a.length : Int) != (b.length : Int)) = false := by simp [hlen]
    have HA := Lib.hid ha
    have HB := Lib.hid hb
    have HL := Lib.hid hlen
    clear ha hb
    have hlen2 : a.length ≤ b.length ∧ b.length ≤ a.length := by omega
    obtain ⟨hl1, hl2⟩ := hlen2
    clear hlen
    go_enter Tryz.func15, Tryz.ntmps15
    go_wp2
    go_loopg [5] a.length (fun g i wr => ∃ k m : Nat, k + g = a.length ∧ i = .int .i64 k ∧ wr = w.drewN m ∧ a.take k = b.take k)
    case atStart => exact ⟨0, 0, by omega, rfl, rfl, rfl⟩
    case round =>
      obtain ⟨k, m, hk, rfl, rfl, heq⟩ := hrel
      have HEQ := Lib.hid heq
      clear heq
      cases gk with
      | zero =>
        have hge : ¬ ((k : Int) < (a.length : Int)) := by omega
        go_wp2
        go_ret
        refine ⟨ret_bool ?_, _, rfl⟩
        have := HEQ.out
        rw [List.take_of_length_le (by omega), List.take_of_length_le (by omega)] at this
        rw [this]; simp
      | succ g =>
        have hlt : (k : Int) < (a.length : Int) := by omega
        have hlt2 : (k : Int) < (b.length : Int) := by omega
        obtain ⟨b1, o1, rfl, _, c1⟩ := HA.out (by omega)
        obtain ⟨b2, o2, rfl, _, c2⟩ := HB.out (by omega)
        obtain ⟨x, e1⟩ : ∃ x, a[k]? = some x := ⟨_, List.getElem?_eq_getElem (by omega)⟩
        obtain ⟨y, e2⟩ : ∃ y, b[k]? = some y := ⟨_, List.getElem?_eq_getElem (by omega)⟩
        have d1 := c1 k _ e1
        have d2 := c2 k _ e2
        have T1 := Lib.hid (take_at e1)
        have T2 := Lib.hid (take_at e2)
        have HNE : Hid (x ≠ y → (a == b) = false) := by
          refine Lib.hid fun h => beq_eq_false_iff_ne.2 fun e => h ?_
          rw [e] at e1
          rw [e1] at e2
          exact Option.some.inj e2
        clear c1 c2 e1 e2
        by_cases hxy : x = y
        · subst hxy
          go_wp2
          go_quiet (fail)
          go_wp2
          go_roundg g
          case measure => omega
          case rel => exact ⟨k + 1, _, by omega, by go_num, rfl, by rw [T1.out, T2.out, HEQ.out]⟩
        · have hn : (x != y) = true := by simpa using hxy
          have HF := Lib.hid (HNE.out hxy)
          go_wp2
          go_quiet (fail)
          go_wp2
          go_ret
          exact ⟨ret_bool HF.out.symm, _, World.drewN_drewN _ _ _⟩
  · have h1 : ((a.length : Int) != (b.length : Int)) = true := by simp; omega
    have hE : (a == b) = false := beq_eq_false_iff_ne.2 fun e => hlen (by rw [e])
    have HE := Lib.hid hE
    clear ha hb hlen hE
    go_enter Tryz.func15, Tryz.ntmps15
    go_wp2
    go_ret
    exact ⟨ret_bool HE.out.symm, 0, rfl⟩
theorem same_ints (u v : Value) (a b : List Int) (w : World) (ha : IntsV w u a) (hb : IntsV w v b) :
    Calls Tryz.prog 15 #[u, v] w fun e w' => e = .returned (.bool (a == b)) ∧ ∃ m, w' = w.drewN m := same_any u v a b w.heap.size w ha.ints hb.ints
theorem mem_listN {S : Nat → Bool} {n : Nat} {x : Int} : x ∈ listN S n ↔ ∃ k : Nat, x = k ∧ k < n ∧ S k = true := by
  unfold listN
  rw [List.mem_map]
  constructor
  · rintro ⟨k, hk, rfl⟩
    obtain ⟨h1, h2⟩ := List.mem_filter.1 hk
    exact ⟨k, rfl, List.mem_range.1 h1, h2⟩
  · rintro ⟨k, rfl, h1, h2⟩
    exact ⟨k, List.mem_filter.2 ⟨List.mem_range.2 h1, h2⟩, rfl⟩
theorem listN_has {S : Nat → Bool} {n d : Nat} (hd : d < n) : (listN S n).contains (d : Int) = S d := by
  rw [Bool.eq_iff_iff, List.contains_iff_mem, mem_listN]
  constructor
  · rintro ⟨k, h1, h2, h3⟩
    have : d = k := by omega
    subst this; exact h3
  · intro h; exact ⟨d, rfl, hd, h⟩
theorem listN_at {n : Nat} {S : Nat → Bool} {j : Nat} {x : Int} (h : (listN S n)[j]? = some x) : ∃ i : Nat, x = i ∧ i < n ∧ S i = true := mem_listN.1 (List.mem_of_getElem? h)
def zM (i : Nat) : Value := if i = 0 then .int .i64 0 else .slice none 0 0
theorem row_zM (w : World) : RowF (w.alloc (.cells #[.int .i64 0, .slice none 0 0, .slice none 0 0, .slice none 0 0, .slice none 0 0, .slice none 0 0] 27)) w.heap.size 6 zM := by
  refine ⟨fun i hi => ?_, fun i hi => frozen_box _ _ _ _⟩
  rw [cell_box]
  match i, hi with
  | 0, _ => rfl
  | 1, _ => rfl
  | 2, _ => rfl
  | 3, _ => rfl
  | 4, _ => rfl
  | 5, _ => rfl
def encX : List Value := [.int .i64 0, .string ⟨#[]⟩, .int .i64 0, .int .i64 0, .float .f64 0, .string ⟨#[]⟩, .slice none 0 0, .slice none 0 0, .slice none 0 0, .slice none 0 0]
def encC (v : Value) (c : Int) : List Value := [.int .i64 0, .int .i64 0, v, .slice none 0 0] ++ encX ++ encX ++ [.int .i64 0, .int .i64 0, .int .i64 c, .int .i64 0, .int .i64 0]
theorem info_node : (Tryz.prog.info? 42).map (fun i => (i.zero, i.size, i.bytes)) = some (some (.agg ⟨encC (.slice none 0 0) 0⟩), 29, 424) := by kernel_rfl
theorem below_put {B lb i : Nat} {w0 w : World} (h : Below B w0 w) (hlb : B ≤ lb) (y : Value) : Below B w0 (w.setCell ⟨lb, i, none⟩ y) := below_sets (vs := [y]) h hlb i
theorem own_flat {w : World} {base : Nat} {v : Value} {l : List Int} {n : Nat} (hn : n = l.length) (h : w.ownsRow base 3 1 v n (l.map (Value.int .i64))) : OwnSl 3 1 encI w base v l := by
  unfold OwnSl; rw [flat_ints, ← hn]; exact h
theorem lit_v (w : World) (l : List Int) (hl : l.length ≤ 10000) : IntsV (w.alloc (.cells ⟨l.map (Value.int .i64)⟩ 3)) (.slice (some ⟨w.heap.size, 0, none⟩) l.length l.length) l := by
  refine ⟨by omega, _, _, rfl, fun h0 => ⟨w.heap.size, 0, rfl, box_size w _, fun i x hx => ⟨encI x, rfl, fun j v hv => ?_, rfl⟩⟩⟩
  have hj : j = 0 := by have := (List.getElem?_eq_some_iff.1 hv).1; simp [encI] at this; exact this
  subst hj
  have hv' : v = .int .i64 x := by simpa [encI] using hv.symm
  rw [hv', Nat.zero_add, Nat.mul_one, Nat.add_zero]
  exact cells_box w (l.map (Value.int .i64)) 3 i _ (by rw [List.getElem?_map, hx]; rfl)
theorem edgesFrom_len : ∀ (g : List GN) (i : Nat), (∀ x ∈ g, x.next.length ≤ 40) → (edgesFrom i g).length ≤ 41 * g.length
  | [], _, _ => by simp [edgesFrom]
  | x :: g, i, h => by
    have h1 := edgesFrom_len g (i + 1) fun y hy => h y (List.mem_cons_of_mem _ hy)
    have h2 := h x (List.mem_cons_self ..)
    show (nodeE i x ++ edgesFrom (i + 1) g).length ≤ _
    unfold nodeE
    rw [List.length_append, List.length_append, nextE_len, List.length_cons]
    split
    · simp only [List.length_singleton]; omega
    · simp only [List.length_nil]; omega
def gOf (m : ModelT) : List GN := m.nodes.map gnOf
theorem small_g {m : ModelT} (h : SmallM m) : (gOf m).length ≤ 100 ∧ (edgesOf (gOf m)).length ≤ 4100 := by
  have h1 : (gOf m).length ≤ 100 := by unfold gOf; rw [List.length_map]; exact h.nodes
  have h2 := edgesFrom_len (gOf m) 0 fun x hx => by
    unfold gOf at hx
    obtain ⟨y, hy, rfl⟩ := List.mem_map.1 hx
    obtain ⟨i, hi⟩ := List.mem_iff_getElem?.1 hy
    exact (h.next i y hi).1
  refine ⟨h1, ?_⟩
  unfold edgesOf
  omega
theorem ModelAt.next {w w' : World} {cs : List Value} {m : ModelT} (h : ModelAt w w.heap.size cs m) (hb : Below w.heap.size w w') : ModelAt w' w'.heap.size cs m := (h.under hb).more hb.size

/-! places in an order -/
theorem exec_mload (a : Act) (o : Oper) {x : Operand} (ho : o.op = .load 27 x) (b : Nat) (cs : List Value) {w : World} (hl : cs.length = 6) (hx : a.eval x = .pointer (some ⟨b, 0, none⟩)) (hm : w.rangeAt b 0 cs) :
    (execOp a.eval o).run Tryz.prog w = .ok (.value (.agg ⟨cs⟩)) w := by
  unfold execOp
  simp only [ho, hx, Instr.loadAt, Instr.sureAddr, Sem.run_bind, Sem.run_pure, Result.andThen_ok,
    run_loadVar_mid (P := Tryz.prog) w b 0 27 cs _ hm Tryz.underlying27 rfl (by rw [hl]; kernel_rfl)]
def boolsF (f : Nat → Bool) (j : Nat) : Value := .bool (f j)
theorem RowF.setB {w : World} {g n i : Nat} {f f' : Nat → Bool} (h : RowF w g n (boolsF f)) (hi : i < n) (hf : ∀ j, j < n → f' j = (if j = i then true else f j)) : RowF (w.setCell ⟨g, i, none⟩ (.bool true)) g n (boolsF f') :=
  (h.set hi (.bool true)).congr fun j hj => by
    unfold boolsF
    rw [hf j hj]
    by_cases e : j = i
    · rw [if_pos e, if_pos e]
    · rw [if_neg e, if_neg e]
def hasK (R : List Int) (k : Nat) (j : Nat) : Bool := (R.take k).contains (j : Int)
theorem hasK_succ {R : List Int} {k x : Nat} (h : R[k]? = some (x : Int)) (j : Nat) : hasK R (k + 1) j = if j = x then true else hasK R k j := by
  unfold hasK
  rw [take_at h, Bool.eq_iff_iff, List.contains_iff_mem, List.mem_append, List.mem_singleton]
  by_cases e : j = x
  · rw [if_pos e]; subst e; simp
  · rw [if_neg e, List.contains_iff_mem]
    constructor
    · rintro (h | h)
      · exact h
      · omega
    · exact .inl
theorem hasK_end (R : List Int) (j : Nat) : hasK R R.length j = R.contains (j : Int) := by unfold hasK; rw [List.take_length]
theorem isN_nat {n r : Nat} (hr : r < n) : isN n (r : Int) = true := by unfold isN; simp; omega
theorem root_mod (a : Int) {n : Nat} (h0 : n ≠ 0) (hn : n ≤ 100) : ∃ r : Nat, wrap64 ((IntKind.u64.wrap a).tmod n) = r ∧ r < n := by
  have h1 : 0 ≤ IntKind.u64.wrap a := wrap_u64_nonneg a
  have h2 := Int.tmod_eq_emod_of_nonneg (b := (n : Int)) h1
  have h3 := Int.emod_nonneg (IntKind.u64.wrap a) (b := (n : Int)) (by omega)
  have h4 := Int.emod_lt_of_pos (IntKind.u64.wrap a) (b := (n : Int)) (by omega)
  refine ⟨((IntKind.u64.wrap a).tmod n).toNat, ?_, by omega⟩
  rw [IntWalk.wrap64_in _ (by omega)]
  omega
theorem But.setHigh {w W : World} {p q b i : Nat} (h : But w W p q) (hb : w.heap.size ≤ b) (v : Value) : But w (W.setCell ⟨b, i, none⟩ v) p q :=
  ⟨h.os, h.tape, h.output, by have := h.size; simpa [World.setCell] using this, fun k hk h1 h2 => (Below.heap_setCell W ⟨b, i, none⟩ v k (by intro e; have e2 : k = b := e; omega)).trans (h.block k hk h1 h2)⟩
end Go.Proofs.YtlfefikhmdbbfaaGreat
