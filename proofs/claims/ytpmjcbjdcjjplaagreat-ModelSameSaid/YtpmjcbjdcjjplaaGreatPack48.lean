/- Parts of a proof: ModA, Into, Out, Zero, Zero2. -/
import Derived.Test.YtpmjcbjdcjjplaaGreatPack6
import Derived.Test.YtpmjcbjdcjjplaaGreatPack10
import Derived.Test.YtpmjcbjdcjjplaaGreatPack17
import Derived.Test.YtpmjcbjdcjjplaaGreatPack35
import Derived.Test.YtpmjcbjdcjjplaaGreatPack47
section
namespace Go.Proofs.YtpmjcbjdcjjplaaGreat
open Go Go.RowKit
set_option linter.unusedVariables false
structure Box1 (w : World) (b : Nat) (v : Value) : Prop where
  cell : w.cell? ⟨b, 0, none⟩ = some v
  fz : w.frozen? ⟨b, 0, none⟩ = false
  one : w.cell? ⟨b, 1, none⟩ = none
  lt : b < w.heap.size
theorem Box1.new (w : World) (v : Value) (T : TypeId) : Box1 (w.alloc (.cells #[v] T)) w.heap.size v := ⟨cell_box w #[v] T 0, frozen_box w #[v] T 0, cell_box w #[v] T 1, box_size w _⟩
theorem Box1.keep {w W : World} {b : Nat} {v : Value} (h : Box1 w b v) (hb : W.heap[b]? = w.heap[b]?) : Box1 W b v :=
  ⟨(World.cell?_of_block (a := ⟨b, 0, none⟩) hb).trans h.cell, (World.frozen?_of_block (a := ⟨b, 0, none⟩) hb).trans h.fz, (World.cell?_of_block (a := ⟨b, 1, none⟩) hb).trans h.one, by
    rcases Nat.lt_or_ge b W.heap.size with h2 | h2
    · exact h2
    · rw [Array.getElem?_eq_none h2, Array.getElem?_eq_getElem h.lt] at hb; cases hb⟩
theorem Box1.below {w W : World} {b B : Nat} {v : Value} (h : Box1 w b v) (hb : Below B w W) (hB : b < B) : Box1 W b v := h.keep (hb.block b hB)
theorem Box1.set {w : World} {b : Nat} {v : Value} (h : Box1 w b v) (u : Value) : Box1 (w.setCell ⟨b, 0, none⟩ u) b u :=
  ⟨World.cell?_setCell_same _ _ _ h.cell, by rw [World.frozen?_setCell]; exact h.fz, (World.cell?_setCell_other _ _ _ _ (by simp)).trans h.one, by simpa [World.setCell] using h.lt⟩
def IntsV (w : World) (v : Value) (l : List Int) : Prop := SlAt w w.heap.size 1 (Enc encI) v l
theorem IntsV.below {w w' : World} {v : Value} {l : List Int} (h : IntsV w v l) (hb : Below w.heap.size w w') : IntsV w' v l := (SlAt.below h hb (fun _ _ _ h => h)).more hb.size
theorem OwnSl.ints {w : World} {base : Nat} {v : Value} {l : List Int} {T : TypeId} (h : OwnSl T 1 encI w base v l) (hl : l.length ≤ 10000) : IntsV w v l := h.at encI_len (by omega)
theorem IntsV.ints {w : World} {v : Value} {l : List Int} (h : IntsV w v l) : IntsAt w w.heap.size v l := by
  obtain ⟨h0, A, c, rfl, h1⟩ := h
  refine ⟨h0, A, c, rfl, fun hp => ?_⟩
  obtain ⟨b, o, rfl, hb, h2⟩ := h1 hp
  refine ⟨b, o, rfl, hb, fun i x hx => ?_⟩
  obtain ⟨cs, h3, h4, h5⟩ := h2 i x hx
  have h5' : cs = encI x := h5
  subst h5'
  have := h4 0 (.int .i64 x) rfl
  simpa using this
set_option maxHeartbeats 1000000 in
theorem same_anyA (u v : Value) (a b : List Int) (B : Nat) (w : World) (ha : IntsAt w B u a) (hb : IntsAt w B v b) :
    Calls Tryz.prog 10 #[u, v] w fun e w' => e = .returned (.bool (a == b)) ∧ ∃ m, w' = w.drewN m := by
  obtain ⟨la, A, ca, rfl, ha⟩ := ha
  obtain ⟨lb, D, cb, rfl, hb⟩ := hb
  by_cases hlen : a.length = b.length
  · have h1 : ((a.length : Int) != (b.length : Int)) = false := by simp [hlen]
    have HA := Lib.hid ha
    have HB := Lib.hid hb
    have HL := Lib.hid hlen
    clear ha hb
    have hlen2 : a.length ≤ b.length ∧ b.length ≤ a.length := by omega
    obtain ⟨hl1, hl2⟩ := hlen2
    clear hlen
    go_enter Tryz.func10, Tryz.ntmps10
    go_wp2
    go_loopg [5] a.length (fun g i wr => ∃ k m : Nat, k + g = a.length ∧ i = .int .i64 k ∧ wr = w.drewN m ∧ a.take k = b.take k)
    case atStart => exact ⟨0, 0, by omega, rfl, rfl, rfl⟩
    case round =>
      obtain ⟨k, m, hk, rfl, rfl, heq⟩ := hrel
      have HEQ := Lib.hid heq
      clear heq
      cases gk with
      | zero =>
        have hge : ¬ ((k : Int) < (a.length : Int)) := by omega
        go_wp2
        go_ret
        refine ⟨ret_bool ?_, _, rfl⟩
        have := HEQ.out
        rw [List.take_of_length_le (by omega), List.take_of_length_le (by omega)] at this
        rw [this]; simp
      | succ g =>
        have hlt : (k : Int) < (a.length : Int) := by omega
        have hlt2 : (k : Int) < (b.length : Int) := by omega
        obtain ⟨b1, o1, rfl, _, c1⟩ := HA.out (by omega)
        obtain ⟨b2, o2, rfl, _, c2⟩ := HB.out (by omega)
        obtain ⟨x, e1⟩ : ∃ x, a[k]? = some x := ⟨_, List.getElem?_eq_getElem (by omega)⟩
        obtain ⟨y, e2⟩ : ∃ y, b[k]? = some y := ⟨_, List.getElem?_eq_getElem (by omega)⟩
        have d1 := c1 k _ e1
        have d2 := c2 k _ e2
        have T1 := Lib.hid (take_at e1)
        have T2 := Lib.hid (take_at e2)
        have HNE : Hid (x ≠ y → (a == b) = false) := by
          refine Lib.hid fun h => beq_eq_false_iff_ne.2 fun e => h ?_
          rw [e] at e1
          rw [e1] at e2
          exact Option.some.inj e2
        clear c1 c2 e1 e2
        by_cases hxy : x = y
        · subst hxy
          go_wp2
          go_quiet (fail)
          go_wp2
          go_roundg g
          case measure => omega
          case rel => exact ⟨k + 1, _, by omega, by go_num, rfl, by rw [T1.out, T2.out, HEQ.out]⟩
        · have hn : (x != y) = true := by simpa using hxy
          have HF := Lib.hid (HNE.out hxy)
          go_wp2
          go_quiet (fail)
          go_wp2
          go_ret
          exact ⟨ret_bool HF.out.symm, _, World.drewN_drewN _ _ _⟩
  · have h1 : ((a.length : Int) != (b.length : Int)) = true := by simp; omega
    have hE : (a == b) = false := beq_eq_false_iff_ne.2 fun e => hlen (by rw [e])
    have HE := Lib.hid hE
    clear ha hb hlen hE
    go_enter Tryz.func10, Tryz.ntmps10
    go_wp2
    go_ret
    exact ⟨ret_bool HE.out.symm, 0, rfl⟩
theorem same_ints (u v : Value) (a b : List Int) (w : World) (ha : IntsV w u a) (hb : IntsV w v b) :
    Calls Tryz.prog 10 #[u, v] w fun e w' => e = .returned (.bool (a == b)) ∧ ∃ m, w' = w.drewN m := same_anyA u v a b w.heap.size w ha.ints hb.ints
def zM (i : Nat) : Value := if i = 0 then .int .i64 0 else .slice none 0 0
theorem row_zM (w : World) : RowF (w.alloc (.cells #[.int .i64 0, .slice none 0 0, .slice none 0 0, .slice none 0 0, .slice none 0 0, .slice none 0 0] 27)) w.heap.size 6 zM := by
  refine ⟨fun i hi => ?_, fun i hi => frozen_box _ _ _ _⟩
  rw [cell_box]
  match i, hi with
  | 0, _ => rfl
  | 1, _ => rfl
  | 2, _ => rfl
  | 3, _ => rfl
  | 4, _ => rfl
  | 5, _ => rfl
def encX : List Value := [.int .i64 0, .string ⟨#[]⟩, .int .i64 0, .int .i64 0, .float .f64 0, .string ⟨#[]⟩, .slice none 0 0, .slice none 0 0, .slice none 0 0, .slice none 0 0]
def encC (v : Value) (c : Int) : List Value := [.int .i64 0, .int .i64 0, v, .slice none 0 0] ++ encX ++ encX ++ [.int .i64 0, .int .i64 0, .int .i64 c, .int .i64 0, .int .i64 0]
theorem info_node : (Tryz.prog.info? 42).map (fun i => (i.zero, i.size, i.bytes)) = some (some (.agg ⟨encC (.slice none 0 0) 0⟩), 29, 424) := by kernel_rfl
theorem below_put {B lb i : Nat} {w0 w : World} (h : Below B w0 w) (hlb : B ≤ lb) (y : Value) : Below B w0 (w.setCell ⟨lb, i, none⟩ y) := below_sets (vs := [y]) h hlb i
theorem own_flat {w : World} {base : Nat} {v : Value} {l : List Int} {n : Nat} (hn : n = l.length) (h : w.ownsRow base 3 1 v n (l.map (Value.int .i64))) : OwnSl 3 1 encI w base v l := by
  unfold OwnSl; rw [flat_ints, ← hn]; exact h
theorem lit_v (w : World) (l : List Int) (hl : l.length ≤ 10000) : IntsV (w.alloc (.cells ⟨l.map (Value.int .i64)⟩ 3)) (.slice (some ⟨w.heap.size, 0, none⟩) l.length l.length) l := by
  refine ⟨by omega, _, _, rfl, fun h0 => ⟨w.heap.size, 0, rfl, box_size w _, fun i x hx => ⟨encI x, rfl, fun j v hv => ?_, rfl⟩⟩⟩
  have hj : j = 0 := by have := (List.getElem?_eq_some_iff.1 hv).1; simp [encI] at this; exact this
  subst hj
  have hv' : v = .int .i64 x := by simpa [encI] using hv.symm
  rw [hv', Nat.zero_add, Nat.mul_one, Nat.add_zero]
  exact cells_box w (l.map (Value.int .i64)) 3 i _ (by rw [List.getElem?_map, hx]; rfl)
theorem ModelAt.next {w w' : World} {cs : List Value} {m : ModelT} (h : ModelAt w w.heap.size cs m) (hb : Below w.heap.size w w') : ModelAt w' w'.heap.size cs m := (h.under hb).more hb.size
theorem exec_mload (a : Act) (o : Oper) {x : Operand} (ho : o.op = .load 27 x) (b : Nat) (cs : List Value) {w : World} (hl : cs.length = 6) (hx : a.eval x = .pointer (some ⟨b, 0, none⟩)) (hm : w.rangeAt b 0 cs) :
    (execOp a.eval o).run Tryz.prog w = .ok (.value (.agg ⟨cs⟩)) w := by
  unfold execOp
  simp only [ho, hx, Instr.loadAt, Instr.sureAddr, Sem.run_bind, Sem.run_pure, Result.andThen_ok,
    run_loadVar_mid (P := Tryz.prog) w b 0 27 cs _ hm Tryz.underlying27 rfl (by rw [hl]; kernel_rfl)]
end Go.Proofs.YtpmjcbjdcjjplaaGreat
end
section
namespace Go.Proofs.YtpmjcbjdcjjplaaGreat
open Go Go.RowKit
set_option linter.unusedVariables false
def intoK (E : List EdgeT) (a : Int) : Nat → List Int
  | 0 => []
  | k + 1 => intoK E a k ++ if (E.map fun e => e.2.2)[k]? = some a then [(k : Int)] else []
def intoL (g : List GN) (a : Int) : List Int := intoK (edgesOf g) a (edgesOf g).length
theorem intoK_len (E : List EdgeT) (a : Int) : ∀ k, (intoK E a k).length ≤ k
  | 0 => Nat.le_refl _
  | k + 1 => by
    unfold intoK
    rw [List.length_append]
    have := intoK_len E a k
    split
    · rw [List.length_singleton]; omega
    · simp only [List.length_nil]; omega
theorem intoK_yes {E : List EdgeT} {a : Int} {k : Nat} {e : EdgeT} (h : E[k]? = some e) (ha : e.2.2 = a) : intoK E a (k + 1) = intoK E a k ++ [(k : Int)] := by
  show intoK E a k ++ (if (E.map fun e => e.2.2)[k]? = some a then [(k : Int)] else []) = _
  rw [if_pos (by rw [List.getElem?_map, h]; simp [ha])]
theorem intoK_no {E : List EdgeT} {a : Int} {k : Nat} {e : EdgeT} (h : E[k]? = some e) (ha : e.2.2 ≠ a) : intoK E a (k + 1) = intoK E a k := by
  show intoK E a k ++ (if (E.map fun e => e.2.2)[k]? = some a then [(k : Int)] else []) = _
  rw [if_neg (by rw [List.getElem?_map, h]; simpa using ha), List.append_nil]
set_option maxHeartbeats 4000000 in
set_option maxRecDepth 100000 in
theorem into_any (g : List GN) (a : Int) (c0 c1 c2 c3 c4 v5 : Value) (w : World) (hg : GraphAt w w.heap.size v5 g) (hlen : (edgesOf g).length ≤ 10000) :
    Calls Tryz.prog 11 #[.agg ⟨[c0, c1, c2, c3, c4, v5]⟩, .int .i64 a] w (IntsPost w (intoL g a)) := by
  have HG := Lib.hid hg
  have HLEN := Lib.hid hlen
  obtain ⟨hgl, A, c, rfl, hA⟩ := hg
  clear hA hlen hgl
  obtain ⟨i0, hi, hz0, hz1, hz2⟩ := info_parts' info_intR
  have HI0 := Lib.hid hi
  have HZ0 := Lib.hid hz0
  have HZ1 := Lib.hid hz1
  have HZ2 := Lib.hid hz2
  clear hi hz0 hz1 hz2
  have HIN : Hid (intoL g a = intoK (edgesOf g) a (edgesOf g).length) := Lib.hid rfl
  go_enter Tryz.func11, Tryz.ntmps11
  go_upto_region 1 with (fail)
  have HB := Lib.hid (box_below w (.cells ⟨[c0, c1, c2, c3, c4, .slice A g.length c]⟩ 27))
  have HR := Lib.hid (range_box w [c0, c1, c2, c3, c4, .slice A g.length c] 27)
  generalize w.alloc (.cells ⟨[c0, c1, c2, c3, c4, .slice A g.length c]⟩ 27) = W at *
  have HCE := Lib.hid (edges_any g c0 c1 c2 c3 c4 (.slice A g.length c) W (HG.out.next HB.out) HLEN.out)
  go_wp2_with (first | ((with_reducible refine wl_sload 27 _ rfl ?hw2 w.heap.size 0 [c0, c1, c2, c3, c4, .slice A g.length c] _ rfl HR.out Tryz.underlying27 rfl ?hi2 ?_); (case hw2 => exact wantA rfl); (case hi2 => kernel_rfl)) | (go_at_call 9; fail))
  refine HCE.out.mono ?_
  rintro e w3 ⟨v3, rfl, hown, hb3⟩
  obtain ⟨hel, EA, ec, rfl, hea⟩ := hown.at encE_len (by have := HLEN.out; omega)
  have HEB := Lib.hid hea
  have HB3 := Lib.hid hb3
  have HBW := Lib.hid (HB.out.trans (hb3.mono HB.out.size))
  clear hown hb3 hel hea HCE
  generalize edgesOf g = E at *
  have hle2 : (E.length : Int) ≤ 10000 := by have := HLEN.out; omega
  go_wp2
  go_loopg [4, 10] E.length (fun q v x u => ∃ j : Nat, j + q = E.length ∧ x = .int .i64 j ∧ OwnSl 3 1 encI u w3.heap.size v (intoK E a j) ∧ Below w3.heap.size w3 u)
  case atStart => exact ⟨0, by omega, rfl, OwnSl.nil _ _, Below.refl _ _⟩
  case round =>
    obtain ⟨j, hj, rfl, hown, hb⟩ := hrel
    have HO := Lib.hid hown
    have HBK := Lib.hid hb
    clear hown hb
    cases gk with
    | zero =>
      obtain rfl : j = E.length := by omega
      have hge : ¬ ((E.length : Int) < (E.length : Int)) := by omega
      go_wp2
      go_ret
      exact ⟨_, rfl, by rw [HIN.out]; exact HO.out.mono (Nat.le_trans HB.out.size HB3.out.size), HBW.out.trans (HBK.out.mono HBW.out.size)⟩
    | succ q =>
      have hlt2 : (j : Int) < (E.length : Int) := by omega
      obtain ⟨e, he⟩ : ∃ e, E[j]? = some e := ⟨_, List.getElem?_eq_getElem (by omega)⟩
      obtain ⟨b, o, rfl, hbl, hc⟩ := HEB.out (by omega)
      have HRE : Hid (wr.rangeAt b (o + j * 3) [.int .i64 e.1, .int .i64 e.2.1, .int .i64 e.2.2]) := Lib.hid (by
        obtain ⟨ks, h1, h2, h3⟩ := hc j e he
        have h3' : ks = encE e := h3
        subst h3'
        exact rangeAt_below h2 HBK.out hbl)
      have HYES := Lib.hid (fun h => intoK_yes (a := a) he h)
      have HNO := Lib.hid (fun h => intoK_no (a := a) he h)
      have hil := intoK_len E a j
      have HK1 : Hid ((intoK E a j).length + 1 ≤ maxLen) := Lib.hid (by have := HLEN.out; unfold maxLen; omega)
      have HK2 : Hid (((intoK E a j).length + 1) * 8 ≤ 140737488355328) := Lib.hid (by have := HLEN.out; omega)
      clear hc he hil
      go_upto_region 4 with (first | ((with_reducible refine wl_sload 51 _ rfl ?hw b (o + j * 3) [.int .i64 e.1, .int .i64 e.2.1, .int .i64 e.2.2] _ rfl HRE.out Tryz.underlying51 rfl ?hi ?_); (case hw => exact wantA rfl); (case hi => kernel_rfl)) | ((with_reducible refine wl_sbox 51 _ _ rfl ?hw wr ?z (encE e) ?hwld ?hz ?hx ?hy ?hi ?h1 ?_); (case hwld => rfl); (case hx => rfl); (case hy => rfl); (case hw => exact wantA rfl); (case hz => rfl); (case hi => kernel_rfl); (case h1 => exact encE_one e); intro Z hbx; have HX := Lib.hid hbx; clear hbx))
      have HBZ := Lib.hid (HBK.out.trans (HX.out.below.mono HBK.out.size))
      have HOZ := Lib.hid (HO.out.below HX.out.below)
      obtain ⟨eb, heb⟩ : ∃ eb, wr.heap.size = eb := ⟨_, rfl⟩
      have d2 : Z.cell? ⟨eb, 2, none⟩ = some (.int .i64 e.2.2) := heb ▸ HX.out.cell 2 rfl
      rw [heb]
      clear heb HX HRE
      by_cases hto : e.2.2 = a
      · have t1 : (e.2.2 == a) = true := by simpa using hto
        have HY := Lib.hid (HYES.out hto)
        have HWZ := Lib.hid (HOZ.out.below (box_below Z (.cells ⟨encI (j : Int)⟩ 3)))
        have HCX := Lib.hid (cells_box Z (encI (j : Int)) 3)
        have HBX := Lib.hid (HBZ.out.alloc HBZ.out.size (.cells ⟨encI (j : Int)⟩ 3))
        clear hto
        go_wp2_with (at_builtin; (refine wl_push rfl _ _ 32 rfl w3.heap.size 3 i0 (.int .i64 0) 1 8 encI Tryz.underlying32 HI0.out HZ0.out HZ1.out HZ2.out rfl (by decide) encI_len encI_one _ _ rfl HWZ.out Z.heap.size 1 (j : Int) rfl HCX.out HK1.out HK2.out HBX.out.size ?_; intro v6 w6 hown6 hg6; have HO6 := Lib.hid hown6; have HG6 := Lib.hid hg6; clear hown6 hg6))
        have HB6 := Lib.hid (push_below HBX.out HBX.out.size HWZ.out (Nat.le_refl _) HG6.out)
        go_roundg q
        case measure => omega
        case rel => exact ⟨j + 1, by omega, by go_num, by rw [HY.out]; exact HO6.out, HB6.out⟩
      · have t1 : (e.2.2 == a) = false := by simpa using hto
        have HN := Lib.hid (HNO.out hto)
        clear hto
        go_wp2
        go_roundg q
        case measure => omega
        case rel => exact ⟨j + 1, by omega, by go_num, by rw [HN.out]; exact HOZ.out, HBZ.out⟩
end Go.Proofs.YtpmjcbjdcjjplaaGreat
end
section
namespace Go.Proofs.YtpmjcbjdcjjplaaGreat
open Go Go.RowKit
set_option linter.unusedVariables false
def outP (n p : Int) (e : EdgeT) : Bool := ((e.1 : Int) == n) && ((e.2.1 : Int) == p)
def outK (E : List EdgeT) (n p : Int) : Int := if (E.findIdx? (outP n p)).isSome = true then ((E.findIdx? (outP n p)).getD 0 : Nat) else -1
theorem out_no {E : List EdgeT} {n p : Int} (h : ∀ (k : Nat) e, E[k]? = some e → outP n p e = false) : outK E n p = -1 := by
  have : E.findIdx? (outP n p) = none := by
    rw [List.findIdx?_eq_none_iff]
    intro e he
    obtain ⟨k, hk⟩ := List.mem_iff_getElem?.1 he
    exact h k e hk
  unfold outK
  rw [this]
  rfl
theorem out_yes {E : List EdgeT} {n p : Int} {j : Nat} {e : EdgeT} (hj : E[j]? = some e) (hp : outP n p e = true) (h : ∀ (k : Nat), k < j → ∀ e, E[k]? = some e → outP n p e = false) : outK E n p = j := by
  have : E.findIdx? (outP n p) = some j := by
    rw [List.findIdx?_eq_some_iff_getElem]
    obtain ⟨h1, h2⟩ := List.getElem?_eq_some_iff.1 hj
    refine ⟨h1, by rw [h2]; exact hp, fun k hk => ?_⟩
    have := h k hk (E[k]'(by omega)) (List.getElem?_eq_getElem _)
    simp [this]
  unfold outK
  rw [this]
  rfl
set_option maxHeartbeats 4000000 in
set_option maxRecDepth 100000 in
theorem out1_any (e : EdgeT) (n p : Int) (pb qb : Nat) (w : World) (hp : w.cell? ⟨pb, 0, none⟩ = some (.int .i64 n)) (hq : w.cell? ⟨qb, 0, none⟩ = some (.int .i64 p)) (hlp : pb < w.heap.size ∧ qb < w.heap.size) :
    Calls Tryz.prog 38 #[.agg #[.int .i64 e.1, .int .i64 e.2.1, .int .i64 e.2.2], .pointer (some ⟨pb, 0, none⟩), .pointer (some ⟨qb, 0, none⟩)] w fun e' w' => e' = .returned (.bool (outP n p e)) ∧ Below w.heap.size w w' := by
  have HB := Lib.hid (box_below w (.cells ⟨encE e⟩ 51))
  have HC := Lib.hid (cells_box w (encE e) 51)
  have HP := Lib.hid hp
  have HQ := Lib.hid hq
  have HL := Lib.hid hlp
  have HO : Hid (outP n p e = (((e.1 : Int) == n) && ((e.2.1 : Int) == p))) := Lib.hid rfl
  clear hp hq hlp
  go_enter Tryz.func38, Tryz.ntmps38
  go_upto_region 1 with (fail)
  have hz : w.alloc (.cells ⟨encE e⟩ 51) = w.alloc (.cells #[.int .i64 e.1, .int .i64 e.2.1, .int .i64 e.2.2] 51) := rfl
  rw [hz] at HB HC
  generalize w.alloc (.cells #[.int .i64 e.1, .int .i64 e.2.1, .int .i64 e.2.2] 51) = W at *
  have d0 : W.cell? ⟨w.heap.size, 0, none⟩ = some (.int .i64 e.1) := HC.out 0 _ rfl
  have d1 : W.cell? ⟨w.heap.size, 1, none⟩ = some (.int .i64 e.2.1) := HC.out 1 _ rfl
  have d2 := (HB.out.cell (p := ⟨pb, 0, none⟩) HL.out.1).trans HP.out
  have d3 := (HB.out.cell (p := ⟨qb, 0, none⟩) HL.out.2).trans HQ.out
  obtain ⟨eb, heb⟩ : ∃ eb, w.heap.size = eb := ⟨_, rfl⟩
  have HBB : Hid (Below w.heap.size w W) := HB
  rw [heb] at d0 d1
  rw [heb]
  clear heb hz
  by_cases h1 : (e.1 : Int) = n
  · have t1 : ((e.1 : Int) == n) = true := by simpa using h1
    by_cases h2 : (e.2.1 : Int) = p
    · have t2 : ((e.2.1 : Int) == p) = true := by simpa using h2
      have HT : Hid (outP n p e = true) := Lib.hid (by rw [HO.out, t1, t2]; rfl)
      clear h1 h2 HO
      go_wp2
      go_ret
      exact ⟨by rw [HT.out]; try rfl, HBB.out⟩
    · have t2 : ((e.2.1 : Int) == p) = false := by simpa using h2
      have HT : Hid (outP n p e = false) := Lib.hid (by rw [HO.out, t1, t2]; rfl)
      clear h1 h2 HO
      go_wp2
      go_ret
      exact ⟨by rw [HT.out]; try rfl, HBB.out⟩
  · have t1 : ((e.1 : Int) == n) = false := by simpa using h1
    have HT : Hid (outP n p e = false) := Lib.hid (by rw [HO.out, t1]; rfl)
    clear h1 HO
    go_wp2
    go_ret
    exact ⟨by rw [HT.out]; try rfl, HBB.out⟩
set_option maxHeartbeats 4000000 in
set_option maxRecDepth 100000 in
theorem index_any (E : List EdgeT) (n p : Int) (v : Value) (pb qb : Nat) (w : World) (hv : SlAt w w.heap.size 3 (Enc encE) v E) (hE : E.length ≤ 10000) (hp : w.cell? ⟨pb, 0, none⟩ = some (.int .i64 n)) (hq : w.cell? ⟨qb, 0, none⟩ = some (.int .i64 p)) (hlp : pb < w.heap.size ∧ qb < w.heap.size) :
    Calls Tryz.prog 37 #[v, .func (.func 38) #[] #[.pointer (some ⟨pb, 0, none⟩), .pointer (some ⟨qb, 0, none⟩)]] w fun e w' => e = .returned (.int .i64 (outK E n p)) ∧ Below w.heap.size w w' := by
  obtain ⟨hel, EA, ec, rfl, hea⟩ := hv
  have HEB := Lib.hid hea
  have HO1 := Lib.hid (fun e u (hu : Below w.heap.size w u) => out1_any e n p pb qb u ((hu.cell (p := ⟨pb, 0, none⟩) hlp.1).trans hp) ((hu.cell (p := ⟨qb, 0, none⟩) hlp.2).trans hq) ⟨Nat.lt_of_lt_of_le hlp.1 hu.size, Nat.lt_of_lt_of_le hlp.2 hu.size⟩)
  have HNONE := Lib.hid (out_no (E := E) (n := n) (p := p))
  have HSOME := Lib.hid (fun j e => out_yes (E := E) (n := n) (p := p) (j := j) (e := e))
  clear hp hq hlp
  have hle2 : (E.length : Int) ≤ 10000 := by omega
  clear hea hel
  go_enter Tryz.func37, Tryz.ntmps37
  go_wp2
  go_loopg [8] E.length (fun q x u => ∃ j : Nat, j + q = E.length ∧ x = .int .i64 j ∧ Below w.heap.size w u ∧ ∀ k, k < j → ∀ e, E[k]? = some e → outP n p e = false)
  case atStart => exact ⟨0, by omega, rfl, Below.refl _ _, fun k hk => absurd hk (Nat.not_lt_zero k)⟩
  case round =>
    obtain ⟨j, hj, rfl, hb, hno⟩ := hrel
    have HBK := Lib.hid hb
    have HNO := Lib.hid hno
    clear hb hno
    cases gk with
    | zero =>
      obtain rfl : j = E.length := by omega
      have hge : ¬ ((E.length : Int) < (E.length : Int)) := by omega
      have HR : Hid (outK E n p = -1) := Lib.hid (HNONE.out fun k e he => HNO.out k (List.getElem?_eq_some_iff.1 he).1 e he)
      go_wp2
      go_ret
      exact ⟨by rw [HR.out]; try rfl, HBK.out⟩
    | succ q =>
      have hlt2 : (j : Int) < (E.length : Int) := by omega
      obtain ⟨e, he⟩ : ∃ e, E[j]? = some e := ⟨_, List.getElem?_eq_getElem (by omega)⟩
      obtain ⟨b, o, rfl, hbl, hc⟩ := HEB.out (by omega)
      have HRE : Hid (wr.rangeAt b (o + j * 3) [.int .i64 e.1, .int .i64 e.2.1, .int .i64 e.2.2]) := Lib.hid (by
        obtain ⟨ks, h1, h2, h3⟩ := hc j e he
        have h3' : ks = encE e := h3
        subst h3'
        exact rangeAt_below h2 HBK.out hbl)
      have HE := Lib.hid he
      have HC1 := Lib.hid (HO1.out e wr HBK.out)
      clear hc he
      cases ho : outP n p e with
      | true =>
        have HR : Hid (outK E n p = j) := Lib.hid (HSOME.out j e HE.out ho fun k hk e' he' => HNO.out k hk e' he')
        rw [ho] at HC1
        clear ho
        go_wp2_with (first | ((with_reducible refine wl_sload 51 _ rfl ?hw b (o + j * 3) [.int .i64 e.1, .int .i64 e.2.1, .int .i64 e.2.2] _ rfl HRE.out Tryz.underlying51 rfl ?hi ?_); (case hw => exact wantA rfl); (case hi => kernel_rfl)) | (go_at_call 38; refine HC1.out.mono ?_; rintro e' w4 ⟨rfl, hb4⟩; have HB4 := Lib.hid hb4; clear hb4))
        go_ret
        exact ⟨by rw [HR.out]; try rfl, HBK.out.trans (HB4.out.mono HBK.out.size)⟩
      | false =>
        have HNX : Hid (∀ k, k < j + 1 → ∀ e, E[k]? = some e → outP n p e = false) := Lib.hid fun k hk e' he' => by
          by_cases ek : k = j
          · subst ek
            have := HE.out
            rw [he'] at this
            injection this with this
            rw [this]; exact ho
          · exact HNO.out k (by omega) e' he'
        rw [ho] at HC1
        clear ho
        go_wp2_with (first | ((with_reducible refine wl_sload 51 _ rfl ?hw b (o + j * 3) [.int .i64 e.1, .int .i64 e.2.1, .int .i64 e.2.2] _ rfl HRE.out Tryz.underlying51 rfl ?hi ?_); (case hw => exact wantA rfl); (case hi => kernel_rfl)) | (go_at_call 38; refine HC1.out.mono ?_; rintro e' w4 ⟨rfl, hb4⟩; have HB4 := Lib.hid hb4; clear hb4))
        go_roundg q
        case measure => omega
        case rel => exact ⟨j + 1, by omega, by go_num, HBK.out.trans (HB4.out.mono HBK.out.size), HNX.out⟩
set_option maxHeartbeats 4000000 in
set_option maxRecDepth 100000 in
theorem out_any (g : List GN) (a p : Int) (c0 c1 c2 c3 c4 v5 : Value) (w : World) (hg : GraphAt w w.heap.size v5 g) (hlen : (edgesOf g).length ≤ 10000) :
    Calls Tryz.prog 12 #[.agg ⟨[c0, c1, c2, c3, c4, v5]⟩, .int .i64 a, .int .i64 p] w fun e w' => e = .returned (.int .i64 (outK (edgesOf g) a p)) ∧ Below w.heap.size w w' := by
  have HG := Lib.hid hg
  have HLEN := Lib.hid hlen
  obtain ⟨hgl, A, c, rfl, hA⟩ := hg
  clear hA hlen hgl
  go_enter Tryz.func12, Tryz.ntmps12
  go_upto_region 1 with (fail)
  have HB1 := Lib.hid (box_below w (.cells ⟨[c0, c1, c2, c3, c4, .slice A g.length c]⟩ 27))
  have HS1 := Lib.hid (box_size w (.cells ⟨[c0, c1, c2, c3, c4, .slice A g.length c]⟩ 27))
  have HR1 := Lib.hid (range_box w [c0, c1, c2, c3, c4, .slice A g.length c] 27)
  have HSE : Hid ((w.alloc (.cells ⟨[c0, c1, c2, c3, c4, .slice A g.length c]⟩ 27)).heap.size = w.heap.size + 1) := Lib.hid (by simp)
  generalize w.alloc (.cells ⟨[c0, c1, c2, c3, c4, .slice A g.length c]⟩ 27) = W1 at *
  have HX2 := Lib.hid (Box1.new W1 (.int .i64 a) 3)
  have HB2 := Lib.hid (box_below W1 (.cells #[.int .i64 a] 3))
  have HSE2 : Hid ((W1.alloc (.cells #[.int .i64 a] 3)).heap.size = w.heap.size + 1 + 1) := Lib.hid (by rw [← HSE.out]; simp)
  rw [HSE.out] at HX2
  generalize W1.alloc (.cells #[.int .i64 a] 3) = W2 at *
  have HX3 := Lib.hid (Box1.new W2 (.int .i64 p) 3)
  have HB3 := Lib.hid (box_below W2 (.cells #[.int .i64 p] 3))
  have HX23 := Lib.hid (HX2.out.below HB3.out HX2.out.lt)
  rw [HSE2.out] at HX3
  generalize W2.alloc (.cells #[.int .i64 p] 3) = W3 at *
  have HB23 := Lib.hid (HB2.out.trans (HB3.out.mono HB2.out.size))
  have HBW := Lib.hid (HB1.out.trans (HB23.out.mono HB1.out.size))
  have HR3 := Lib.hid (rangeAt_below HR1.out HB23.out HS1.out)
  obtain ⟨pb, hpb⟩ : ∃ pb, w.heap.size + 1 = pb := ⟨_, rfl⟩
  rw [hpb] at HX3 HX23
  rw [hpb]
  obtain ⟨qb, hqb⟩ : ∃ qb, pb + 1 = qb := ⟨_, rfl⟩
  rw [hqb] at HX3
  rw [hqb]
  have HCE := Lib.hid (edges_any g c0 c1 c2 c3 c4 (.slice A g.length c) W3 (HG.out.next HBW.out) HLEN.out)
  clear HB1 HS1 HR1 HSE HX2 HB2 HSE2 HB3 HB23 hpb hqb
  go_wp2_with (first | ((with_reducible refine wl_sload 27 _ rfl ?hw2 w.heap.size 0 [c0, c1, c2, c3, c4, .slice A g.length c] _ rfl HR3.out Tryz.underlying27 rfl ?hi2 ?_); (case hw2 => exact wantA rfl); (case hi2 => kernel_rfl)) | (go_at_call 9; refine HCE.out.mono ?_; rintro e w4 ⟨v4, rfl, hown, hb4⟩; have HB4 := Lib.hid hb4; have HI := Lib.hid (index_any (edgesOf g) a p v4 pb qb w4 (hown.at encE_len (by have := HLEN.out; omega)) HLEN.out (HX23.out.below hb4 HX23.out.lt).cell (HX3.out.below hb4 HX3.out.lt).cell ⟨(HX23.out.below hb4 HX23.out.lt).lt, (HX3.out.below hb4 HX3.out.lt).lt⟩); clear hown hb4) | (go_at_call 37; refine HI.out.mono ?_; rintro e w5 ⟨rfl, hb5⟩; have HB5 := Lib.hid hb5; clear hb5))
  go_ret
  exact ⟨rfl, HBW.out.trans ((HB4.out.trans (HB5.out.mono HB4.out.size)).mono HBW.out.size)⟩
end Go.Proofs.YtpmjcbjdcjjplaaGreat
end
section
namespace Go.Proofs.YtpmjcbjdcjjplaaGreat
open Go Go.RowKit
set_option linter.unusedVariables false
def zeroV : List Value := [.int .i64 0, .int .i64 0, .float .f64 0, .string ⟨#[]⟩, .slice none 0 0, .slice none 0 0]
theorem cmp64_zero (w : World) : Calls Tryz.prog 90 #[.int .i64 0, .int .i64 0] w fun e w' => e = .returned (.int .i64 0) ∧ w' = w := by
  go_enter Tryz.func90, Tryz.ntmps90
  go_wp2_with (go_in)
  go_ret
  exact ⟨rfl, rfl⟩
theorem cmpi_zero (w : World) : Calls Tryz.prog 73 #[.int .i64 0, .int .i64 0] w fun e w' => e = .returned (.int .i64 0) ∧ w' = w := by
  go_enter Tryz.func73, Tryz.ntmps73
  go_wp2_with (go_in)
  go_ret
  exact ⟨rfl, rfl⟩
theorem strcmp_zero (w : World) : Calls Tryz.prog 92 #[.string ⟨#[]⟩, .string ⟨#[]⟩] w fun e w' => e = .returned (.int .i64 0) ∧ w' = w := Tryz.strings_Compare ⟨#[]⟩ ⟨#[]⟩ w
theorem slcmp_nil (w : World) : Calls Tryz.prog 93 #[.slice none 0 0, .slice none 0 0] w fun e w' => e = .returned (.int .i64 0) ∧ w' = w := by
  go_enter Tryz.func93, Tryz.ntmps93
  go_wp2
  go_loopg [11] 0 (fun q x u => q = 0 ∧ x = .int .i64 0 ∧ u = w)
  case atStart => exact ⟨rfl, rfl, rfl⟩
  case round =>
    obtain ⟨rfl, rfl, rfl⟩ := hrel
    go_wp2
    go_ret
    exact ⟨rfl, rfl⟩
theorem cmpf_nil (w : World) : Calls Tryz.prog 76 #[.slice none 0 0, .slice none 0 0, .func (.func 64) #[] #[]] w fun e w' => e = .returned (.int .i64 0) ∧ w' = w := by
  go_enter Tryz.func76, Tryz.ntmps76
  go_wp2
  go_loopg [13] 0 (fun q x u => q = 0 ∧ x = .int .i64 0 ∧ u = w)
  case atStart => exact ⟨rfl, rfl, rfl⟩
  case round =>
    obtain ⟨rfl, rfl, rfl⟩ := hrel
    go_wp2
    go_ret
    exact ⟨rfl, rfl⟩
theorem or_zero (b : Nat) (w : World) (h : ∀ i, i < 3 → w.cell? ⟨b, i, none⟩ = some (.int .i64 0)) : Calls Tryz.prog 94 #[.slice (some ⟨b, 0, none⟩) 3 3] w fun e w' => e = .returned (.int .i64 0) ∧ w' = w := by
  have H := Lib.hid h
  clear h
  go_enter Tryz.func94, Tryz.ntmps94
  go_wp2
  go_loopg [8] 3 (fun q x u => ∃ k : Nat, k + q = 3 ∧ x = .int .i64 k ∧ u = w)
  case atStart => exact ⟨0, rfl, rfl, rfl⟩
  case round =>
    obtain ⟨k, hk, rfl, rfl⟩ := hrel
    cases gk with
    | zero =>
      have hge : ¬ ((k : Int) < 3) := by omega
      go_wp2
      go_ret
      exact ⟨rfl, rfl⟩
    | succ q =>
      have hlt : (k : Int) < 3 := by omega
      have dk := H.out k (by omega)
      go_wp2_with (go_in)
      go_roundg q
      case measure => omega
      case rel => exact ⟨k + 1, by omega, by go_num, rfl⟩
end Go.Proofs.YtpmjcbjdcjjplaaGreat
end
section
namespace Go.Proofs.YtpmjcbjdcjjplaaGreat
open Go Go.RowKit
set_option linter.unusedVariables false
set_option maxHeartbeats 4000000 in
set_option maxRecDepth 100000 in
theorem row_zero (pa pb : Nat) (w : World) (ha : w.rangeAt pa 0 zeroV) (hb : w.rangeAt pb 0 zeroV) (hl : pa < w.heap.size ∧ pb < w.heap.size) :
    Calls Tryz.prog 74 #[.pointer (some ⟨pa, 0, none⟩), .pointer (some ⟨pb, 0, none⟩)] w fun e w' => e = .returned (.int .i64 0) ∧ Below w.heap.size w w' := by
  have HL := Lib.hid hl
  have HA := Lib.hid ha
  have HB := Lib.hid hb
  have d0 : w.cell? ⟨pa, 0, none⟩ = some (.int .i64 0) := by have := ha 0 (.int .i64 0) rfl; simpa using this
  clear ha hb hl
  go_enter Tryz.func74, Tryz.ntmps74
  go_upto_region 13 with (fail)
  clear d0
  refine wp_region_ord [(0, true), (1, true), (2, true), (3, true), (4, true), (5, true), (6, true), (7, true), (9, true), (10, true), (11, true), (12, true), (13, true), (14, true), (15, true), (16, true), (18, true), (19, true), (20, true), (21, true), (22, true), (23, true), (24, true), (25, true), (8, false), (17, false), (26, false), (27, false), (28, false), (29, true)]
    (fun z => Below w.heap.size w z) (by kernel_rfl) (by kernel_rfl) (by kernel_rfl) rfl (by intro c a d v w h; cases d <;> exact h) ?_
  have hs : Below w.heap.size w w.drew := (Below.refl _ w).drew
  have HCA : Hid (∀ z, Below w.heap.size w z → ∀ (i : Nat) v, zeroV[i]? = some v → z.cell? ⟨pa, i, none⟩ = some v) := Lib.hid fun z hz i v hv => by have := HA.out i v hv; rw [Nat.zero_add] at this; exact (hz.cell (p := ⟨pa, i, none⟩) HL.out.1).trans this
  have HCB : Hid (∀ z, Below w.heap.size w z → ∀ (i : Nat) v, zeroV[i]? = some v → z.cell? ⟨pb, i, none⟩ = some v) := Lib.hid fun z hz i v hv => by have := HB.out i v hv; rw [Nat.zero_add] at this; exact (hz.cell (p := ⟨pb, i, none⟩) HL.out.2).trans this
  refine ord_move (some 57) (.pointer (some ⟨pa, 0, none⟩)) _ _ rfl rfl rfl (by exact wantA rfl) hs rfl ?_
  go_frame
  refine ord_load (some 58) (.pointer (some ⟨pa, 0, none⟩)) _ rfl rfl (by exact wantA rfl) hs (fun z hz => by go_simp) ?_
  go_frame
  refine ord_load (some 59) (.pointer (some ⟨pa, 1, none⟩)) _ rfl rfl (by exact wantA rfl) hs (fun z hz => by go_simp) ?_
  go_frame
  refine ord_load (some 60) (.int .i64 0) _ rfl rfl (by exact wantA rfl) hs (fun z hz => by have dd := HCA.out z hz 1 (.int .i64 0) rfl; go_simp) ?_
  go_frame
  refine ord_move (some 61) (.pointer (some ⟨pb, 0, none⟩)) _ _ rfl rfl rfl (by exact wantA rfl) hs rfl ?_
  go_frame
  refine ord_load (some 62) (.pointer (some ⟨pb, 0, none⟩)) _ rfl rfl (by exact wantA rfl) hs (fun z hz => by go_simp) ?_
  go_frame
  refine ord_load (some 63) (.pointer (some ⟨pb, 1, none⟩)) _ rfl rfl (by exact wantA rfl) hs (fun z hz => by go_simp) ?_
  go_frame
  refine ord_load (some 64) (.int .i64 0) _ rfl rfl (by exact wantA rfl) hs (fun z hz => by have dd := HCB.out z hz 1 (.int .i64 0) rfl; go_simp) ?_
  go_frame
  refine ord_move (some 66) (.pointer (some ⟨pa, 0, none⟩)) _ _ rfl rfl rfl (by exact wantA rfl) hs rfl ?_
  go_frame
  refine ord_load (some 67) (.pointer (some ⟨pa, 0, none⟩)) _ rfl rfl (by exact wantA rfl) hs (fun z hz => by go_simp) ?_
  go_frame
  refine ord_load (some 68) (.pointer (some ⟨pa, 3, none⟩)) _ rfl rfl (by exact wantA rfl) hs (fun z hz => by go_simp) ?_
  go_frame
  refine ord_load (some 69) (.string ⟨#[]⟩) _ rfl rfl (by exact wantA rfl) hs (fun z hz => by have dd := HCA.out z hz 3 (.string ⟨#[]⟩) rfl; go_simp) ?_
  go_frame
  refine ord_move (some 70) (.pointer (some ⟨pb, 0, none⟩)) _ _ rfl rfl rfl (by exact wantA rfl) hs rfl ?_
  go_frame
  refine ord_load (some 71) (.pointer (some ⟨pb, 0, none⟩)) _ rfl rfl (by exact wantA rfl) hs (fun z hz => by go_simp) ?_
  go_frame
  refine ord_load (some 72) (.pointer (some ⟨pb, 3, none⟩)) _ rfl rfl (by exact wantA rfl) hs (fun z hz => by go_simp) ?_
  go_frame
  refine ord_load (some 73) (.string ⟨#[]⟩) _ rfl rfl (by exact wantA rfl) hs (fun z hz => by have dd := HCB.out z hz 3 (.string ⟨#[]⟩) rfl; go_simp) ?_
  go_frame
  refine ord_move (some 75) (.pointer (some ⟨pa, 0, none⟩)) _ _ rfl rfl rfl (by exact wantA rfl) hs rfl ?_
  go_frame
  refine ord_load (some 76) (.pointer (some ⟨pa, 0, none⟩)) _ rfl rfl (by exact wantA rfl) hs (fun z hz => by go_simp) ?_
  go_frame
  refine ord_load (some 77) (.pointer (some ⟨pa, 4, none⟩)) _ rfl rfl (by exact wantA rfl) hs (fun z hz => by go_simp) ?_
  go_frame
  refine ord_load (some 78) (.slice none 0 0) _ rfl rfl (by exact wantA rfl) hs (fun z hz => by have dd := HCA.out z hz 4 (.slice none 0 0) rfl; go_simp) ?_
  go_frame
  refine ord_move (some 79) (.pointer (some ⟨pb, 0, none⟩)) _ _ rfl rfl rfl (by exact wantA rfl) hs rfl ?_
  go_frame
  refine ord_load (some 80) (.pointer (some ⟨pb, 0, none⟩)) _ rfl rfl (by exact wantA rfl) hs (fun z hz => by go_simp) ?_
  go_frame
  refine ord_load (some 81) (.pointer (some ⟨pb, 4, none⟩)) _ rfl rfl (by exact wantA rfl) hs (fun z hz => by go_simp) ?_
  go_frame
  refine ord_load (some 82) (.slice none 0 0) _ rfl rfl (by exact wantA rfl) hs (fun z hz => by have dd := HCB.out z hz 4 (.slice none 0 0) rfl; go_simp) ?_
  go_frame
  refine ord_to (some 65) 90 Tryz.func90 (by kernel_rfl) (by kernel_rfl) [.int .i64 0, .int .i64 0] _ _ _ rfl rfl rfl (by exact wantA rfl) rfl ?_
  refine (cmp64_zero _).mono ?_
  rintro e z1 ⟨rfl, rfl⟩
  refine ⟨.int .i64 0, rfl, hs, ?_⟩
  go_frame
  refine ord_to (some 74) 92 Tryz.func92 (by kernel_rfl) (by kernel_rfl) [.string ⟨#[]⟩, .string ⟨#[]⟩] _ _ _ rfl rfl rfl (by exact wantA rfl) rfl ?_
  refine (strcmp_zero _).mono ?_
  rintro e z1 ⟨rfl, rfl⟩
  refine ⟨.int .i64 0, rfl, hs, ?_⟩
  go_frame
  refine ord_to (some 83) 93 Tryz.func93 (by kernel_rfl) (by kernel_rfl) [.slice none 0 0, .slice none 0 0] _ _ _ rfl rfl rfl (by exact wantA rfl) rfl ?_
  refine (slcmp_nil _).mono ?_
  rintro e z1 ⟨rfl, rfl⟩
  refine ⟨.int .i64 0, rfl, hs, ?_⟩
  go_frame
  have hs2 : Below w.heap.size w (w.drew.alloc (.cells #[.int .i64 0, .int .i64 0, .int .i64 0] 3)) := hs.alloc hs.size _
  have hce := cells_box w.drew [.int .i64 0, .int .i64 0, .int .i64 0] 3
  refine ord_run (some 84) (.slice (some ⟨w.drew.heap.size, 0, none⟩) 3 3) (w.drew.alloc (.cells #[.int .i64 0, .int .i64 0, .int .i64 0] 3)) _ rfl rfl (by exact wantA rfl) (by go_simp) hs2 ?_
  go_frame
  refine ord_to (some 85) 94 Tryz.func94 (by kernel_rfl) (by kernel_rfl) [.slice (some ⟨w.drew.heap.size, 0, none⟩) 3 3] _ _ _ rfl rfl rfl (by exact wantA rfl) rfl ?_
  refine (or_zero _ _ (fun i hi => hce i _ (by match i, hi with | 0, _ => rfl | 1, _ => rfl | 2, _ => rfl))).mono ?_
  rintro e z1 ⟨rfl, rfl⟩
  refine ⟨.int .i64 0, rfl, hs2, ?_⟩
  go_frame
  refine ord_assign (some 4) (.int .i64 0) _ _ rfl rfl rfl (by exact wantA rfl) hs2 rfl ?_
  go_frame
  refine ord_end ?_
  have HBF := Lib.hid hs2
  clear hs hs2 hce
  go_wp2
  go_ret
  exact ⟨rfl, HBF.out⟩
set_option maxHeartbeats 4000000 in
set_option maxRecDepth 100000 in
theorem vorder_zero (w : World) : Calls Tryz.prog 64 #[.agg ⟨zeroV⟩, .agg ⟨zeroV⟩] w fun e w' => e = .returned (.int .i64 0) ∧ Below w.heap.size w w' := by
  have HA := Lib.hid (range_box w zeroV 38)
  have HB1 := Lib.hid (box_below w (.cells ⟨zeroV⟩ 38))
  have HS1 := Lib.hid (box_size w (.cells ⟨zeroV⟩ 38))
  have HSE : Hid ((w.alloc (.cells ⟨zeroV⟩ 38)).heap.size = w.heap.size + 1) := Lib.hid (by simp)
  go_enter Tryz.func64, Tryz.ntmps64
  go_upto_region 1 with (fail)
  generalize w.alloc (.cells ⟨zeroV⟩ 38) = W1 at *
  have HB := Lib.hid (range_box W1 zeroV 38)
  have HB2 := Lib.hid (box_below W1 (.cells ⟨zeroV⟩ 38))
  have HS2 := Lib.hid (box_size W1 (.cells ⟨zeroV⟩ 38))
  generalize W1.alloc (.cells ⟨zeroV⟩ 38) = W at *
  have HAW := Lib.hid (rangeAt_below HA.out HB2.out HS1.out)
  have HBW := Lib.hid (HB1.out.trans (HB2.out.mono HB1.out.size))
  have HLT := Lib.hid (Nat.lt_of_lt_of_le HS1.out HB2.out.size)
  rw [HSE.out] at HB HS2
  obtain ⟨pb, hpb⟩ : ∃ pb, w.heap.size + 1 = pb := ⟨_, rfl⟩
  rw [hpb] at HB HS2
  rw [hpb]
  have d0 : W.cell? ⟨w.heap.size, 0, none⟩ = some (.int .i64 0) := by have := HAW.out 0 (.int .i64 0) rfl; simpa using this
  have e0 : W.cell? ⟨pb, 0, none⟩ = some (.int .i64 0) := by have := HB.out 0 (.int .i64 0) rfl; simpa using this
  have HRZ := Lib.hid (row_zero w.heap.size pb W HAW.out HB.out ⟨HLT.out, HS2.out⟩)
  clear HA HB1 HS1 HSE HB2 hpb
  go_upto_region 5 with (first | (go_at_call 73; refine (cmpi_zero _).mono ?_; rintro e z1 ⟨rfl, rfl⟩) | (go_at_call 74; refine HRZ.out.mono ?_; rintro e w2 ⟨rfl, hb2⟩; have HB2 := Lib.hid hb2; have d0' := (hb2.cell (p := ⟨w.heap.size, 0, none⟩) HLT.out).trans d0; clear hb2))
  have d5 : w2.cell? ⟨w.heap.size, 5, none⟩ = some (.slice none 0 0) := by have := HAW.out 5 (.slice none 0 0) rfl; rw [Nat.zero_add] at this; exact (HB2.out.cell (p := ⟨w.heap.size, 5, none⟩) HLT.out).trans this
  have e5 : w2.cell? ⟨pb, 5, none⟩ = some (.slice none 0 0) := by have := HB.out 5 (.slice none 0 0) rfl; rw [Nat.zero_add] at this; exact (HB2.out.cell (p := ⟨pb, 5, none⟩) HS2.out).trans this
  go_wp2_with (first | (go_at_call 76; refine (cmpf_nil _).mono ?_; rintro e z1 ⟨rfl, rfl⟩) | go_in)
  go_ret
  exact ⟨rfl, HBW.out.trans (HB2.out.mono HBW.out.size)⟩
set_option maxHeartbeats 4000000 in
set_option maxRecDepth 100000 in
theorem vsame_zero (w : World) : Calls Tryz.prog 48 #[.agg ⟨zeroV⟩, .agg ⟨zeroV⟩] w fun e w' => e = .returned (.bool true) ∧ Below w.heap.size w w' := by
  have HA := Lib.hid (range_box w zeroV 38)
  have HB1 := Lib.hid (box_below w (.cells ⟨zeroV⟩ 38))
  have HS1 := Lib.hid (box_size w (.cells ⟨zeroV⟩ 38))
  have HSE : Hid ((w.alloc (.cells ⟨zeroV⟩ 38)).heap.size = w.heap.size + 1) := Lib.hid (by simp)
  go_enter Tryz.func48, Tryz.ntmps48
  go_upto_region 1 with (fail)
  generalize w.alloc (.cells ⟨zeroV⟩ 38) = W1 at *
  have HB := Lib.hid (range_box W1 zeroV 38)
  have HB2 := Lib.hid (box_below W1 (.cells ⟨zeroV⟩ 38))
  have HS2 := Lib.hid (box_size W1 (.cells ⟨zeroV⟩ 38))
  generalize W1.alloc (.cells ⟨zeroV⟩ 38) = W at *
  have HAW := Lib.hid (rangeAt_below HA.out HB2.out HS1.out)
  have HBW := Lib.hid (HB1.out.trans (HB2.out.mono HB1.out.size))
  have HLT := Lib.hid (Nat.lt_of_lt_of_le HS1.out HB2.out.size)
  rw [HSE.out] at HB HS2
  obtain ⟨pb, hpb⟩ : ∃ pb, w.heap.size + 1 = pb := ⟨_, rfl⟩
  rw [hpb] at HB HS2
  rw [hpb]
  clear HA HB1 HS1 HSE HB2 hpb
  go_wp2_with (first | ((with_reducible refine wl_sload 38 _ rfl ?hw2 w.heap.size 0 zeroV _ rfl HAW.out Tryz.underlying38 rfl ?hi2 ?_); (case hw2 => exact wantA rfl); (case hi2 => kernel_rfl)) | ((with_reducible refine wl_sload 38 _ rfl ?hw2 pb 0 zeroV _ rfl HB.out Tryz.underlying38 rfl ?hi2 ?_); (case hw2 => exact wantA rfl); (case hi2 => kernel_rfl)) | (go_at_call 64; refine (vorder_zero _).mono ?_; rintro e w2 ⟨rfl, hb2⟩; have HB3 := Lib.hid hb2; clear hb2))
  go_ret
  exact ⟨rfl, HBW.out.trans (HB3.out.mono HBW.out.size)⟩
theorem eqs_nil (w : World) : Calls Tryz.prog 62 #[.slice none 0 0, .slice none 0 0] w fun e w' => e = .returned (.bool true) ∧ w' = w := by
  go_enter Tryz.func62, Tryz.ntmps62
  go_wp2
  go_loopg [13] 0 (fun q x u => q = 0 ∧ x = .int .i64 0 ∧ u = w)
  case atStart => exact ⟨rfl, rfl, rfl⟩
  case round =>
    obtain ⟨rfl, rfl, rfl⟩ := hrel
    go_wp2
    go_ret
    exact ⟨rfl, rfl⟩
theorem eqp_nil (w : World) : Calls Tryz.prog 17 #[.slice none 0 0, .slice none 0 0] w fun e w' => e = .returned (.bool true) ∧ w' = w := by
  go_enter Tryz.func17, Tryz.ntmps17
  go_wp2
  go_loopg [13] 0 (fun q x u => q = 0 ∧ x = .int .i64 0 ∧ u = w)
  case atStart => exact ⟨rfl, rfl, rfl⟩
  case round =>
    obtain ⟨rfl, rfl, rfl⟩ := hrel
    go_wp2
    go_ret
    exact ⟨rfl, rfl⟩
theorem eqx_nil (f : FuncId) (w : World) : Calls Tryz.prog 50 #[.slice none 0 0, .slice none 0 0, .func (.func f) #[] #[]] w fun e w' => e = .returned (.bool true) ∧ w' = w := by
  go_enter Tryz.func50, Tryz.ntmps50
  go_wp2
  go_loopg [17] 0 (fun q x u => q = 0 ∧ x = .int .i64 0 ∧ u = w)
  case atStart => exact ⟨rfl, rfl, rfl⟩
  case round =>
    obtain ⟨rfl, rfl, rfl⟩ := hrel
    go_wp2
    go_ret
    exact ⟨rfl, rfl⟩
theorem eqv_nil (f : FuncId) (w : World) : Calls Tryz.prog 18 #[.slice none 0 0, .slice none 0 0, .func (.func f) #[] #[]] w fun e w' => e = .returned (.bool true) ∧ w' = w := by
  go_enter Tryz.func18, Tryz.ntmps18
  go_wp2
  go_loopg [17] 0 (fun q x u => q = 0 ∧ x = .int .i64 0 ∧ u = w)
  case atStart => exact ⟨rfl, rfl, rfl⟩
  case round =>
    obtain ⟨rfl, rfl, rfl⟩ := hrel
    go_wp2
    go_ret
    exact ⟨rfl, rfl⟩
theorem eqm_nil (f : FuncId) (w : World) : Calls Tryz.prog 20 #[.slice none 0 0, .slice none 0 0, .func (.func f) #[] #[]] w fun e w' => e = .returned (.bool true) ∧ w' = w := by
  go_enter Tryz.func20, Tryz.ntmps20
  go_wp2
  go_loopg [17] 0 (fun q x u => q = 0 ∧ x = .int .i64 0 ∧ u = w)
  case atStart => exact ⟨rfl, rfl, rfl⟩
  case round =>
    obtain ⟨rfl, rfl, rfl⟩ := hrel
    go_wp2
    go_ret
    exact ⟨rfl, rfl⟩
set_option maxHeartbeats 4000000 in
set_option maxRecDepth 100000 in
theorem xsame_zero (w : World) : Calls Tryz.prog 51 #[.agg ⟨encX⟩, .agg ⟨encX⟩] w fun e w' => e = .returned (.bool true) ∧ Below w.heap.size w w' := by
  have HA := Lib.hid (range_box w encX 40)
  have HB1 := Lib.hid (box_below w (.cells ⟨encX⟩ 40))
  have HS1 := Lib.hid (box_size w (.cells ⟨encX⟩ 40))
  have HSE : Hid ((w.alloc (.cells ⟨encX⟩ 40)).heap.size = w.heap.size + 1) := Lib.hid (by simp)
  go_enter Tryz.func51, Tryz.ntmps51
  go_upto_region 1 with (fail)
  generalize w.alloc (.cells ⟨encX⟩ 40) = W1 at *
  have HB := Lib.hid (range_box W1 encX 40)
  have HB2 := Lib.hid (box_below W1 (.cells ⟨encX⟩ 40))
  have HS2 := Lib.hid (box_size W1 (.cells ⟨encX⟩ 40))
  generalize W1.alloc (.cells ⟨encX⟩ 40) = W at *
  have HAW := Lib.hid (rangeAt_below HA.out HB2.out HS1.out)
  have HBW := Lib.hid (HB1.out.trans (HB2.out.mono HB1.out.size))
  have HLT := Lib.hid (Nat.lt_of_lt_of_le HS1.out HB2.out.size)
  rw [HSE.out] at HB HS2
  obtain ⟨pb, hpb⟩ : ∃ pb, w.heap.size + 1 = pb := ⟨_, rfl⟩
  rw [hpb] at HB HS2
  rw [hpb]
  have d0 : W.cell? ⟨w.heap.size, 0, none⟩ = some (.int .i64 0) := by have := HAW.out 0 (.int .i64 0) rfl; simpa using this
  have e0 : W.cell? ⟨pb, 0, none⟩ = some (.int .i64 0) := by have := HB.out 0 (.int .i64 0) rfl; simpa using this
  have d1 : W.cell? ⟨w.heap.size, 1, none⟩ = some (.string ⟨#[]⟩) := by have := HAW.out 1 (.string ⟨#[]⟩) rfl; simpa using this
  have e1 : W.cell? ⟨pb, 1, none⟩ = some (.string ⟨#[]⟩) := by have := HB.out 1 (.string ⟨#[]⟩) rfl; simpa using this
  have HVA : Hid (W.rangeAt w.heap.size 2 zeroV) := Lib.hid (fun i v hv => by have := HAW.out (2 + i) v (by unfold zeroV at hv; unfold encX; have hi := (List.getElem?_eq_some_iff.1 hv).1; simp only [List.length_cons, List.length_nil] at hi; rw [← hv]; match i, hi with | 0, _ => rfl | 1, _ => rfl | 2, _ => rfl | 3, _ => rfl | 4, _ => rfl | 5, _ => rfl); rwa [Nat.zero_add] at this)
  have HVB : Hid (W.rangeAt pb 2 zeroV) := Lib.hid (fun i v hv => by have := HB.out (2 + i) v (by unfold zeroV at hv; unfold encX; have hi := (List.getElem?_eq_some_iff.1 hv).1; simp only [List.length_cons, List.length_nil] at hi; rw [← hv]; match i, hi with | 0, _ => rfl | 1, _ => rfl | 2, _ => rfl | 3, _ => rfl | 4, _ => rfl | 5, _ => rfl); rwa [Nat.zero_add] at this)
  clear HA HB1 HS1 HSE HB2 hpb
  go_wp2_with (first | ((with_reducible refine wl_sload 38 _ rfl ?hw2 w.heap.size 2 zeroV _ rfl HVA.out Tryz.underlying38 rfl ?hi2 ?_); (case hw2 => exact wantA rfl); (case hi2 => kernel_rfl)) | ((with_reducible refine wl_sload 38 _ rfl ?hw2 pb 2 zeroV _ rfl HVB.out Tryz.underlying38 rfl ?hi2 ?_); (case hw2 => exact wantA rfl); (case hi2 => kernel_rfl)) | (go_at_call 48; refine (vsame_zero _).mono ?_; rintro e w2 ⟨rfl, hb2⟩; have HB3 := Lib.hid hb2; have d8 : w2.cell? ⟨w.heap.size, 8, none⟩ = some (.slice none 0 0) := (hb2.cell (p := ⟨w.heap.size, 8, none⟩) HLT.out).trans (by have := HAW.out 8 (.slice none 0 0) rfl; rwa [Nat.zero_add] at this); have e8 : w2.cell? ⟨pb, 8, none⟩ = some (.slice none 0 0) := (hb2.cell (p := ⟨pb, 8, none⟩) HS2.out).trans (by have := HB.out 8 (.slice none 0 0) rfl; rwa [Nat.zero_add] at this); have d9 : w2.cell? ⟨w.heap.size, 9, none⟩ = some (.slice none 0 0) := (hb2.cell (p := ⟨w.heap.size, 9, none⟩) HLT.out).trans (by have := HAW.out 9 (.slice none 0 0) rfl; rwa [Nat.zero_add] at this); have e9 : w2.cell? ⟨pb, 9, none⟩ = some (.slice none 0 0) := (hb2.cell (p := ⟨pb, 9, none⟩) HS2.out).trans (by have := HB.out 9 (.slice none 0 0) rfl; rwa [Nat.zero_add] at this); clear hb2) | (go_at_call 62; refine (eqs_nil _).mono ?_; rintro e z1 ⟨rfl, rfl⟩) | (go_at_call 50; refine (eqx_nil _ _).mono ?_; rintro e z1 ⟨rfl, rfl⟩))
  go_ret
  exact ⟨rfl, HBW.out.trans (HB3.out.mono HBW.out.size)⟩
end Go.Proofs.YtpmjcbjdcjjplaaGreat
end
