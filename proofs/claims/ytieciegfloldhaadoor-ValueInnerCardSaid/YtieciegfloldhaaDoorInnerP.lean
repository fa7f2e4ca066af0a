/- Lists that the law makes: where they lie, what they are compared with. -/
import Derived.Test.YtieciegfloldhaaDoorVAwake
import Derived.Test.YtieciegfloldhaaDoorTri
import Derived.Test.YtieciegfloldhaaDoorOrder4
namespace Go.Proofs.YtieciegfloldhaaDoor
open Go Go.RowKit
set_option linter.unusedVariables false

set_option maxHeartbeats 1000000 in
set_option maxRecDepth 100000 in
theorem mk_list (A : Option Addr) (n c : Nat) (w : World) : Calls Tryd.prog 13 #[.slice A n c] w fun e w' => e = .returned (.agg ⟨cellsOfV 5 0 0 ⟨#[]⟩ (.slice none 0 0) (.slice A n c)⟩) ∧ Below w.heap.size w w' := by
  go_enter Tryd.func13, Tryd.ntmps13
  go_upto_region 1 with (fail)
  go_wp2_with ((with_reducible refine wl_sbox 26 _ _ rfl ?hw w ?zn (cellsOfV 5 0 0 ⟨#[]⟩ (.slice none 0 0) (.slice A n c)) ?hwld ?hz ?hx ?hy ?hi ?h1 ?_); (case hwld => rfl); (case hx => rfl); (case hy => rfl); (case hw => first | exact wanted_none rfl | exact wanted_if rfl rfl rfl rfl); (case hz => rfl); (case hi => kernel_rfl); (case h1 => intro u hu; simp only [cellsOfV, List.mem_cons, List.not_mem_nil, or_false] at hu; rcases hu with rfl | rfl | rfl | rfl | rfl | rfl <;> rfl); intro Z hbx; have HX := Lib.hid hbx; clear hbx)
  (try simp only [Exit.inBlock, Exit.then])
  refine bodyPost_ret (results_cellV rfl Tryd.underlying26 rfl _ _ w.heap.size (cellsOfV 5 0 0 ⟨#[]⟩ (.slice none 0 0) (.slice A n c)) (by kernel_rfl) rfl HX.out.range) rfl ?_
  exact ⟨rfl, HX.out.below⟩
theorem val_shape {w : World} {B : Nat} {cs : List Value} {t : VT} (h : ValAt w B cs t) : ∃ k n f s vn vi, cs = [.int .i64 k, .int .i64 n, .float .f64 f, .string s, vn, vi] := by
  cases t with
  | mk k n f s ns its =>
    obtain ⟨vn, vi, rfl, _⟩ := h.inv
    exact ⟨_, _, _, _, _, _, rfl⟩
def LitAt (n : Nat) (cs : List Value) (u : Value) (z : World) : Prop := ∃ b, u = .slice (some ⟨b, 0, none⟩) n n ∧ b < z.heap.size ∧ z.rangeAt b 0 cs
theorem LitAt.next {n : Nat} {cs : List Value} {u : Value} {z z' : World} (h : LitAt n cs u z) (hb : Below z.heap.size z z') : LitAt n cs u z' := by
  obtain ⟨b, h1, h2, h3⟩ := h
  exact ⟨b, h1, Nat.lt_of_lt_of_le h2 hb.size, rangeAt_below h3 hb h2⟩
theorem LitAt.new (n : Nat) (cs : List Value) (z : World) (T : TypeId) : LitAt n cs (.slice (some ⟨z.heap.size, 0, none⟩) n n) (z.alloc (.cells ⟨cs⟩ T)) := ⟨_, rfl, box_size z _, range_box z cs T⟩
theorem LitAt.alloc {n : Nat} {cs : List Value} {u : Value} {z : World} (h : LitAt n cs u z) (o : Obj) : LitAt n cs u (z.alloc o) := h.next (box_below z o)
def tList (l : List VT) : VT := .mk 5 0 0 ⟨#[]⟩ [] l
def csList (u : Value) : List Value := cellsOfV 5 0 0 ⟨#[]⟩ (.slice none 0 0) u
def fList (u : Value) : Value := .agg ⟨csList u⟩
theorem lists_at {z : World} {vi : Value} {l : List VT} (hl : l.length ≤ maxLen) (h : SlAt z z.heap.size 6 (ValAt z z.heap.size) vi l) : ValAt z z.heap.size (csList vi) (tList l) :=
  ValAt.of (wf_i 5 (by decide +kernel)) (wf_i 0 (by decide +kernel)) (by decide +kernel) (Nat.zero_le _) (SlAt.nil z _ 1 _) hl h
theorem list0_val (z : World) : ValAt z z.heap.size (csList (.slice none 0 0)) (tList []) := lists_at (Nat.zero_le _) (SlAt.nil z _ 6 _)
theorem list1_val {z : World} {cs : List Value} {u : Value} {t : VT} (h : LitAt 1 cs u z) (hv : ValAt z z.heap.size cs t) : ValAt z z.heap.size (csList u) (tList [t]) := by
  obtain ⟨b, rfl, h2, h3⟩ := h
  exact lists_at (by unfold maxLen; simp) ⟨by simp, _, _, rfl, fun _ => ⟨b, 0, rfl, h2, fun i x hi => by
    match i, hi with
    | 0, hi => injection hi with hi; subst hi; exact ⟨cs, (val_one hv).1, h3, hv⟩⟩⟩
theorem list2_val {z : World} {cs cs' : List Value} {u : Value} {t t' : VT} (h : LitAt 2 (cs ++ cs') u z) (hv : ValAt z z.heap.size cs t) (hv' : ValAt z z.heap.size cs' t') : ValAt z z.heap.size (csList u) (tList [t, t']) := by
  obtain ⟨b, rfl, h2, h3⟩ := h
  obtain ⟨h31, h32⟩ := sub_range h3
  rw [(val_one hv).1] at h32
  exact lists_at (by unfold maxLen; simp) ⟨by simp, _, _, rfl, fun _ => ⟨b, 0, rfl, h2, fun i x hi => by
    match i, hi with
    | 0, hi => injection hi with hi; subst hi; exact ⟨cs, (val_one hv).1, h31, hv⟩
    | 1, hi => injection hi with hi; subst hi; exact ⟨cs', (val_one hv').1, h32, hv'⟩⟩⟩
theorem ord_lists (l r : List VT) : ordV (tList l) (tList r) = ordL l r := by
  unfold tList
  rw [ordV]
  simp [cmpI, rowV, leafK]
theorem ord_one (a b : VT) : ordV (tList [a]) (tList [b]) = ordV a b := by
  rw [ord_lists, ordL]
  split
  · rfl
  · rw [ordL]; omega
theorem ord_more (a b : VT) : ordV (tList [a]) (tList [a, b]) = -1 := by
  rw [ord_lists, ordL, if_neg (by rw [ordV_good.refl]; omega)]
  simp [ordL]
theorem ord_none (a : VT) : ordV (tList []) (tList [a]) = -1 := by rw [ord_lists]; simp [ordL]
theorem eq_one (a b : VT) : eqV (tList [a]) (tList [b]) = eqV a b := by
  unfold tList
  rw [eqV]
  simp [rowV, leafK, eqL]
set_option maxRecDepth 100000 in
theorem call_list (u : Value) (n : Nat) (cs : List Value) (z : World) (h : LitAt n cs u z) : Calls Tryd.prog 13 #[u] z fun e z' => e = .returned (fList u) ∧ Below z.heap.size z z' := by
  obtain ⟨b, rfl, _, _⟩ := h
  exact mk_list _ _ _ z
end Go.Proofs.YtieciegfloldhaaDoor
