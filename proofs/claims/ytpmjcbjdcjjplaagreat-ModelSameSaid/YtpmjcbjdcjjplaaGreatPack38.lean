/- Parts of a proof: MClone. -/
import Derived.Lib.BufferMore
import Derived.Test.YtpmjcbjdcjjplaaGreatPack2
import Derived.Test.YtpmjcbjdcjjplaaGreatPack9
import Derived.Test.YtpmjcbjdcjjplaaGreatPack13
namespace Go.Proofs.YtpmjcbjdcjjplaaGreat
open Go Go.RowKit
set_option linter.unusedVariables false
set_option linter.unusedSimpArgs false
abbrev CellsK (k : Nat) := { cs : List Value // cs.length = k }
def encK {k : Nat} (q : CellsK k) : List Value := q.1
theorem encK_len {k : Nat} (q : CellsK k) : (encK q).length = k := q.2
theorem flatK_get {k : Nat} (hk : 0 < k) : ∀ {l : List (CellsK k)} {m : Nat} {u : Value}, (flat encK l)[m]? = some u → ∃ q, l[m / k]? = some q ∧ q.1[m % k]? = some u
  | [], m, u, h => by cases h
  | q :: l, m, u, h => by
    have hq : q.1.length = k := q.2
    have h : (q.1 ++ flat encK l)[m]? = some u := h
    rcases Nat.lt_or_ge m k with hm | hm
    · rw [List.getElem?_append_left (by omega)] at h
      refine ⟨q, ?_, ?_⟩
      · rw [Nat.div_eq_of_lt hm]; rfl
      · rw [Nat.mod_eq_of_lt hm]; exact h
    · rw [List.getElem?_append_right (by omega), hq] at h
      obtain ⟨y, h1, h2⟩ := flatK_get hk h
      refine ⟨y, ?_, ?_⟩
      · rw [Nat.div_eq_sub_div hk hm]; exact h1
      · rw [Nat.mod_eq_sub_mod hm]; exact h2
theorem listK {α : Type} {k : Nat} {R : List Value → α → Prop} {w : World} {B : Nat} {v : Value} {l : List α} (h : SlAt w B k R v l) : ∃ KL : List (CellsK k), KL.length = l.length ∧ (∀ (i : Nat) q x, KL[i]? = some q → l[i]? = some x → R q.1 x) ∧ ∃ A c, v = .slice A l.length c ∧ (0 < l.length → ∃ b o, A = some ⟨b, o, none⟩ ∧ b < B ∧ ∀ (i : Nat) q, KL[i]? = some q → w.rangeAt b (o + i * k) q.1) := by
  obtain ⟨_, A, c, rfl, h1⟩ := h
  rcases Nat.eq_zero_or_pos l.length with h0 | h0
  · exact ⟨[], by rw [h0]; rfl, fun i q x hq => (by cases hq), A, c, rfl, fun h => by omega⟩
  · obtain ⟨b, o, rfl, hlt, h2⟩ := h1 h0
    have key : ∀ n, n ≤ l.length → ∃ KL : List (CellsK k), KL.length = n ∧ (∀ (i : Nat) q x, KL[i]? = some q → l[i]? = some x → R q.1 x) ∧ ∀ (i : Nat) q, KL[i]? = some q → w.rangeAt b (o + i * k) q.1 := by
      intro n
      induction n with
      | zero => exact fun _ => ⟨[], rfl, fun i q x hq => (by cases hq), fun i q hq => (by cases hq)⟩
      | succ n ih =>
        intro hn
        obtain ⟨KL, k1, k2, k3⟩ := ih (by omega)
        obtain ⟨cs, h3, h4, h5⟩ := h2 n l[n] (List.getElem?_eq_getElem (by omega))
        have at1 : ∀ {i : Nat} {q : CellsK k}, (KL ++ [⟨cs, h3⟩])[i]? = some q → (i < n ∧ KL[i]? = some q) ∨ (i = n ∧ q = ⟨cs, h3⟩) := fun {i q} h => by
          rcases Nat.lt_or_ge i n with hi | hi
          · rw [List.getElem?_append_left (by omega)] at h
            exact .inl ⟨hi, h⟩
          · have hi2 := (List.getElem?_eq_some_iff.1 h).1
            rw [List.length_append, k1, List.length_singleton] at hi2
            obtain rfl : i = n := by omega
            rw [List.getElem?_append_right (by omega), k1, Nat.sub_self] at h
            injection h with h
            exact .inr ⟨rfl, h.symm⟩
        refine ⟨KL ++ [⟨cs, h3⟩], by rw [List.length_append, k1]; rfl, fun i q x hq hx => ?_, fun i q hq => ?_⟩
        · rcases at1 hq with ⟨_, h⟩ | ⟨rfl, rfl⟩
          · exact k2 i q x h hx
          · rw [List.getElem?_eq_getElem (by omega)] at hx
            injection hx with hx
            rw [← hx]
            exact h5
        · rcases at1 hq with ⟨_, h⟩ | ⟨rfl, rfl⟩
          · exact k3 i q h
          · exact h4
    obtain ⟨KL, k1, k2, k3⟩ := key l.length (Nat.le_refl _)
    exact ⟨KL, k1, k2, some ⟨b, o, none⟩, c, rfl, fun _ => ⟨b, o, rfl, hlt, k3⟩⟩
def CloneP {α : Type} (T : TypeId) (k : Nat) (R : List Value → α → Prop) (l : List α) (w : World) (e : Ending) (w' : World) : Prop :=
  ∃ (v' : Value) (KL : List (CellsK k)), e = .returned v' ∧ KL.length = l.length ∧ (∀ (i : Nat) q x, KL[i]? = some q → l[i]? = some x → R q.1 x) ∧ OwnSl T k encK w' w.heap.size v' KL ∧ Below w.heap.size w w'
theorem info_cl_int : (Tryz.prog.info? 3).map (fun i => (i.zero, i.size, i.bytes)) = some (some (.int .i64 0), 1, 8) := by kernel_rfl
set_option maxHeartbeats 4000000 in
set_option maxRecDepth 100000 in
theorem mclone_int {α : Type} (R : List Value → α → Prop) (l : List α) (v : Value) (w : World) (h : SlAt w w.heap.size 1 R v l) (hn : l.length ≤ 1000) (hone : ∀ cs x, R cs x → ∀ u ∈ cs, u.oneCell' = true) :
    Calls Tryz.prog 34 #[v] w (CloneP 3 1 R l w) := by
  obtain ⟨KL, hKL, hR, A, c, rfl, hA⟩ := listK h
  clear h
  cases A with
  | none =>
    have h0 : l.length = 0 := by
      rcases Nat.eq_zero_or_pos l.length with h0 | h0
      · exact h0
      · obtain ⟨b, o, e, _⟩ := hA h0
        cases e
    have hK0 : KL = [] := List.eq_nil_of_length_eq_zero (by omega)
    subst hK0
    rw [h0]
    have hq : ∀ W, (binOp .eql 32 (.slice none 0 c) (.slice none 0 0)).run Tryz.prog W = .ok (.bool true) W := fun W => Go.Lib.run_eql_slice_nil_nil W _ _ Tryz.underlying32
    have HKL := Lib.hid hKL
    have HR := Lib.hid hR
    clear hKL hR hA hone h0 hn
    go_enter Tryz.func34, Tryz.ntmps34
    go_wp2
    go_ret
    exact ⟨_, [], rfl, HKL.out, HR.out, OwnSl.nil _ _, Below.refl _ _⟩
  | some ad =>
  have HO1 := Lib.hid hone
  have HR := Lib.hid hR
  have HA := Lib.hid hA
  have HKL := Lib.hid hKL
  obtain ⟨j0, hi, hz0, hz1, hz2⟩ := info_parts' info_cl_int
  have HJ0 := Lib.hid hi
  have HY0 := Lib.hid hz0
  have HY1 := Lib.hid hz1
  have HY2 := Lib.hid hz2
  have hq : ∀ W, (binOp .eql 32 (.slice (some ad) l.length c) (.slice none 0 0)).run Tryz.prog W = .ok (.bool false) W := fun W => Go.Lib.run_eql_slice_some_nil W _ _ _ Tryz.underlying32
  clear hi hz0 hz1 hz2 hR hKL hA hone
  have HB := Lib.hid (box_below w (.cells #[] 3))
  have HE := Lib.hid (ownsRow_empty w 3 1 w.heap.size (Nat.le_refl _))
  have HNW : Hid (0 < l.length → ∃ a2, (some ad : Option Addr) = some a2 ∧ ∀ (j : Nat) u, (flat encK KL)[j]? = some u → (w.alloc (.cells #[] 3)).cell? (a2.add j) = some u) := Lib.hid fun h0 => ⟨_, rfl, fun j u hu => by
    obtain ⟨b, o, e, hlt, hr⟩ := HA.out h0
    injection e with e
    subst e
    obtain ⟨q, hk, hku⟩ := flatK_get (by decide) hu
    rw [Addr.add_mid]
    have := hr (j / 1) q hk (j % 1) u hku
    rw [show o + j / 1 * 1 + j % 1 = o + j by omega] at this
    exact (HB.out.cell (p := ⟨b, o + j, none⟩) hlt).trans this⟩
  have HFL : Hid ((flat encK KL).length = l.length * 1) := Lib.hid (by rw [flat_len encK_len, HKL.out])
  have HON : Hid (∀ u ∈ flat encK KL, u.oneCell' = true) := Lib.hid fun u hu => by
    obtain ⟨j, hj⟩ := List.mem_iff_getElem?.1 hu
    obtain ⟨q, hk, hku⟩ := flatK_get (by decide) hj
    have hlt := (List.getElem?_eq_some_iff.1 hk).1
    exact HO1.out q.1 (l[j / 1]'(by rw [← HKL.out]; exact hlt)) (HR.out _ q _ hk (List.getElem?_eq_getElem _)) u (List.mem_of_getElem? hku)
  have HM : Hid (0 + l.length ≤ maxLen) := Lib.hid (by unfold maxLen; omega)
  have HM2 : Hid ((0 + l.length) * 8 ≤ 140737488355328) := Lib.hid (by omega)
  go_enter Tryz.func34, Tryz.ntmps34
  go_upto_region 3 with (fail)
  clear hq
  go_wp2_with (at_builtin; (refine wl_append rfl _ _ 32 rfl w.heap.size 3 j0 (.int .i64 0) 1 8 Tryz.underlying32 HJ0.out HY0.out HY1.out HY2.out rfl (by decide) (.slice (some ⟨w.heap.size, 0, none⟩) 0 0) 0 [] rfl HE.out (some ad) l.length c (flat encK KL) rfl HFL.out HNW.out HON.out HM.out HM2.out HB.out.size ?_; intro v' w' hown hg; have HO := Lib.hid hown; have HG := Lib.hid hg; clear hown hg))
  go_ret
  have hbel : Below w.heap.size w w' := HB.out.grown HG.out HB.out.size (fun b hb => by
    have hb2 : w.heap.size = b := by simpa [Value.ownBlock] using hb
    omega)
  refine ⟨v', KL, rfl, HKL.out, HR.out, ?_, hbel⟩
  have := HO.out
  rw [Nat.zero_add, List.nil_append, ← HKL.out] at this
  exact this
theorem info_cl_pair : (Tryz.prog.info? 61).map (fun i => (i.zero, i.size, i.bytes)) = some (some (.agg ⟨[.int .i64 0, .int .i64 0]⟩), 2, 16) := by kernel_rfl
set_option maxHeartbeats 4000000 in
set_option maxRecDepth 100000 in
theorem mclone_pair {α : Type} (R : List Value → α → Prop) (l : List α) (v : Value) (w : World) (h : SlAt w w.heap.size 2 R v l) (hn : l.length ≤ 1000) (hone : ∀ cs x, R cs x → ∀ u ∈ cs, u.oneCell' = true) :
    Calls Tryz.prog 28 #[v] w (CloneP 61 2 R l w) := by
  obtain ⟨KL, hKL, hR, A, c, rfl, hA⟩ := listK h
  clear h
  cases A with
  | none =>
    have h0 : l.length = 0 := by
      rcases Nat.eq_zero_or_pos l.length with h0 | h0
      · exact h0
      · obtain ⟨b, o, e, _⟩ := hA h0
        cases e
    have hK0 : KL = [] := List.eq_nil_of_length_eq_zero (by omega)
    subst hK0
    rw [h0]
    have hq : ∀ W, (binOp .eql 22 (.slice none 0 c) (.slice none 0 0)).run Tryz.prog W = .ok (.bool true) W := fun W => Go.Lib.run_eql_slice_nil_nil W _ _ Tryz.underlying22
    have HKL := Lib.hid hKL
    have HR := Lib.hid hR
    clear hKL hR hA hone h0 hn
    go_enter Tryz.func28, Tryz.ntmps28
    go_wp2
    go_ret
    exact ⟨_, [], rfl, HKL.out, HR.out, OwnSl.nil _ _, Below.refl _ _⟩
  | some ad =>
  have HO1 := Lib.hid hone
  have HR := Lib.hid hR
  have HA := Lib.hid hA
  have HKL := Lib.hid hKL
  obtain ⟨j0, hi, hz0, hz1, hz2⟩ := info_parts' info_cl_pair
  have HJ0 := Lib.hid hi
  have HY0 := Lib.hid hz0
  have HY1 := Lib.hid hz1
  have HY2 := Lib.hid hz2
  have hq : ∀ W, (binOp .eql 22 (.slice (some ad) l.length c) (.slice none 0 0)).run Tryz.prog W = .ok (.bool false) W := fun W => Go.Lib.run_eql_slice_some_nil W _ _ _ Tryz.underlying22
  clear hi hz0 hz1 hz2 hR hKL hA hone
  have HB := Lib.hid (box_below w (.cells #[] 61))
  have HE := Lib.hid (ownsRow_empty w 61 2 w.heap.size (Nat.le_refl _))
  have HNW : Hid (0 < l.length → ∃ a2, (some ad : Option Addr) = some a2 ∧ ∀ (j : Nat) u, (flat encK KL)[j]? = some u → (w.alloc (.cells #[] 61)).cell? (a2.add j) = some u) := Lib.hid fun h0 => ⟨_, rfl, fun j u hu => by
    obtain ⟨b, o, e, hlt, hr⟩ := HA.out h0
    injection e with e
    subst e
    obtain ⟨q, hk, hku⟩ := flatK_get (by decide) hu
    rw [Addr.add_mid]
    have := hr (j / 2) q hk (j % 2) u hku
    rw [show o + j / 2 * 2 + j % 2 = o + j by omega] at this
    exact (HB.out.cell (p := ⟨b, o + j, none⟩) hlt).trans this⟩
  have HFL : Hid ((flat encK KL).length = l.length * 2) := Lib.hid (by rw [flat_len encK_len, HKL.out])
  have HON : Hid (∀ u ∈ flat encK KL, u.oneCell' = true) := Lib.hid fun u hu => by
    obtain ⟨j, hj⟩ := List.mem_iff_getElem?.1 hu
    obtain ⟨q, hk, hku⟩ := flatK_get (by decide) hj
    have hlt := (List.getElem?_eq_some_iff.1 hk).1
    exact HO1.out q.1 (l[j / 2]'(by rw [← HKL.out]; exact hlt)) (HR.out _ q _ hk (List.getElem?_eq_getElem _)) u (List.mem_of_getElem? hku)
  have HM : Hid (0 + l.length ≤ maxLen) := Lib.hid (by unfold maxLen; omega)
  have HM2 : Hid ((0 + l.length) * 16 ≤ 140737488355328) := Lib.hid (by omega)
  go_enter Tryz.func28, Tryz.ntmps28
  go_upto_region 3 with (fail)
  clear hq
  go_wp2_with (at_builtin; (refine wl_append rfl _ _ 22 rfl w.heap.size 61 j0 (.agg ⟨[.int .i64 0, .int .i64 0]⟩) 2 16 Tryz.underlying22 HJ0.out HY0.out HY1.out HY2.out rfl (by decide) (.slice (some ⟨w.heap.size, 0, none⟩) 0 0) 0 [] rfl HE.out (some ad) l.length c (flat encK KL) rfl HFL.out HNW.out HON.out HM.out HM2.out HB.out.size ?_; intro v' w' hown hg; have HO := Lib.hid hown; have HG := Lib.hid hg; clear hown hg))
  go_ret
  have hbel : Below w.heap.size w w' := HB.out.grown HG.out HB.out.size (fun b hb => by
    have hb2 : w.heap.size = b := by simpa [Value.ownBlock] using hb
    omega)
  refine ⟨v', KL, rfl, HKL.out, HR.out, ?_, hbel⟩
  have := HO.out
  rw [Nat.zero_add, List.nil_append, ← HKL.out] at this
  exact this
theorem info_cl_var : (Tryz.prog.info? 47).map (fun i => (i.zero, i.size, i.bytes)) = some (some (.agg ⟨[.string ⟨#[]⟩, .int .i64 0, .int .i64 0, .slice none 0 0, .slice none 0 0, .int .i64 0, .int .i64 0, .float .f64 0, .string ⟨#[]⟩, .slice none 0 0, .slice none 0 0]⟩), 11, 168) := by kernel_rfl
set_option maxHeartbeats 4000000 in
set_option maxRecDepth 100000 in
theorem mclone_var {α : Type} (R : List Value → α → Prop) (l : List α) (v : Value) (w : World) (h : SlAt w w.heap.size 11 R v l) (hn : l.length ≤ 1000) (hone : ∀ cs x, R cs x → ∀ u ∈ cs, u.oneCell' = true) :
    Calls Tryz.prog 29 #[v] w (CloneP 47 11 R l w) := by
  obtain ⟨KL, hKL, hR, A, c, rfl, hA⟩ := listK h
  clear h
  cases A with
  | none =>
    have h0 : l.length = 0 := by
      rcases Nat.eq_zero_or_pos l.length with h0 | h0
      · exact h0
      · obtain ⟨b, o, e, _⟩ := hA h0
        cases e
    have hK0 : KL = [] := List.eq_nil_of_length_eq_zero (by omega)
    subst hK0
    rw [h0]
    have hq : ∀ W, (binOp .eql 23 (.slice none 0 c) (.slice none 0 0)).run Tryz.prog W = .ok (.bool true) W := fun W => Go.Lib.run_eql_slice_nil_nil W _ _ Tryz.underlying23
    have HKL := Lib.hid hKL
    have HR := Lib.hid hR
    clear hKL hR hA hone h0 hn
    go_enter Tryz.func29, Tryz.ntmps29
    go_wp2
    go_ret
    exact ⟨_, [], rfl, HKL.out, HR.out, OwnSl.nil _ _, Below.refl _ _⟩
  | some ad =>
  have HO1 := Lib.hid hone
  have HR := Lib.hid hR
  have HA := Lib.hid hA
  have HKL := Lib.hid hKL
  obtain ⟨j0, hi, hz0, hz1, hz2⟩ := info_parts' info_cl_var
  have HJ0 := Lib.hid hi
  have HY0 := Lib.hid hz0
  have HY1 := Lib.hid hz1
  have HY2 := Lib.hid hz2
  have hq : ∀ W, (binOp .eql 23 (.slice (some ad) l.length c) (.slice none 0 0)).run Tryz.prog W = .ok (.bool false) W := fun W => Go.Lib.run_eql_slice_some_nil W _ _ _ Tryz.underlying23
  clear hi hz0 hz1 hz2 hR hKL hA hone
  have HB := Lib.hid (box_below w (.cells #[] 47))
  have HE := Lib.hid (ownsRow_empty w 47 11 w.heap.size (Nat.le_refl _))
  have HNW : Hid (0 < l.length → ∃ a2, (some ad : Option Addr) = some a2 ∧ ∀ (j : Nat) u, (flat encK KL)[j]? = some u → (w.alloc (.cells #[] 47)).cell? (a2.add j) = some u) := Lib.hid fun h0 => ⟨_, rfl, fun j u hu => by
    obtain ⟨b, o, e, hlt, hr⟩ := HA.out h0
    injection e with e
    subst e
    obtain ⟨q, hk, hku⟩ := flatK_get (by decide) hu
    rw [Addr.add_mid]
    have := hr (j / 11) q hk (j % 11) u hku
    rw [show o + j / 11 * 11 + j % 11 = o + j by omega] at this
    exact (HB.out.cell (p := ⟨b, o + j, none⟩) hlt).trans this⟩
  have HFL : Hid ((flat encK KL).length = l.length * 11) := Lib.hid (by rw [flat_len encK_len, HKL.out])
  have HON : Hid (∀ u ∈ flat encK KL, u.oneCell' = true) := Lib.hid fun u hu => by
    obtain ⟨j, hj⟩ := List.mem_iff_getElem?.1 hu
    obtain ⟨q, hk, hku⟩ := flatK_get (by decide) hj
    have hlt := (List.getElem?_eq_some_iff.1 hk).1
    exact HO1.out q.1 (l[j / 11]'(by rw [← HKL.out]; exact hlt)) (HR.out _ q _ hk (List.getElem?_eq_getElem _)) u (List.mem_of_getElem? hku)
  have HM : Hid (0 + l.length ≤ maxLen) := Lib.hid (by unfold maxLen; omega)
  have HM2 : Hid ((0 + l.length) * 168 ≤ 140737488355328) := Lib.hid (by omega)
  go_enter Tryz.func29, Tryz.ntmps29
  go_upto_region 3 with (fail)
  clear hq
  go_wp2_with (at_builtin; (refine wl_append rfl _ _ 23 rfl w.heap.size 47 j0 (.agg ⟨[.string ⟨#[]⟩, .int .i64 0, .int .i64 0, .slice none 0 0, .slice none 0 0, .int .i64 0, .int .i64 0, .float .f64 0, .string ⟨#[]⟩, .slice none 0 0, .slice none 0 0]⟩) 11 168 Tryz.underlying23 HJ0.out HY0.out HY1.out HY2.out rfl (by decide) (.slice (some ⟨w.heap.size, 0, none⟩) 0 0) 0 [] rfl HE.out (some ad) l.length c (flat encK KL) rfl HFL.out HNW.out HON.out HM.out HM2.out HB.out.size ?_; intro v' w' hown hg; have HO := Lib.hid hown; have HG := Lib.hid hg; clear hown hg))
  go_ret
  have hbel : Below w.heap.size w w' := HB.out.grown HG.out HB.out.size (fun b hb => by
    have hb2 : w.heap.size = b := by simpa [Value.ownBlock] using hb
    omega)
  refine ⟨v', KL, rfl, HKL.out, HR.out, ?_, hbel⟩
  have := HO.out
  rw [Nat.zero_add, List.nil_append, ← HKL.out] at this
  exact this
theorem info_cl_msg : (Tryz.prog.info? 58).map (fun i => (i.zero, i.size, i.bytes)) = some (some (.agg ⟨[.string ⟨#[]⟩, .int .i64 0, .int .i64 0, .slice none 0 0, .slice none 0 0, .int .i64 0, .slice none 0 0, .slice none 0 0]⟩), 8, 136) := by kernel_rfl
set_option maxHeartbeats 4000000 in
set_option maxRecDepth 100000 in
theorem mclone_msg {α : Type} (R : List Value → α → Prop) (l : List α) (v : Value) (w : World) (h : SlAt w w.heap.size 8 R v l) (hn : l.length ≤ 1000) (hone : ∀ cs x, R cs x → ∀ u ∈ cs, u.oneCell' = true) :
    Calls Tryz.prog 30 #[v] w (CloneP 58 8 R l w) := by
  obtain ⟨KL, hKL, hR, A, c, rfl, hA⟩ := listK h
  clear h
  cases A with
  | none =>
    have h0 : l.length = 0 := by
      rcases Nat.eq_zero_or_pos l.length with h0 | h0
      · exact h0
      · obtain ⟨b, o, e, _⟩ := hA h0
        cases e
    have hK0 : KL = [] := List.eq_nil_of_length_eq_zero (by omega)
    subst hK0
    rw [h0]
    have hq : ∀ W, (binOp .eql 24 (.slice none 0 c) (.slice none 0 0)).run Tryz.prog W = .ok (.bool true) W := fun W => Go.Lib.run_eql_slice_nil_nil W _ _ Tryz.underlying24
    have HKL := Lib.hid hKL
    have HR := Lib.hid hR
    clear hKL hR hA hone h0 hn
    go_enter Tryz.func30, Tryz.ntmps30
    go_wp2
    go_ret
    exact ⟨_, [], rfl, HKL.out, HR.out, OwnSl.nil _ _, Below.refl _ _⟩
  | some ad =>
  have HO1 := Lib.hid hone
  have HR := Lib.hid hR
  have HA := Lib.hid hA
  have HKL := Lib.hid hKL
  obtain ⟨j0, hi, hz0, hz1, hz2⟩ := info_parts' info_cl_msg
  have HJ0 := Lib.hid hi
  have HY0 := Lib.hid hz0
  have HY1 := Lib.hid hz1
  have HY2 := Lib.hid hz2
  have hq : ∀ W, (binOp .eql 24 (.slice (some ad) l.length c) (.slice none 0 0)).run Tryz.prog W = .ok (.bool false) W := fun W => Go.Lib.run_eql_slice_some_nil W _ _ _ Tryz.underlying24
  clear hi hz0 hz1 hz2 hR hKL hA hone
  have HB := Lib.hid (box_below w (.cells #[] 58))
  have HE := Lib.hid (ownsRow_empty w 58 8 w.heap.size (Nat.le_refl _))
  have HNW : Hid (0 < l.length → ∃ a2, (some ad : Option Addr) = some a2 ∧ ∀ (j : Nat) u, (flat encK KL)[j]? = some u → (w.alloc (.cells #[] 58)).cell? (a2.add j) = some u) := Lib.hid fun h0 => ⟨_, rfl, fun j u hu => by
    obtain ⟨b, o, e, hlt, hr⟩ := HA.out h0
    injection e with e
    subst e
    obtain ⟨q, hk, hku⟩ := flatK_get (by decide) hu
    rw [Addr.add_mid]
    have := hr (j / 8) q hk (j % 8) u hku
    rw [show o + j / 8 * 8 + j % 8 = o + j by omega] at this
    exact (HB.out.cell (p := ⟨b, o + j, none⟩) hlt).trans this⟩
  have HFL : Hid ((flat encK KL).length = l.length * 8) := Lib.hid (by rw [flat_len encK_len, HKL.out])
  have HON : Hid (∀ u ∈ flat encK KL, u.oneCell' = true) := Lib.hid fun u hu => by
    obtain ⟨j, hj⟩ := List.mem_iff_getElem?.1 hu
    obtain ⟨q, hk, hku⟩ := flatK_get (by decide) hj
    have hlt := (List.getElem?_eq_some_iff.1 hk).1
    exact HO1.out q.1 (l[j / 8]'(by rw [← HKL.out]; exact hlt)) (HR.out _ q _ hk (List.getElem?_eq_getElem _)) u (List.mem_of_getElem? hku)
  have HM : Hid (0 + l.length ≤ maxLen) := Lib.hid (by unfold maxLen; omega)
  have HM2 : Hid ((0 + l.length) * 136 ≤ 140737488355328) := Lib.hid (by omega)
  go_enter Tryz.func30, Tryz.ntmps30
  go_upto_region 3 with (fail)
  clear hq
  go_wp2_with (at_builtin; (refine wl_append rfl _ _ 24 rfl w.heap.size 58 j0 (.agg ⟨[.string ⟨#[]⟩, .int .i64 0, .int .i64 0, .slice none 0 0, .slice none 0 0, .int .i64 0, .slice none 0 0, .slice none 0 0]⟩) 8 136 Tryz.underlying24 HJ0.out HY0.out HY1.out HY2.out rfl (by decide) (.slice (some ⟨w.heap.size, 0, none⟩) 0 0) 0 [] rfl HE.out (some ad) l.length c (flat encK KL) rfl HFL.out HNW.out HON.out HM.out HM2.out HB.out.size ?_; intro v' w' hown hg; have HO := Lib.hid hown; have HG := Lib.hid hg; clear hown hg))
  go_ret
  have hbel : Below w.heap.size w w' := HB.out.grown HG.out HB.out.size (fun b hb => by
    have hb2 : w.heap.size = b := by simpa [Value.ownBlock] using hb
    omega)
  refine ⟨v', KL, rfl, HKL.out, HR.out, ?_, hbel⟩
  have := HO.out
  rw [Nat.zero_add, List.nil_append, ← HKL.out] at this
  exact this
theorem info_cl_node : (Tryz.prog.info? 42).map (fun i => (i.zero, i.size, i.bytes)) = some (some (.agg ⟨[.int .i64 0, .int .i64 0, .slice none 0 0, .slice none 0 0, .int .i64 0, .string ⟨#[]⟩, .int .i64 0, .int .i64 0, .float .f64 0, .string ⟨#[]⟩, .slice none 0 0, .slice none 0 0, .slice none 0 0, .slice none 0 0, .int .i64 0, .string ⟨#[]⟩, .int .i64 0, .int .i64 0, .float .f64 0, .string ⟨#[]⟩, .slice none 0 0, .slice none 0 0, .slice none 0 0, .slice none 0 0, .int .i64 0, .int .i64 0, .int .i64 0, .int .i64 0, .int .i64 0]⟩), 29, 424) := by kernel_rfl
set_option maxHeartbeats 4000000 in
set_option maxRecDepth 100000 in
theorem mclone_node {α : Type} (R : List Value → α → Prop) (l : List α) (v : Value) (w : World) (h : SlAt w w.heap.size 29 R v l) (hn : l.length ≤ 1000) (hone : ∀ cs x, R cs x → ∀ u ∈ cs, u.oneCell' = true) :
    Calls Tryz.prog 31 #[v] w (CloneP 42 29 R l w) := by
  obtain ⟨KL, hKL, hR, A, c, rfl, hA⟩ := listK h
  clear h
  cases A with
  | none =>
    have h0 : l.length = 0 := by
      rcases Nat.eq_zero_or_pos l.length with h0 | h0
      · exact h0
      · obtain ⟨b, o, e, _⟩ := hA h0
        cases e
    have hK0 : KL = [] := List.eq_nil_of_length_eq_zero (by omega)
    subst hK0
    rw [h0]
    have hq : ∀ W, (binOp .eql 25 (.slice none 0 c) (.slice none 0 0)).run Tryz.prog W = .ok (.bool true) W := fun W => Go.Lib.run_eql_slice_nil_nil W _ _ Tryz.underlying25
    have HKL := Lib.hid hKL
    have HR := Lib.hid hR
    clear hKL hR hA hone h0 hn
    go_enter Tryz.func31, Tryz.ntmps31
    go_wp2
    go_ret
    exact ⟨_, [], rfl, HKL.out, HR.out, OwnSl.nil _ _, Below.refl _ _⟩
  | some ad =>
  have HO1 := Lib.hid hone
  have HR := Lib.hid hR
  have HA := Lib.hid hA
  have HKL := Lib.hid hKL
  obtain ⟨j0, hi, hz0, hz1, hz2⟩ := info_parts' info_cl_node
  have HJ0 := Lib.hid hi
  have HY0 := Lib.hid hz0
  have HY1 := Lib.hid hz1
  have HY2 := Lib.hid hz2
  have hq : ∀ W, (binOp .eql 25 (.slice (some ad) l.length c) (.slice none 0 0)).run Tryz.prog W = .ok (.bool false) W := fun W => Go.Lib.run_eql_slice_some_nil W _ _ _ Tryz.underlying25
  clear hi hz0 hz1 hz2 hR hKL hA hone
  have HB := Lib.hid (box_below w (.cells #[] 42))
  have HE := Lib.hid (ownsRow_empty w 42 29 w.heap.size (Nat.le_refl _))
  have HNW : Hid (0 < l.length → ∃ a2, (some ad : Option Addr) = some a2 ∧ ∀ (j : Nat) u, (flat encK KL)[j]? = some u → (w.alloc (.cells #[] 42)).cell? (a2.add j) = some u) := Lib.hid fun h0 => ⟨_, rfl, fun j u hu => by
    obtain ⟨b, o, e, hlt, hr⟩ := HA.out h0
    injection e with e
    subst e
    obtain ⟨q, hk, hku⟩ := flatK_get (by decide) hu
    rw [Addr.add_mid]
    have := hr (j / 29) q hk (j % 29) u hku
    rw [show o + j / 29 * 29 + j % 29 = o + j by omega] at this
    exact (HB.out.cell (p := ⟨b, o + j, none⟩) hlt).trans this⟩
  have HFL : Hid ((flat encK KL).length = l.length * 29) := Lib.hid (by rw [flat_len encK_len, HKL.out])
  have HON : Hid (∀ u ∈ flat encK KL, u.oneCell' = true) := Lib.hid fun u hu => by
    obtain ⟨j, hj⟩ := List.mem_iff_getElem?.1 hu
    obtain ⟨q, hk, hku⟩ := flatK_get (by decide) hj
    have hlt := (List.getElem?_eq_some_iff.1 hk).1
    exact HO1.out q.1 (l[j / 29]'(by rw [← HKL.out]; exact hlt)) (HR.out _ q _ hk (List.getElem?_eq_getElem _)) u (List.mem_of_getElem? hku)
  have HM : Hid (0 + l.length ≤ maxLen) := Lib.hid (by unfold maxLen; omega)
  have HM2 : Hid ((0 + l.length) * 424 ≤ 140737488355328) := Lib.hid (by omega)
  go_enter Tryz.func31, Tryz.ntmps31
  go_upto_region 3 with (fail)
  clear hq
  go_wp2_with (at_builtin; (refine wl_append rfl _ _ 25 rfl w.heap.size 42 j0 (.agg ⟨[.int .i64 0, .int .i64 0, .slice none 0 0, .slice none 0 0, .int .i64 0, .string ⟨#[]⟩, .int .i64 0, .int .i64 0, .float .f64 0, .string ⟨#[]⟩, .slice none 0 0, .slice none 0 0, .slice none 0 0, .slice none 0 0, .int .i64 0, .string ⟨#[]⟩, .int .i64 0, .int .i64 0, .float .f64 0, .string ⟨#[]⟩, .slice none 0 0, .slice none 0 0, .slice none 0 0, .slice none 0 0, .int .i64 0, .int .i64 0, .int .i64 0, .int .i64 0, .int .i64 0]⟩) 29 424 Tryz.underlying25 HJ0.out HY0.out HY1.out HY2.out rfl (by decide) (.slice (some ⟨w.heap.size, 0, none⟩) 0 0) 0 [] rfl HE.out (some ad) l.length c (flat encK KL) rfl HFL.out HNW.out HON.out HM.out HM2.out HB.out.size ?_; intro v' w' hown hg; have HO := Lib.hid hown; have HG := Lib.hid hg; clear hown hg))
  go_ret
  have hbel : Below w.heap.size w w' := HB.out.grown HG.out HB.out.size (fun b hb => by
    have hb2 : w.heap.size = b := by simpa [Value.ownBlock] using hb
    omega)
  refine ⟨v', KL, rfl, HKL.out, HR.out, ?_, hbel⟩
  have := HO.out
  rw [Nat.zero_add, List.nil_append, ← HKL.out] at this
  exact this
theorem info_cl_expr : (Tryz.prog.info? 40).map (fun i => (i.zero, i.size, i.bytes)) = some (some (.agg ⟨[.int .i64 0, .string ⟨#[]⟩, .int .i64 0, .int .i64 0, .float .f64 0, .string ⟨#[]⟩, .slice none 0 0, .slice none 0 0, .slice none 0 0, .slice none 0 0]⟩), 10, 160) := by kernel_rfl
set_option maxHeartbeats 4000000 in
set_option maxRecDepth 100000 in
theorem mclone_expr {α : Type} (R : List Value → α → Prop) (l : List α) (v : Value) (w : World) (h : SlAt w w.heap.size 10 R v l) (hn : l.length ≤ 1000) (hone : ∀ cs x, R cs x → ∀ u ∈ cs, u.oneCell' = true) :
    Calls Tryz.prog 35 #[v] w (CloneP 40 10 R l w) := by
  obtain ⟨KL, hKL, hR, A, c, rfl, hA⟩ := listK h
  clear h
  cases A with
  | none =>
    have h0 : l.length = 0 := by
      rcases Nat.eq_zero_or_pos l.length with h0 | h0
      · exact h0
      · obtain ⟨b, o, e, _⟩ := hA h0
        cases e
    have hK0 : KL = [] := List.eq_nil_of_length_eq_zero (by omega)
    subst hK0
    rw [h0]
    have hq : ∀ W, (binOp .eql 33 (.slice none 0 c) (.slice none 0 0)).run Tryz.prog W = .ok (.bool true) W := fun W => Go.Lib.run_eql_slice_nil_nil W _ _ Tryz.underlying33
    have HKL := Lib.hid hKL
    have HR := Lib.hid hR
    clear hKL hR hA hone h0 hn
    go_enter Tryz.func35, Tryz.ntmps35
    go_wp2
    go_ret
    exact ⟨_, [], rfl, HKL.out, HR.out, OwnSl.nil _ _, Below.refl _ _⟩
  | some ad =>
  have HO1 := Lib.hid hone
  have HR := Lib.hid hR
  have HA := Lib.hid hA
  have HKL := Lib.hid hKL
  obtain ⟨j0, hi, hz0, hz1, hz2⟩ := info_parts' info_cl_expr
  have HJ0 := Lib.hid hi
  have HY0 := Lib.hid hz0
  have HY1 := Lib.hid hz1
  have HY2 := Lib.hid hz2
  have hq : ∀ W, (binOp .eql 33 (.slice (some ad) l.length c) (.slice none 0 0)).run Tryz.prog W = .ok (.bool false) W := fun W => Go.Lib.run_eql_slice_some_nil W _ _ _ Tryz.underlying33
  clear hi hz0 hz1 hz2 hR hKL hA hone
  have HB := Lib.hid (box_below w (.cells #[] 40))
  have HE := Lib.hid (ownsRow_empty w 40 10 w.heap.size (Nat.le_refl _))
  have HNW : Hid (0 < l.length → ∃ a2, (some ad : Option Addr) = some a2 ∧ ∀ (j : Nat) u, (flat encK KL)[j]? = some u → (w.alloc (.cells #[] 40)).cell? (a2.add j) = some u) := Lib.hid fun h0 => ⟨_, rfl, fun j u hu => by
    obtain ⟨b, o, e, hlt, hr⟩ := HA.out h0
    injection e with e
    subst e
    obtain ⟨q, hk, hku⟩ := flatK_get (by decide) hu
    rw [Addr.add_mid]
    have := hr (j / 10) q hk (j % 10) u hku
    rw [show o + j / 10 * 10 + j % 10 = o + j by omega] at this
    exact (HB.out.cell (p := ⟨b, o + j, none⟩) hlt).trans this⟩
  have HFL : Hid ((flat encK KL).length = l.length * 10) := Lib.hid (by rw [flat_len encK_len, HKL.out])
  have HON : Hid (∀ u ∈ flat encK KL, u.oneCell' = true) := Lib.hid fun u hu => by
    obtain ⟨j, hj⟩ := List.mem_iff_getElem?.1 hu
    obtain ⟨q, hk, hku⟩ := flatK_get (by decide) hj
    have hlt := (List.getElem?_eq_some_iff.1 hk).1
    exact HO1.out q.1 (l[j / 10]'(by rw [← HKL.out]; exact hlt)) (HR.out _ q _ hk (List.getElem?_eq_getElem _)) u (List.mem_of_getElem? hku)
  have HM : Hid (0 + l.length ≤ maxLen) := Lib.hid (by unfold maxLen; omega)
  have HM2 : Hid ((0 + l.length) * 160 ≤ 140737488355328) := Lib.hid (by omega)
  go_enter Tryz.func35, Tryz.ntmps35
  go_upto_region 3 with (fail)
  clear hq
  go_wp2_with (at_builtin; (refine wl_append rfl _ _ 33 rfl w.heap.size 40 j0 (.agg ⟨[.int .i64 0, .string ⟨#[]⟩, .int .i64 0, .int .i64 0, .float .f64 0, .string ⟨#[]⟩, .slice none 0 0, .slice none 0 0, .slice none 0 0, .slice none 0 0]⟩) 10 160 Tryz.underlying33 HJ0.out HY0.out HY1.out HY2.out rfl (by decide) (.slice (some ⟨w.heap.size, 0, none⟩) 0 0) 0 [] rfl HE.out (some ad) l.length c (flat encK KL) rfl HFL.out HNW.out HON.out HM.out HM2.out HB.out.size ?_; intro v' w' hown hg; have HO := Lib.hid hown; have HG := Lib.hid hg; clear hown hg))
  go_ret
  have hbel : Below w.heap.size w w' := HB.out.grown HG.out HB.out.size (fun b hb => by
    have hb2 : w.heap.size = b := by simpa [Value.ownBlock] using hb
    omega)
  refine ⟨v', KL, rfl, HKL.out, HR.out, ?_, hbel⟩
  have := HO.out
  rw [Nat.zero_add, List.nil_append, ← HKL.out] at this
  exact this
end Go.Proofs.YtpmjcbjdcjjplaaGreat
