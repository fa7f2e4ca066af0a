/- Parts of a proof: VCmp, VFlt, VRow, VRow2. -/
import Derived.Test.YtpmjcbjdcjjplaaGreatPack6
import Derived.Test.YtpmjcbjdcjjplaaGreatPack9
import Derived.Test.YtpmjcbjdcjjplaaGreatPack10
section
namespace Go.Proofs.YtpmjcbjdcjjplaaGreat
open Go Go.RowKit
set_option linter.unusedVariables false
theorem cmpi (a b : Int) (w : World) : Calls Tryz.prog 73 #[.int .i64 a, .int .i64 b] w fun e w' => e = .returned (.int .i64 (cmpI a b)) ∧ w' = w := by
  rcases Int.lt_trichotomy a b with h | h | h
  · have hr : cmpI a b = -1 := by unfold cmpI; rw [if_pos h]
    rw [hr]
    go_enter Tryz.func73, Tryz.ntmps73
    go_wp2_with (go_in)
    go_ret
    exact ⟨rfl, rfl⟩
  · subst h
    rw [cmpI_zero rfl]
    go_enter Tryz.func73, Tryz.ntmps73
    go_wp2_with (go_in)
    go_ret
    exact ⟨rfl, rfl⟩
  · have hr : cmpI a b = 1 := by unfold cmpI; rw [if_neg (by omega), if_pos h]
    have hn : ¬ a < b := by omega
    rw [hr]
    go_enter Tryz.func73, Tryz.ntmps73
    go_wp2_with (go_in)
    go_ret
    exact ⟨rfl, rfl⟩
theorem cmp64 (a b : Int) (w : World) : Calls Tryz.prog 90 #[.int .i64 a, .int .i64 b] w fun e w' => e = .returned (.int .i64 (cmpI a b)) ∧ w' = w := by
  rcases Int.lt_trichotomy a b with h | h | h
  · have hr : cmpI a b = -1 := by unfold cmpI; rw [if_pos h]
    rw [hr]
    go_enter Tryz.func90, Tryz.ntmps90
    go_wp2_with (go_in)
    go_ret
    exact ⟨rfl, rfl⟩
  · subst h
    rw [cmpI_zero rfl]
    go_enter Tryz.func90, Tryz.ntmps90
    go_wp2_with (go_in)
    go_ret
    exact ⟨rfl, rfl⟩
  · have hr : cmpI a b = 1 := by unfold cmpI; rw [if_neg (by omega), if_pos h]
    have hn : ¬ a < b := by omega
    rw [hr]
    go_enter Tryz.func90, Tryz.ntmps90
    go_wp2_with (go_in)
    go_ret
    exact ⟨rfl, rfl⟩
theorem strcmp (a b : ByteArray) (w : World) : Calls Tryz.prog 92 #[.string a, .string b] w fun e w' => e = .returned (.int .i64 (cmpS a b)) ∧ w' = w := Tryz.strings_Compare a b w
theorem toList_eq (a : ByteArray) : a.toList = a.data.toList := ByteArray.toList_eq a
theorem less_cmp : ∀ a b : List UInt8, (Op.bytesLess a b = true ↔ Lib.compareBytes a b = -1) ∧ ((a == b) = true ↔ Lib.compareBytes a b = 0)
  | [], [] => by decide
  | [], _ :: _ => by simp [Op.bytesLess, Lib.compareBytes]
  | _ :: _, [] => by simp [Op.bytesLess, Lib.compareBytes]
  | a :: l, b :: r => by
    obtain ⟨h1, h2⟩ := less_cmp l r
    unfold Op.bytesLess Lib.compareBytes
    rcases u8_tri a b with h | h | h
    · have : a ≠ b := fun e => by subst e; exact UInt8.lt_irrefl a h
      simp [h, this]
    · subst h
      simp [UInt8.lt_irrefl]
      exact ⟨h1, by rw [← beq_iff_eq (a := l)]; exact h2⟩
    · have h3 := UInt8.lt_asymm h
      have : a ≠ b := fun e => by subst e; exact UInt8.lt_irrefl a h
      simp [h, h3, this]
theorem compareBytes_val : ∀ a b : List UInt8, Lib.compareBytes a b = -1 ∨ Lib.compareBytes a b = 0 ∨ Lib.compareBytes a b = 1
  | [], [] => .inr (.inl rfl)
  | [], _ :: _ => .inl rfl
  | _ :: _, [] => .inr (.inr rfl)
  | a :: l, b :: r => by
    unfold Lib.compareBytes
    split
    · exact .inl rfl
    · split
      · exact .inr (.inr rfl)
      · exact compareBytes_val l r
theorem cmps (a b : ByteArray) (w : World) : Calls Tryz.prog 105 #[.string a, .string b] w fun e w' => e = .returned (.int .i64 (cmpS a b)) ∧ w' = w := by
  obtain ⟨h1, h2⟩ := less_cmp a.data.toList b.data.toList
  have h3 := compareBytes_val a.data.toList b.data.toList
  rw [← toList_eq, ← toList_eq] at h1 h2 h3
  have hc : cmpS a b = Lib.compareBytes a.toList b.toList := by unfold cmpS; rw [toList_eq, toList_eq]
  rw [hc]
  rcases h3 with h | h | h
  · rw [h]
    have t1 : Op.bytesLess a.toList b.toList = true := h1.2 h
    clear h1 h2 hc h
    go_enter Tryz.func105, Tryz.ntmps105
    go_wp2_with (go_in)
    go_ret
    exact ⟨rfl, rfl⟩
  · rw [h]
    have t1 : Op.bytesLess a.toList b.toList = false := by rw [Bool.eq_false_iff]; intro e; have := h1.1 e; omega
    have t2 : (a.toList == b.toList) = true := h2.2 h
    clear h1 h2 hc h
    go_enter Tryz.func105, Tryz.ntmps105
    go_wp2_with (go_in)
    go_ret
    exact ⟨rfl, rfl⟩
  · rw [h]
    have t1 : Op.bytesLess a.toList b.toList = false := by rw [Bool.eq_false_iff]; intro e; have := h1.1 e; omega
    have t2 : (a.toList == b.toList) = false := by rw [Bool.eq_false_iff]; intro e; have := h2.1 e; omega
    clear h1 h2 hc h
    go_enter Tryz.func105, Tryz.ntmps105
    go_wp2_with (go_in)
    go_ret
    exact ⟨rfl, rfl⟩
end Go.Proofs.YtpmjcbjdcjjplaaGreat
end
section
namespace Go.Proofs.YtpmjcbjdcjjplaaGreat
open Go Go.RowKit
set_option linter.unusedVariables false
theorem wf64 {a : Nat} (h : (Lit.float .f64 a).wf = true) : a < 2 ^ 64 := by
  simpa [Lit.wf] using h
open Ieee in
theorem zero_two {a : Nat} (h : a < 2 ^ 64) (he : (fOrd a 0 == some .eq) = true) : a = 0 ∨ a = 2 ^ 63 := by
  rw [beq_iff_eq, ordB_eq] at he
  have h0 : dat 0 = .number false 0 (-1074) := by decide +kernel
  have hs : FloatKind.f64.format.signWeight = 2 ^ 63 := by decide +kernel
  have hb : FloatKind.f64.format.binade = 2 ^ 52 := by decide +kernel
  rw [h0] at he
  unfold dat Format.read at he
  dsimp only at he
  rw [hs, hb] at he
  have key : ∀ (s : Bool) (m : Nat) (i : Int), -1074 ≤ i → Datum.order (.number s m i) (.number false 0 (-1074)) = some .eq → m = 0 := by
    intro s m i hi h
    have := (order_cmp (.number s m i) (.number false 0 (-1074)) hi (by show (-1074 : Int) ≤ -1074; omega) rfl rfl).2.1.1 h
    unfold cmpD at this
    rw [if_neg (by simp [clsD, cmpI])] at this
    have h2 := cmpI_val (valD (.number s m i)) (valD (.number false 0 (-1074)))
    have h3 : valD (.number s m i) = 0 := by
      have : valD (.number false 0 (-1074)) = 0 := by decide +kernel
      omega
    have h4 : (m <<< (i + 1074).toNat : Nat) = 0 := by
      have h5 : signed s m (i + 1074).toNat = 0 := h3
      unfold signed at h5
      cases s <;> simp at h5 <;> simpa using h5
    rw [Nat.shiftLeft_eq] at h4
    rcases Nat.mul_eq_zero.1 h4 with h | h
    · exact h
    · have : 0 < 2 ^ (i + 1074).toNat := Nat.two_pow_pos _
      omega
  have hp : FloatKind.f64.format.leastPlace = -1074 := by decide +kernel
  split at he
  · have := key _ _ _ (by rw [hp]; omega) he
    omega
  · split at he
    · have := key _ _ _ (by rw [hp]; omega) he
      omega
    · split at he
      · exfalso
        revert he
        cases (a / 2 ^ 63 % 2 == 1) <;> simp [Datum.order]
      · simp [Datum.order] at he
def nanI (a : Nat) : Int := if nanB a = true then 1 else 0
theorem rank_any (a : Nat) (ha : a < 2 ^ 64) (w : World) : Calls Tryz.prog 103 #[.float .f64 a] w fun e w' => e = .returned (.tuple #[.int .i64 (nanI a), .int .i64 (rankZ a)]) ∧ w' = w := by
  have hn0 : nanB a = (FloatKind.f64.format.order a a != some .eq) := rfl
  cases hn : nanB a with
  | true =>
    have hz : rankZ a = 0 := rankZ_nan a (by have := nanB_eq a; rw [hn] at this; simpa using this.symm)
    have hi : nanI a = 1 := by unfold nanI; rw [hn]; rfl
    rw [hz, hi]
    have t1 : (FloatKind.f64.format.order a a != some .eq) = true := hn0.symm.trans hn
    clear hn0 hn hz hi
    go_enter Tryz.func103, Tryz.ntmps103
    go_wp2
    go_ret2
    exact ⟨rfl, rfl⟩
  | false =>
    have hi : nanI a = 0 := by unfold nanI; rw [hn]; rfl
    rw [hi]
    have t1 : (FloatKind.f64.format.order a a != some .eq) = false := hn0.symm.trans hn
    clear hn0 hn hi
    by_cases h0 : (fOrd a 0 == some .eq) = true
    · rcases zero_two ha h0 with rfl | rfl
      · have hz : rankZ 0 = 0 := by unfold rankZ; simp
        rw [hz]
        have t2 : (FloatKind.f64.format.order 0 0 == some .eq) = true := by decide +kernel
        have hq : ∀ (t : TypeId) (w : World), (binOp .quo t (.float .f64 4607182418800017408) (.float .f64 0)).run Tryz.prog w = .ok (.float .f64 9218868437227405312) w := fun t w => run_float_arith w .quo t .f64 _ _ _ (by decide +kernel)
        have t3 : (FloatKind.f64.format.order 9218868437227405312 0 == some .lt) = false := by decide +kernel
        clear h0 hz ha
        go_enter Tryz.func103, Tryz.ntmps103
        go_wp2
        go_ret2
        exact ⟨rfl, rfl⟩
      · have hz : rankZ (2 ^ 63) = -1 := by unfold rankZ; rw [if_pos ⟨h0, by decide⟩]
        rw [hz]
        have e63 : (2 ^ 63 : Nat) = 9223372036854775808 := by decide
        rw [e63] at t1 h0 ⊢
        have t2 : (FloatKind.f64.format.order 9223372036854775808 0 == some .eq) = true := h0
        have hq : ∀ (t : TypeId) (w : World), (binOp .quo t (.float .f64 4607182418800017408) (.float .f64 9223372036854775808)).run Tryz.prog w = .ok (.float .f64 18442240474082181120) w := fun t w => run_float_arith w .quo t .f64 _ _ _ (by decide +kernel)
        have t3 : (FloatKind.f64.format.order 18442240474082181120 0 == some .lt) = true := by decide +kernel
        clear h0 hz ha
        go_enter Tryz.func103, Tryz.ntmps103
        go_wp2
        go_ret2
        exact ⟨rfl, rfl⟩
    · have hz : rankZ a = 0 := by unfold rankZ; rw [if_neg (fun h => h0 h.1)]
      have t2 : (FloatKind.f64.format.order a 0 == some .eq) = false := by rw [Bool.eq_false_iff]; exact h0
      rw [hz]
      clear h0 hz
      go_enter Tryz.func103, Tryz.ntmps103
      go_wp2
      go_ret2
      exact ⟨rfl, rfl⟩
theorem nanI_of {a : Nat} {b : Bool} (h : nanB a = b) : nanI a = if b = true then 1 else 0 := by unfold nanI; rw [h]
set_option maxHeartbeats 1000000 in
set_option maxRecDepth 100000 in
theorem forder_any (a b : Nat) (ha : a < 2 ^ 64) (hb : b < 2 ^ 64) (w : World) : Calls Tryz.prog 91 #[.float .f64 a, .float .f64 b] w fun e w' => e = .returned (.int .i64 (cmpF a b)) ∧ w' = w := by
  have HA := Lib.hid (fun w => rank_any a ha w)
  have HB := Lib.hid (fun w => rank_any b hb w)
  clear ha hb
  cases hn : nanB a with
  | true =>
    rw [nanI_of hn] at HA
    cases hm : nanB b with
    | true =>
      rw [nanI_of hm] at HB
      have hr : cmpF a b = 0 := by unfold cmpF; rw [hn, hm]; rfl
      rw [hr]
      clear hn hm hr
      simp only [if_true] at HA HB
      go_enter Tryz.func91, Tryz.ntmps91
      go_wp2_with (first | (go_at_call 103; with_reducible refine (HA.out _).mono ?_; rintro e z ⟨rfl, rfl⟩) | (go_at_call 103; with_reducible refine (HB.out _).mono ?_; rintro e z ⟨rfl, rfl⟩))
      go_ret
      exact ⟨rfl, rfl⟩
    | false =>
      rw [nanI_of hm] at HB
      have hr : cmpF a b = 1 := by unfold cmpF; rw [hn, hm]; rfl
      rw [hr]
      clear hn hm hr
      simp only [if_true, Bool.false_eq_true, if_false] at HA HB
      go_enter Tryz.func91, Tryz.ntmps91
      go_wp2_with (first | (go_at_call 103; with_reducible refine (HA.out _).mono ?_; rintro e z ⟨rfl, rfl⟩) | (go_at_call 103; with_reducible refine (HB.out _).mono ?_; rintro e z ⟨rfl, rfl⟩))
      go_ret
      exact ⟨rfl, rfl⟩
  | false =>
    rw [nanI_of hn] at HA
    cases hm : nanB b with
    | true =>
      rw [nanI_of hm] at HB
      have hr : cmpF a b = -1 := by unfold cmpF; rw [hn, hm]; rfl
      rw [hr]
      clear hn hm hr
      simp only [if_true, Bool.false_eq_true, if_false] at HA HB
      go_enter Tryz.func91, Tryz.ntmps91
      go_wp2_with (first | (go_at_call 103; with_reducible refine (HA.out _).mono ?_; rintro e z ⟨rfl, rfl⟩) | (go_at_call 103; with_reducible refine (HB.out _).mono ?_; rintro e z ⟨rfl, rfl⟩))
      go_ret
      exact ⟨rfl, rfl⟩
    | false =>
      rw [nanI_of hm] at HB
      simp only [Bool.false_eq_true, if_false] at HA HB
      have hr : cmpF a b = if (fOrd a b == some .lt) = true ∨ (fOrd a b == some .eq) = true ∧ rankZ a < rankZ b then -1
          else if (fOrd a b == some .gt) = true ∨ (fOrd a b == some .eq) = true ∧ rankZ b < rankZ a then 1 else 0 := by unfold cmpF; rw [hn, hm]; rfl
      clear hn hm
      rcases ho : fOrd a b with _ | ⟨_ | _ | _⟩
      · have hr2 : cmpF a b = 0 := by rw [hr, ho]; rfl
        rw [hr2]
        clear hr hr2
        have t1 : (FloatKind.f64.format.order a b == some .lt) = false := by rw [show FloatKind.f64.format.order a b = _ from ho]; rfl
        have t2 : (FloatKind.f64.format.order a b == some .eq) = false := by rw [show FloatKind.f64.format.order a b = _ from ho]; rfl
        have t3 : (FloatKind.f64.format.order a b == some .gt) = false := by rw [show FloatKind.f64.format.order a b = _ from ho]; rfl
        clear ho
        go_enter Tryz.func91, Tryz.ntmps91
        go_wp2_with (first | (go_at_call 103; with_reducible refine (HA.out _).mono ?_; rintro e z ⟨rfl, rfl⟩) | (go_at_call 103; with_reducible refine (HB.out _).mono ?_; rintro e z ⟨rfl, rfl⟩))
        go_ret
        exact ⟨rfl, rfl⟩
      · have hr2 : cmpF a b = (-1) := by rw [hr, ho]; rfl
        rw [hr2]
        clear hr hr2
        have t1 : (FloatKind.f64.format.order a b == some .lt) = true := by rw [show FloatKind.f64.format.order a b = _ from ho]; rfl
        have t2 : (FloatKind.f64.format.order a b == some .eq) = false := by rw [show FloatKind.f64.format.order a b = _ from ho]; rfl
        have t3 : (FloatKind.f64.format.order a b == some .gt) = false := by rw [show FloatKind.f64.format.order a b = _ from ho]; rfl
        clear ho
        go_enter Tryz.func91, Tryz.ntmps91
        go_wp2_with (first | (go_at_call 103; with_reducible refine (HA.out _).mono ?_; rintro e z ⟨rfl, rfl⟩) | (go_at_call 103; with_reducible refine (HB.out _).mono ?_; rintro e z ⟨rfl, rfl⟩))
        go_ret
        exact ⟨rfl, rfl⟩
      · rcases Int.lt_trichotomy (rankZ a) (rankZ b) with hz | hz | hz
        · have hr2 : cmpF a b = (-1) := by rw [hr, ho]; simp [hz]
          rw [hr2]
          clear hr hr2
          have t1 : (FloatKind.f64.format.order a b == some .lt) = false := by rw [show FloatKind.f64.format.order a b = _ from ho]; rfl
          have t2 : (FloatKind.f64.format.order a b == some .eq) = true := by rw [show FloatKind.f64.format.order a b = _ from ho]; rfl
          have t3 : (FloatKind.f64.format.order a b == some .gt) = false := by rw [show FloatKind.f64.format.order a b = _ from ho]; rfl
          clear ho
          have hz2 : ¬ rankZ b < rankZ a := by omega
          go_enter Tryz.func91, Tryz.ntmps91
          go_wp2_with (first | (go_at_call 103; with_reducible refine (HA.out _).mono ?_; rintro e z ⟨rfl, rfl⟩) | (go_at_call 103; with_reducible refine (HB.out _).mono ?_; rintro e z ⟨rfl, rfl⟩))
          go_ret
          exact ⟨rfl, rfl⟩
        · have hr2 : cmpF a b = 0 := by rw [hr, ho]; simp [hz]
          rw [hr2]
          clear hr hr2
          have t1 : (FloatKind.f64.format.order a b == some .lt) = false := by rw [show FloatKind.f64.format.order a b = _ from ho]; rfl
          have t2 : (FloatKind.f64.format.order a b == some .eq) = true := by rw [show FloatKind.f64.format.order a b = _ from ho]; rfl
          have t3 : (FloatKind.f64.format.order a b == some .gt) = false := by rw [show FloatKind.f64.format.order a b = _ from ho]; rfl
          clear ho
          rw [hz] at HA
          have hz2 : ¬ rankZ b < rankZ b := Int.lt_irrefl _
          go_enter Tryz.func91, Tryz.ntmps91
          go_wp2_with (first | (go_at_call 103; with_reducible refine (HA.out _).mono ?_; rintro e z ⟨rfl, rfl⟩) | (go_at_call 103; with_reducible refine (HB.out _).mono ?_; rintro e z ⟨rfl, rfl⟩))
          go_ret
          exact ⟨rfl, rfl⟩
        · have hr2 : cmpF a b = 1 := by rw [hr, ho]; simp [show ¬ rankZ a < rankZ b by omega, hz]
          rw [hr2]
          clear hr hr2
          have t1 : (FloatKind.f64.format.order a b == some .lt) = false := by rw [show FloatKind.f64.format.order a b = _ from ho]; rfl
          have t2 : (FloatKind.f64.format.order a b == some .eq) = true := by rw [show FloatKind.f64.format.order a b = _ from ho]; rfl
          have t3 : (FloatKind.f64.format.order a b == some .gt) = false := by rw [show FloatKind.f64.format.order a b = _ from ho]; rfl
          clear ho
          have hz2 : ¬ rankZ a < rankZ b := by omega
          go_enter Tryz.func91, Tryz.ntmps91
          go_wp2_with (first | (go_at_call 103; with_reducible refine (HA.out _).mono ?_; rintro e z ⟨rfl, rfl⟩) | (go_at_call 103; with_reducible refine (HB.out _).mono ?_; rintro e z ⟨rfl, rfl⟩))
          go_ret
          exact ⟨rfl, rfl⟩
      · have hr2 : cmpF a b = 1 := by rw [hr, ho]; rfl
        rw [hr2]
        clear hr hr2
        have t1 : (FloatKind.f64.format.order a b == some .lt) = false := by rw [show FloatKind.f64.format.order a b = _ from ho]; rfl
        have t2 : (FloatKind.f64.format.order a b == some .eq) = false := by rw [show FloatKind.f64.format.order a b = _ from ho]; rfl
        have t3 : (FloatKind.f64.format.order a b == some .gt) = true := by rw [show FloatKind.f64.format.order a b = _ from ho]; rfl
        clear ho
        go_enter Tryz.func91, Tryz.ntmps91
        go_wp2_with (first | (go_at_call 103; with_reducible refine (HA.out _).mono ?_; rintro e z ⟨rfl, rfl⟩) | (go_at_call 103; with_reducible refine (HB.out _).mono ?_; rintro e z ⟨rfl, rfl⟩))
        go_ret
        exact ⟨rfl, rfl⟩
end Go.Proofs.YtpmjcbjdcjjplaaGreat
end
section
namespace Go.Proofs.YtpmjcbjdcjjplaaGreat
open Go Go.RowKit
set_option linter.unusedVariables false
section
variable {α : Type} {f : α → α → Int} {l r : List α} {k : Nat} {x y : α}
theorem drop_at (h : l[k]? = some x) : l.drop k = x :: l.drop (k + 1) := by
  obtain ⟨h1, h2⟩ := List.getElem?_eq_some_iff.1 h
  rw [← h2]; exact List.drop_eq_getElem_cons h1
theorem listC_step (hx : l[k]? = some x) (hy : r[k]? = some y) : listC f (l.drop k) (r.drop k) = if f x y ≠ 0 then f x y else listC f (l.drop (k + 1)) (r.drop (k + 1)) := by
  rw [drop_at hx, drop_at hy]; rfl
theorem listC_long (hx : l[k]? = some x) (hr : r.length ≤ k) : listC f (l.drop k) (r.drop k) = 1 := by
  rw [drop_at hx, List.drop_eq_nil_of_le hr]; rfl
theorem listC_end (hl : l.length ≤ k) (hr : k < r.length) : listC f (l.drop k) (r.drop k) = -1 := by
  rw [List.drop_eq_nil_of_le hl, List.drop_eq_getElem_cons hr]; rfl
theorem listC_both (hl : l.length ≤ k) (hr : r.length ≤ k) : listC f (l.drop k) (r.drop k) = 0 := by
  rw [List.drop_eq_nil_of_le hl, List.drop_eq_nil_of_le hr]; rfl
end
theorem str_at {w : World} {B : Nat} {A : Option Addr} {n c : Nat} {l : List ByteArray} (h : SlAt w B 1 StrR (.slice A n c) l) : n = l.length ∧ l.length ≤ 9223372036854775807 ∧ (0 < l.length → ∃ b o, A = some ⟨b, o, none⟩ ∧ b < B ∧ ∀ (i : Nat) x, l[i]? = some x → w.cell? ⟨b, o + i, none⟩ = some (.string x) ∧ x.size ≤ maxLen) := by
  obtain ⟨h0, A', c', h1, h2⟩ := h
  injection h1 with h1 h3 h4
  subst h1 h3
  refine ⟨rfl, h0, fun hp => ?_⟩
  obtain ⟨b, o, rfl, hb, h5⟩ := h2 hp
  refine ⟨b, o, rfl, hb, fun i x hx => ?_⟩
  obtain ⟨cs, h6, h7, h8, h9⟩ := h5 i x hx
  subst h8
  have := h7 0 (.string x) rfl
  rw [Nat.mul_one, Nat.add_zero] at this
  exact ⟨this, h9⟩
set_option maxHeartbeats 1000000 in
set_option maxRecDepth 100000 in
theorem slcmp_any (u v : Value) (l r : List ByteArray) (B : Nat) (w : World) (hu : SlAt w B 1 StrR u l) (hv : SlAt w B 1 StrR v r) :
    Calls Tryz.prog 93 #[u, v] w fun e w' => e = .returned (.int .i64 (listC cmpS l r)) ∧ w' = w := by
  obtain ⟨_, A, ca, rfl, _⟩ := id hu
  obtain ⟨_, D, cb, rfl, _⟩ := id hv
  obtain ⟨_, hl, ha⟩ := str_at hu
  obtain ⟨_, hr, hb⟩ := str_at hv
  have HA := Lib.hid ha
  have HB := Lib.hid hb
  have HS := Lib.hid (fun k x y => listC_step (f := cmpS) (l := l) (r := r) (k := k) (x := x) (y := y))
  have HL := Lib.hid (fun k x => listC_long (f := cmpS) (l := l) (r := r) (k := k) (x := x))
  have HE := Lib.hid (fun k => listC_end (f := cmpS) (l := l) (r := r) (k := k))
  have HT := Lib.hid (fun k => listC_both (f := cmpS) (l := l) (r := r) (k := k))
  have H0 : Hid (listC cmpS (l.drop 0) (r.drop 0) = listC cmpS l r) := Lib.hid rfl
  have hl2 : (l.length : Int) ≤ 9223372036854775807 := by omega
  have hr2 : (r.length : Int) ≤ 9223372036854775807 := by omega
  clear ha hb hu hv
  generalize listC cmpS l r = res at *
  go_enter Tryz.func93, Tryz.ntmps93
  go_wp2
  go_loopg [11] l.length (fun q x u => ∃ k : Nat, k + q = l.length ∧ x = .int .i64 k ∧ u = w ∧ listC cmpS (l.drop k) (r.drop k) = res)
  case atStart => exact ⟨0, by omega, rfl, rfl, H0.out⟩
  case round =>
    obtain ⟨k, hk, rfl, rfl, hres⟩ := hrel
    have HR := Lib.hid hres
    clear hres
    cases gk with
    | zero =>
      obtain rfl : k = l.length := by omega
      have hge : ¬ ((l.length : Int) < (l.length : Int)) := by omega
      by_cases hlr : l.length < r.length
      · have HV := Lib.hid ((HR.out).symm.trans (HE.out l.length (Nat.le_refl _) hlr))
        have t1 : (l.length : Int) < (r.length : Int) := by omega
        clear HR hlr
        go_wp2
        go_ret
        exact ⟨ret_int HV.out.symm, rfl⟩
      · have HV := Lib.hid ((HR.out).symm.trans (HT.out l.length (Nat.le_refl _) (by omega)))
        have t1 : ¬ ((l.length : Int) < (r.length : Int)) := by omega
        clear HR hlr
        go_wp2
        go_ret
        exact ⟨ret_int HV.out.symm, rfl⟩
    | succ q =>
      have hlt : (k : Int) < (l.length : Int) := by omega
      obtain ⟨x, hx⟩ : ∃ x, l[k]? = some x := ⟨_, List.getElem?_eq_getElem (by omega)⟩
      obtain ⟨b1, o1, rfl, _, c1⟩ := HA.out (by omega)
      have d1 := (c1 k x hx).1
      clear c1
      by_cases hkr : k < r.length
      · obtain ⟨y, hy⟩ : ∃ y, r[k]? = some y := ⟨_, List.getElem?_eq_getElem hkr⟩
        obtain ⟨b2, o2, rfl, _, c2⟩ := HB.out (by omega)
        have d2 := (c2 k y hy).1
        have hlt2 : (k : Int) < (r.length : Int) := by omega
        have HV := Lib.hid ((HR.out).symm.trans (HS.out k x y hx hy))
        have HC := Lib.hid (fun w => cmps x y w)
        clear c2 hx hy hkr
        generalize cmpS x y = cv at *
        by_cases hc : cv = 0
        · subst hc
          have HV2 := Lib.hid (HV.out.trans (if_neg (fun h => h rfl)))
          clear HV
          go_wp2_with (go_at_call 105; refine (HC.out _).mono ?_; rintro e z ⟨rfl, rfl⟩)
          go_roundg q
          case measure => omega
          case rel => exact ⟨k + 1, by omega, by go_num, rfl, HV2.out.symm⟩
        · have HV2 := Lib.hid (HV.out.trans (if_pos hc))
          have t2 : (cv != 0) = true := by simpa using hc
          clear HV hc
          go_wp2_with (go_at_call 105; refine (HC.out _).mono ?_; rintro e z ⟨rfl, rfl⟩)
          go_ret
          exact ⟨ret_int HV2.out.symm, rfl⟩
      · have HV := Lib.hid ((HR.out).symm.trans (HL.out k x hx (by omega)))
        have hge : (r.length : Int) ≤ (k : Int) := by omega
        clear HR hkr hx
        go_wp2
        go_ret
        exact ⟨ret_int HV.out.symm, rfl⟩
def or3 (a b c : Int) : Int := if a ≠ 0 then a else if b ≠ 0 then b else c
set_option maxHeartbeats 1000000 in
theorem or_any (p : Nat) (a b c : Int) (w : World) (h0 : w.cell? ⟨p, 0, none⟩ = some (.int .i64 a)) (h1 : w.cell? ⟨p, 1, none⟩ = some (.int .i64 b)) (h2 : w.cell? ⟨p, 2, none⟩ = some (.int .i64 c)) :
    Calls Tryz.prog 94 #[.slice (some ⟨p, 0, none⟩) 3 3] w fun e w' => e = .returned (.int .i64 (or3 a b c)) ∧ w' = w := by
  have H : Hid (∀ k : Nat, k < 3 → w.cell? ⟨p, k, none⟩ = some (.int .i64 (if k = 0 then a else if k = 1 then b else c))) := Lib.hid fun k hk => by
    match k, hk with
    | 0, _ => exact h0
    | 1, _ => exact h1
    | 2, _ => exact h2
  have HR : Hid (or3 a b c = or3 a b c) := Lib.hid rfl
  clear h0 h1 h2
  go_enter Tryz.func94, Tryz.ntmps94
  go_wp2
  go_loopg [8] 3 (fun q x u => ∃ k : Nat, k + q = 3 ∧ x = .int .i64 k ∧ u = w ∧ ∀ j, j < k → (if j = 0 then a else if j = 1 then b else c) = 0)
  case atStart => exact ⟨0, rfl, rfl, rfl, fun j hj => absurd hj (Nat.not_lt_zero j)⟩
  case round =>
    obtain ⟨k, hk, rfl, rfl, hz⟩ := hrel
    have HZ := Lib.hid hz
    clear hz
    cases gk with
    | zero =>
      have hge : ¬ ((k : Int) < 3) := by omega
      go_wp2
      go_ret
      refine ⟨ret_int ?_, rfl⟩
      have e0 := HZ.out 0 (by omega)
      have e1 := HZ.out 1 (by omega)
      have e2 := HZ.out 2 (by omega)
      simp at e0 e1 e2
      unfold or3
      simp [e0, e1, e2]
    | succ q =>
      have hlt : (k : Int) < 3 := by omega
      have dk := H.out k (by omega)
      have HV : Hid ((if k = 0 then a else if k = 1 then b else c) ≠ 0 → (if k = 0 then a else if k = 1 then b else c) = or3 a b c) := Lib.hid fun hne => by
        have e0 := HZ.out 0
        have e1 := HZ.out 1
        unfold or3
        have h3 : k = 0 ∨ k = 1 ∨ k = 2 := by omega
        rcases h3 with rfl | rfl | rfl
        · simp at hne ⊢; simp [hne]
        · have := e0 (by omega); simp at this hne ⊢; simp [this, hne]
        · have := e0 (by omega); have h4 := e1 (by omega); simp at this h4 hne ⊢; simp [this, h4]
      generalize hg : (if k = 0 then a else if k = 1 then b else c) = cv at *
      by_cases hc : cv = 0
      · have t1 : (cv != 0) = false := by simp [hc]
        go_wp2
        go_roundg q
        case measure => omega
        case rel => exact ⟨k + 1, by omega, by go_num, rfl, fun j hj => by
          by_cases e : j = k
          · rw [e, hg]; exact hc
          · exact HZ.out j (by omega)⟩
      · have t1 : (cv != 0) = true := by simpa using hc
        have HV2 := Lib.hid (HV.out hc)
        clear hc
        go_wp2
        go_ret
        exact ⟨ret_int HV2.out, rfl⟩
def leafK (k : Int) : Bool := decide (1 ≤ k) && decide (k ≤ 4)
theorem leaf_any (k : Int) (w : World) : Calls Tryz.prog 75 #[.int .i64 k] w fun e w' => e = .returned (.bool (leafK k)) ∧ w' = w := by
  unfold leafK
  by_cases h1 : 1 ≤ k
  · by_cases h2 : k ≤ 4
    · have t1 : decide (1 ≤ k) = true := decide_eq_true h1
      have t2 : decide (k ≤ 4) = true := decide_eq_true h2
      rw [t1, t2]
      go_enter Tryz.func75, Tryz.ntmps75
      go_wp2
      go_ret
      exact ⟨rfl, rfl⟩
    · have t1 : decide (1 ≤ k) = true := decide_eq_true h1
      have t2 : decide (k ≤ 4) = false := decide_eq_false h2
      rw [t1, t2]
      go_enter Tryz.func75, Tryz.ntmps75
      go_wp2
      go_ret
      exact ⟨rfl, rfl⟩
  · have t1 : decide (1 ≤ k) = false := decide_eq_false h1
    rw [t1]
    go_enter Tryz.func75, Tryz.ntmps75
    go_wp2
    go_ret
    exact ⟨rfl, rfl⟩
end Go.Proofs.YtpmjcbjdcjjplaaGreat
end
section
namespace Go.Proofs.YtpmjcbjdcjjplaaGreat
open Go Go.RowKit
set_option linter.unusedVariables false
def rowV (k n n' : Int) (f f' : Nat) (s s' : ByteArray) (ns ns' : List ByteArray) : Int :=
  if k = 1 ∨ k = 2 then cmpI n n' else if k = 3 then cmpF f f' else if k = 4 then cmpS s s' else if k = 5 then 0 else if k = 6 then listC cmpS ns ns'
  else or3 (cmpI n n') (cmpS s s') (listC cmpS ns ns')
set_option maxHeartbeats 4000000 in
set_option maxRecDepth 100000 in
theorem row_any (k k' n n' : Int) (f f' : Nat) (s s' : ByteArray) (ns ns' : List ByteArray) (vn vn' vi vi' : Value) (pa pb : Nat) (w : World)
    (ha : w.rangeAt pa 0 [.int .i64 k, .int .i64 n, .float .f64 f, .string s, vn, vi]) (hb : w.rangeAt pb 0 [.int .i64 k', .int .i64 n', .float .f64 f', .string s', vn', vi']) (hl : pa < w.heap.size ∧ pb < w.heap.size)
    (hf : f < 2 ^ 64) (hf' : f' < 2 ^ 64) (hn : SlAt w w.heap.size 1 StrR vn ns) (hn' : SlAt w w.heap.size 1 StrR vn' ns') :
    Calls Tryz.prog 74 #[.pointer (some ⟨pa, 0, none⟩), .pointer (some ⟨pb, 0, none⟩)] w fun e w' => e = .returned (.int .i64 (rowV k n n' f f' s s' ns ns')) ∧ Below w.heap.size w w' := by
  have HL := Lib.hid hl
  have HA := Lib.hid ha
  have HB := Lib.hid hb
  have HN := Lib.hid hn
  have HN' := Lib.hid hn'
  have HF := Lib.hid (And.intro hf hf')
  have d0 : w.cell? ⟨pa, 0, none⟩ = some (.int .i64 k) := by have := ha 0 _ rfl; simpa using this
  have d1 : w.cell? ⟨pa, 1, none⟩ = some (.int .i64 n) := by have := ha 1 _ rfl; simpa using this
  have e1 : w.cell? ⟨pb, 1, none⟩ = some (.int .i64 n') := by have := hb 1 _ rfl; simpa using this
  have d2 : w.cell? ⟨pa, 2, none⟩ = some (.float .f64 f) := by have := ha 2 _ rfl; simpa using this
  have e2 : w.cell? ⟨pb, 2, none⟩ = some (.float .f64 f') := by have := hb 2 _ rfl; simpa using this
  have d3 : w.cell? ⟨pa, 3, none⟩ = some (.string s) := by have := ha 3 _ rfl; simpa using this
  have e3 : w.cell? ⟨pb, 3, none⟩ = some (.string s') := by have := hb 3 _ rfl; simpa using this
  have d4 : w.cell? ⟨pa, 4, none⟩ = some vn := by have := ha 4 _ rfl; simpa using this
  have e4 : w.cell? ⟨pb, 4, none⟩ = some vn' := by have := hb 4 _ rfl; simpa using this
  clear ha hb hl hf hf' hn hn'
  by_cases k1 : k = 1
  · subst k1
    have HV : Hid (rowV 1 n n' f f' s s' ns ns' = cmpI n n') := Lib.hid rfl
    clear d2 e2 d3 e3 d4 e4
    go_enter Tryz.func74, Tryz.ntmps74
    go_wp2
    go_quiet ((go_at_call 90; exact Calls.quiet_of_same (cmp64 n n' _)))
    go_wp2
    go_ret
    exact ⟨ret_int HV.out.symm, below_drewN (Below.refl _ w) _⟩
  by_cases k2 : k = 2
  · subst k2
    have HV : Hid (rowV 2 n n' f f' s s' ns ns' = cmpI n n') := Lib.hid rfl
    clear d2 e2 d3 e3 d4 e4
    go_enter Tryz.func74, Tryz.ntmps74
    go_wp2
    go_quiet ((go_at_call 90; exact Calls.quiet_of_same (cmp64 n n' _)))
    go_wp2
    go_ret
    exact ⟨ret_int HV.out.symm, below_drewN (Below.refl _ w) _⟩
  by_cases k3 : k = 3
  · subst k3
    have HV : Hid (rowV 3 n n' f f' s s' ns ns' = cmpF f f') := Lib.hid rfl
    clear d1 e1 d3 e3 d4 e4
    go_enter Tryz.func74, Tryz.ntmps74
    go_wp2
    go_quiet ((go_at_call 91; exact Calls.quiet_of_same (forder_any f f' HF.out.1 HF.out.2 _)))
    go_wp2
    go_ret
    exact ⟨ret_int HV.out.symm, below_drewN (Below.refl _ w) _⟩
  by_cases k4 : k = 4
  · subst k4
    have HV : Hid (rowV 4 n n' f f' s s' ns ns' = cmpS s s') := Lib.hid rfl
    clear d1 e1 d2 e2 d4 e4
    go_enter Tryz.func74, Tryz.ntmps74
    go_wp2
    go_quiet ((go_at_call 92; exact Calls.quiet_of_same (strcmp s s' _)))
    go_wp2
    go_ret
    exact ⟨ret_int HV.out.symm, below_drewN (Below.refl _ w) _⟩
  by_cases k6 : k = 6
  · subst k6
    have HV : Hid (rowV 6 n n' f f' s s' ns ns' = listC cmpS ns ns') := Lib.hid rfl
    clear d1 e1 d2 e2 d3 e3
    go_enter Tryz.func74, Tryz.ntmps74
    go_wp2
    go_quiet ((go_at_call 93; exact Calls.quiet_of_same (slcmp_any vn vn' ns ns' w.heap.size _ (HN.out.below (below_drewN (Below.refl _ w) _) fun _ _ _ h => h) (HN'.out.below (below_drewN (Below.refl _ w) _) fun _ _ _ h => h))))
    go_wp2
    go_ret
    exact ⟨ret_int HV.out.symm, below_drewN (Below.refl _ w) _⟩
  by_cases k5 : k = 5
  · subst k5
    have HV : Hid (rowV 5 n n' f f' s s' ns ns' = 0) := Lib.hid rfl
    clear d1 e1 d2 e2 d3 e3 d4 e4
    go_enter Tryz.func74, Tryz.ntmps74
    go_wp2
    go_ret
    exact ⟨ret_int HV.out.symm, Below.refl _ w⟩
  have HV : Hid (rowV k n n' f f' s s' ns ns' = or3 (cmpI n n') (cmpS s s') (listC cmpS ns ns')) := Lib.hid (by unfold rowV; rw [if_neg (by omega), if_neg k3, if_neg k4, if_neg k5, if_neg k6])
  have t1 : (k == 1) = false := by simpa using k1
  have t2 : (k == 2) = false := by simpa using k2
  have t3 : (k == 3) = false := by simpa using k3
  have t4 : (k == 4) = false := by simpa using k4
  have t5 : (k == 5) = false := by simpa using k5
  have t6 : (k == 6) = false := by simpa using k6
  clear d1 e1 d2 e2 d3 e3 d4 e4 k1 k2 k3 k4 k5 k6
  go_enter Tryz.func74, Tryz.ntmps74
  go_upto_region 13 with (fail)
  clear d0 t1 t2 t3 t4 t5 t6
  refine wp_region_ord [(0, true), (1, true), (2, true), (3, true), (4, true), (5, true), (6, true), (7, true), (9, true), (10, true), (11, true), (12, true), (13, true), (14, true), (15, true), (16, true), (18, true), (19, true), (20, true), (21, true), (22, true), (23, true), (24, true), (25, true), (8, false), (17, false), (26, false), (27, false), (28, false), (29, true)]
    (fun z => Below w.heap.size w z) (by kernel_rfl) (by kernel_rfl) (by kernel_rfl) rfl (by intro c a d v w h; cases d <;> exact h) ?_
  have hs : Below w.heap.size w w.drew := (Below.refl _ w).drew
  have HCA : Hid (∀ z, Below w.heap.size w z → ∀ (i : Nat) v, ([.int .i64 k, .int .i64 n, .float .f64 f, .string s, vn, vi] : List Value)[i]? = some v → z.cell? ⟨pa, i, none⟩ = some v) := Lib.hid fun z hz i v hv => by have := HA.out i v hv; rw [Nat.zero_add] at this; exact (hz.cell (p := ⟨pa, i, none⟩) HL.out.1).trans this
  have HCB : Hid (∀ z, Below w.heap.size w z → ∀ (i : Nat) v, ([.int .i64 k', .int .i64 n', .float .f64 f', .string s', vn', vi'] : List Value)[i]? = some v → z.cell? ⟨pb, i, none⟩ = some v) := Lib.hid fun z hz i v hv => by have := HB.out i v hv; rw [Nat.zero_add] at this; exact (hz.cell (p := ⟨pb, i, none⟩) HL.out.2).trans this
  refine ord_move (some 57) (.pointer (some ⟨pa, 0, none⟩)) _ _ rfl rfl rfl (by exact wantA rfl) hs rfl ?_
  go_frame
  refine ord_load (some 58) (.pointer (some ⟨pa, 0, none⟩)) _ rfl rfl (by exact wantA rfl) hs (fun z hz => by go_simp) ?_
  go_frame
  refine ord_load (some 59) (.pointer (some ⟨pa, 1, none⟩)) _ rfl rfl (by exact wantA rfl) hs (fun z hz => by go_simp) ?_
  go_frame
  refine ord_load (some 60) (.int .i64 n) _ rfl rfl (by exact wantA rfl) hs (fun z hz => by have dd := HCA.out z hz 1 (.int .i64 n) rfl; go_simp) ?_
  go_frame
  refine ord_move (some 61) (.pointer (some ⟨pb, 0, none⟩)) _ _ rfl rfl rfl (by exact wantA rfl) hs rfl ?_
  go_frame
  refine ord_load (some 62) (.pointer (some ⟨pb, 0, none⟩)) _ rfl rfl (by exact wantA rfl) hs (fun z hz => by go_simp) ?_
  go_frame
  refine ord_load (some 63) (.pointer (some ⟨pb, 1, none⟩)) _ rfl rfl (by exact wantA rfl) hs (fun z hz => by go_simp) ?_
  go_frame
  refine ord_load (some 64) (.int .i64 n') _ rfl rfl (by exact wantA rfl) hs (fun z hz => by have dd := HCB.out z hz 1 (.int .i64 n') rfl; go_simp) ?_
  go_frame
  refine ord_move (some 66) (.pointer (some ⟨pa, 0, none⟩)) _ _ rfl rfl rfl (by exact wantA rfl) hs rfl ?_
  go_frame
  refine ord_load (some 67) (.pointer (some ⟨pa, 0, none⟩)) _ rfl rfl (by exact wantA rfl) hs (fun z hz => by go_simp) ?_
  go_frame
  refine ord_load (some 68) (.pointer (some ⟨pa, 3, none⟩)) _ rfl rfl (by exact wantA rfl) hs (fun z hz => by go_simp) ?_
  go_frame
  refine ord_load (some 69) (.string s) _ rfl rfl (by exact wantA rfl) hs (fun z hz => by have dd := HCA.out z hz 3 (.string s) rfl; go_simp) ?_
  go_frame
  refine ord_move (some 70) (.pointer (some ⟨pb, 0, none⟩)) _ _ rfl rfl rfl (by exact wantA rfl) hs rfl ?_
  go_frame
  refine ord_load (some 71) (.pointer (some ⟨pb, 0, none⟩)) _ rfl rfl (by exact wantA rfl) hs (fun z hz => by go_simp) ?_
  go_frame
  refine ord_load (some 72) (.pointer (some ⟨pb, 3, none⟩)) _ rfl rfl (by exact wantA rfl) hs (fun z hz => by go_simp) ?_
  go_frame
  refine ord_load (some 73) (.string s') _ rfl rfl (by exact wantA rfl) hs (fun z hz => by have dd := HCB.out z hz 3 (.string s') rfl; go_simp) ?_
  go_frame
  refine ord_move (some 75) (.pointer (some ⟨pa, 0, none⟩)) _ _ rfl rfl rfl (by exact wantA rfl) hs rfl ?_
  go_frame
  refine ord_load (some 76) (.pointer (some ⟨pa, 0, none⟩)) _ rfl rfl (by exact wantA rfl) hs (fun z hz => by go_simp) ?_
  go_frame
  refine ord_load (some 77) (.pointer (some ⟨pa, 4, none⟩)) _ rfl rfl (by exact wantA rfl) hs (fun z hz => by go_simp) ?_
  go_frame
  refine ord_load (some 78) vn _ rfl rfl (by exact wantA rfl) hs (fun z hz => by have dd := HCA.out z hz 4 vn rfl; go_simp) ?_
  go_frame
  refine ord_move (some 79) (.pointer (some ⟨pb, 0, none⟩)) _ _ rfl rfl rfl (by exact wantA rfl) hs rfl ?_
  go_frame
  refine ord_load (some 80) (.pointer (some ⟨pb, 0, none⟩)) _ rfl rfl (by exact wantA rfl) hs (fun z hz => by go_simp) ?_
  go_frame
  refine ord_load (some 81) (.pointer (some ⟨pb, 4, none⟩)) _ rfl rfl (by exact wantA rfl) hs (fun z hz => by go_simp) ?_
  go_frame
  refine ord_load (some 82) vn' _ rfl rfl (by exact wantA rfl) hs (fun z hz => by have dd := HCB.out z hz 4 vn' rfl; go_simp) ?_
  go_frame
  refine ord_to (some 65) 90 Tryz.func90 (by kernel_rfl) (by kernel_rfl) [.int .i64 n, .int .i64 n'] _ _ _ rfl rfl rfl (by exact wantA rfl) rfl ?_
  refine (cmp64 n n' _).mono ?_
  rintro e z1 ⟨rfl, rfl⟩
  refine ⟨.int .i64 (cmpI n n'), rfl, hs, ?_⟩
  go_frame
  refine ord_to (some 74) 92 Tryz.func92 (by kernel_rfl) (by kernel_rfl) [.string s, .string s'] _ _ _ rfl rfl rfl (by exact wantA rfl) rfl ?_
  refine (strcmp s s' _).mono ?_
  rintro e z1 ⟨rfl, rfl⟩
  refine ⟨.int .i64 (cmpS s s'), rfl, hs, ?_⟩
  go_frame
  refine ord_to (some 83) 93 Tryz.func93 (by kernel_rfl) (by kernel_rfl) [vn, vn'] _ _ _ rfl rfl rfl (by exact wantA rfl) rfl ?_
  refine (slcmp_any vn vn' ns ns' w.heap.size _ (HN.out.below hs fun _ _ _ h => h) (HN'.out.below hs fun _ _ _ h => h)).mono ?_
  rintro e z1 ⟨rfl, rfl⟩
  refine ⟨.int .i64 (listC cmpS ns ns'), rfl, hs, ?_⟩
  go_frame
  generalize cmpI n n' = r1 at *
  generalize cmpS s s' = r2 at *
  generalize listC cmpS ns ns' = r3 at *
  have hs2 : Below w.heap.size w (w.drew.alloc (.cells #[.int .i64 r1, .int .i64 r2, .int .i64 r3] 3)) := hs.alloc hs.size _
  have hce := cells_box w.drew [.int .i64 r1, .int .i64 r2, .int .i64 r3] 3
  refine ord_run (some 84) (.slice (some ⟨w.drew.heap.size, 0, none⟩) 3 3) (w.drew.alloc (.cells #[.int .i64 r1, .int .i64 r2, .int .i64 r3] 3)) _ rfl rfl (by exact wantA rfl) (by go_simp) hs2 ?_
  go_frame
  refine ord_to (some 85) 94 Tryz.func94 (by kernel_rfl) (by kernel_rfl) [.slice (some ⟨w.drew.heap.size, 0, none⟩) 3 3] _ _ _ rfl rfl rfl (by exact wantA rfl) rfl ?_
  refine (or_any _ r1 r2 r3 _ (hce 0 _ rfl) (hce 1 _ rfl) (hce 2 _ rfl)).mono ?_
  rintro e z1 ⟨rfl, rfl⟩
  refine ⟨.int .i64 (or3 r1 r2 r3), rfl, hs2, ?_⟩
  go_frame
  refine ord_assign (some 4) (.int .i64 (or3 r1 r2 r3)) _ _ rfl rfl rfl (by exact wantA rfl) hs2 rfl ?_
  go_frame
  refine ord_end ?_
  have HBF := Lib.hid hs2
  clear hs hs2 hce
  go_wp2
  go_ret
  exact ⟨ret_int HV.out.symm, HBF.out⟩
end Go.Proofs.YtpmjcbjdcjjplaaGreat
end
