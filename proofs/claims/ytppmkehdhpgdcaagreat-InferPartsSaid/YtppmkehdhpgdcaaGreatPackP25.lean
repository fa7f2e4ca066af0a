/- Parts of a proof: VCmp, VFlt, VRow, VRow2, VOrd, VRowP. -/
import Derived.Test.YtppmkehdhpgdcaaGreatPackP13
import Derived.Test.YtppmkehdhpgdcaaGreatPackP20
import Derived.Test.YtppmkehdhpgdcaaGreatPackP23
import Derived.Test.YtppmkehdhpgdcaaGreatPackP24
section
namespace Go.Proofs.YtppmkehdhpgdcaaGreat
open Go Go.RowKit
set_option linter.unusedVariables false
theorem toList_eq (a : ByteArray) : a.toList = a.data.toList := ByteArray.toList_eq a
theorem less_cmp : ∀ a b : List UInt8, (Op.bytesLess a b = true ↔ Lib.compareBytes a b = -1) ∧ ((a == b) = true ↔ Lib.compareBytes a b = 0)
  | [], [] => by decide
  | [], _ :: _ => by simp [Op.bytesLess, Lib.compareBytes]
  | _ :: _, [] => by simp [Op.bytesLess, Lib.compareBytes]
  | a :: l, b :: r => by
    obtain ⟨h1, h2⟩ := less_cmp l r
    unfold Op.bytesLess Lib.compareBytes
    rcases u8_tri a b with h | h | h
    · have : a ≠ b := fun e => by subst e; exact UInt8.lt_irrefl a h
      simp [h, this]
    · subst h
      simp [UInt8.lt_irrefl]
      exact ⟨h1, by rw [← beq_iff_eq (a := l)]; exact h2⟩
    · have h3 := UInt8.lt_asymm h
      have : a ≠ b := fun e => by subst e; exact UInt8.lt_irrefl a h
      simp [h, h3, this]
theorem compareBytes_val : ∀ a b : List UInt8, Lib.compareBytes a b = -1 ∨ Lib.compareBytes a b = 0 ∨ Lib.compareBytes a b = 1
  | [], [] => .inr (.inl rfl)
  | [], _ :: _ => .inl rfl
  | _ :: _, [] => .inr (.inr rfl)
  | a :: l, b :: r => by
    unfold Lib.compareBytes
    split
    · exact .inl rfl
    · split
      · exact .inr (.inr rfl)
      · exact compareBytes_val l r
end Go.Proofs.YtppmkehdhpgdcaaGreat
end
section
namespace Go.Proofs.YtppmkehdhpgdcaaGreat
open Go Go.RowKit
set_option linter.unusedVariables false
theorem wf64 {a : Nat} (h : (Lit.float .f64 a).wf = true) : a < 2 ^ 64 := by
  simpa [Lit.wf] using h
open Ieee in
theorem zero_two {a : Nat} (h : a < 2 ^ 64) (he : (fOrd a 0 == some .eq) = true) : a = 0 ∨ a = 2 ^ 63 := by
  rw [beq_iff_eq, ordB_eq] at he
  have h0 : dat 0 = .number false 0 (-1074) := by decide +kernel
  have hs : FloatKind.f64.format.signWeight = 2 ^ 63 := by decide +kernel
  have hb : FloatKind.f64.format.binade = 2 ^ 52 := by decide +kernel
  rw [h0] at he
  unfold dat Format.read at he
  dsimp only at he
  rw [hs, hb] at he
  have key : ∀ (s : Bool) (m : Nat) (i : Int), -1074 ≤ i → Datum.order (.number s m i) (.number false 0 (-1074)) = some .eq → m = 0 := by
    intro s m i hi h
    have := (order_cmp (.number s m i) (.number false 0 (-1074)) hi (by show (-1074 : Int) ≤ -1074; omega) rfl rfl).2.1.1 h
    unfold cmpD at this
    rw [if_neg (by simp [clsD, cmpI])] at this
    have h2 := cmpI_val (valD (.number s m i)) (valD (.number false 0 (-1074)))
    have h3 : valD (.number s m i) = 0 := by
      have : valD (.number false 0 (-1074)) = 0 := by decide +kernel
      omega
    have h4 : (m <<< (i + 1074).toNat : Nat) = 0 := by
      have h5 : signed s m (i + 1074).toNat = 0 := h3
      unfold signed at h5
      cases s <;> simp at h5 <;> simpa using h5
    rw [Nat.shiftLeft_eq] at h4
    rcases Nat.mul_eq_zero.1 h4 with h | h
    · exact h
    · have : 0 < 2 ^ (i + 1074).toNat := Nat.two_pow_pos _
      omega
  have hp : FloatKind.f64.format.leastPlace = -1074 := by decide +kernel
  split at he
  · have := key _ _ _ (by rw [hp]; omega) he
    omega
  · split at he
    · have := key _ _ _ (by rw [hp]; omega) he
      omega
    · split at he
      · exfalso
        revert he
        cases (a / 2 ^ 63 % 2 == 1) <;> simp [Datum.order]
      · simp [Datum.order] at he
def nanI (a : Nat) : Int := if nanB a = true then 1 else 0
theorem rank_any (a : Nat) (ha : a < 2 ^ 64) (w : World) : Calls Tryz.prog 139 #[.float .f64 a] w fun e w' => e = .returned (.tuple #[.int .i64 (nanI a), .int .i64 (rankZ a)]) ∧ w' = w := by
  have hn0 : nanB a = (FloatKind.f64.format.order a a != some .eq) := rfl
  cases hn : nanB a with
  | true =>
    have hz : rankZ a = 0 := rankZ_nan a (by have := nanB_eq a; rw [hn] at this; simpa using this.symm)
    have hi : nanI a = 1 := by unfold nanI; rw [hn]; rfl
    rw [hz, hi]
    have t1 : (FloatKind.f64.format.order a a != some .eq) = true := hn0.symm.trans hn
    clear hn0 hn hz hi
    go_enter Tryz.func139, Tryz.ntmps139
    go_wp2
    go_ret2
    exact ⟨rfl, rfl⟩
  | false =>
    have hi : nanI a = 0 := by unfold nanI; rw [hn]; rfl
    rw [hi]
    have t1 : (FloatKind.f64.format.order a a != some .eq) = false := hn0.symm.trans hn
    clear hn0 hn hi
    by_cases h0 : (fOrd a 0 == some .eq) = true
    · rcases zero_two ha h0 with rfl | rfl
      · have hz : rankZ 0 = 0 := by unfold rankZ; simp
        rw [hz]
        have t2 : (FloatKind.f64.format.order 0 0 == some .eq) = true := by decide +kernel
        have hq : ∀ (t : TypeId) (w : World), (binOp .quo t (.float .f64 4607182418800017408) (.float .f64 0)).run Tryz.prog w = .ok (.float .f64 9218868437227405312) w := fun t w => run_float_arith w .quo t .f64 _ _ _ (by decide +kernel)
        have t3 : (FloatKind.f64.format.order 9218868437227405312 0 == some .lt) = false := by decide +kernel
        clear h0 hz ha
        go_enter Tryz.func139, Tryz.ntmps139
        go_wp2
        go_ret2
        exact ⟨rfl, rfl⟩
      · have hz : rankZ (2 ^ 63) = -1 := by unfold rankZ; rw [if_pos ⟨h0, by decide⟩]
        rw [hz]
        have e63 : (2 ^ 63 : Nat) = 9223372036854775808 := by decide
        rw [e63] at t1 h0 ⊢
        have t2 : (FloatKind.f64.format.order 9223372036854775808 0 == some .eq) = true := h0
        have hq : ∀ (t : TypeId) (w : World), (binOp .quo t (.float .f64 4607182418800017408) (.float .f64 9223372036854775808)).run Tryz.prog w = .ok (.float .f64 18442240474082181120) w := fun t w => run_float_arith w .quo t .f64 _ _ _ (by decide +kernel)
        have t3 : (FloatKind.f64.format.order 18442240474082181120 0 == some .lt) = true := by decide +kernel
        clear h0 hz ha
        go_enter Tryz.func139, Tryz.ntmps139
        go_wp2
        go_ret2
        exact ⟨rfl, rfl⟩
    · have hz : rankZ a = 0 := by unfold rankZ; rw [if_neg (fun h => h0 h.1)]
      have t2 : (FloatKind.f64.format.order a 0 == some .eq) = false := by rw [Bool.eq_false_iff]; exact h0
      rw [hz]
      clear h0 hz
      go_enter Tryz.func139, Tryz.ntmps139
      go_wp2
      go_ret2
      exact ⟨rfl, rfl⟩
theorem nanI_of {a : Nat} {b : Bool} (h : nanB a = b) : nanI a = if b = true then 1 else 0 := by unfold nanI; rw [h]
set_option maxHeartbeats 1000000 in
set_option maxRecDepth 100000 in
theorem forder_any (a b : Nat) (ha : a < 2 ^ 64) (hb : b < 2 ^ 64) (w : World) : Calls Tryz.prog 110 #[.float .f64 a, .float .f64 b] w fun e w' => e = .returned (.int .i64 (cmpF a b)) ∧ w' = w := by
  have HA := Lib.hid (fun w => rank_any a ha w)
  have HB := Lib.hid (fun w => rank_any b hb w)
  clear ha hb
  cases hn : nanB a with
  | true =>
    rw [nanI_of hn] at HA
    cases hm : nanB b with
    | true =>
      rw [nanI_of hm] at HB
      have hr : cmpF a b = 0 := by unfold cmpF; rw [hn, hm]; rfl
      rw [hr]
      clear hn hm hr
      simp only [if_true] at HA HB
      go_enter Tryz.func110, Tryz.ntmps110
      go_wp2_with (first | (go_at_call 139; with_reducible refine (HA.out _).mono ?_; rintro e z ⟨rfl, rfl⟩) | (go_at_call 139; with_reducible refine (HB.out _).mono ?_; rintro e z ⟨rfl, rfl⟩))
      go_ret
      exact ⟨rfl, rfl⟩
    | false =>
      rw [nanI_of hm] at HB
      have hr : cmpF a b = 1 := by unfold cmpF; rw [hn, hm]; rfl
      rw [hr]
      clear hn hm hr
      simp only [if_true, Bool.false_eq_true, if_false] at HA HB
      go_enter Tryz.func110, Tryz.ntmps110
      go_wp2_with (first | (go_at_call 139; with_reducible refine (HA.out _).mono ?_; rintro e z ⟨rfl, rfl⟩) | (go_at_call 139; with_reducible refine (HB.out _).mono ?_; rintro e z ⟨rfl, rfl⟩))
      go_ret
      exact ⟨rfl, rfl⟩
  | false =>
    rw [nanI_of hn] at HA
    cases hm : nanB b with
    | true =>
      rw [nanI_of hm] at HB
      have hr : cmpF a b = -1 := by unfold cmpF; rw [hn, hm]; rfl
      rw [hr]
      clear hn hm hr
      simp only [if_true, Bool.false_eq_true, if_false] at HA HB
      go_enter Tryz.func110, Tryz.ntmps110
      go_wp2_with (first | (go_at_call 139; with_reducible refine (HA.out _).mono ?_; rintro e z ⟨rfl, rfl⟩) | (go_at_call 139; with_reducible refine (HB.out _).mono ?_; rintro e z ⟨rfl, rfl⟩))
      go_ret
      exact ⟨rfl, rfl⟩
    | false =>
      rw [nanI_of hm] at HB
      simp only [Bool.false_eq_true, if_false] at HA HB
      have hr : cmpF a b = if (fOrd a b == some .lt) = true ∨ (fOrd a b == some .eq) = true ∧ rankZ a < rankZ b then -1
          else if (fOrd a b == some .gt) = true ∨ (fOrd a b == some .eq) = true ∧ rankZ b < rankZ a then 1 else 0 := by unfold cmpF; rw [hn, hm]; rfl
      clear hn hm
      rcases ho : fOrd a b with _ | ⟨_ | _ | _⟩
      · have hr2 : cmpF a b = 0 := by rw [hr, ho]; rfl
        rw [hr2]
        clear hr hr2
        have t1 : (FloatKind.f64.format.order a b == some .lt) = false := by rw [show FloatKind.f64.format.order a b = _ from ho]; rfl
        have t2 : (FloatKind.f64.format.order a b == some .eq) = false := by rw [show FloatKind.f64.format.order a b = _ from ho]; rfl
        have t3 : (FloatKind.f64.format.order a b == some .gt) = false := by rw [show FloatKind.f64.format.order a b = _ from ho]; rfl
        clear ho
        go_enter Tryz.func110, Tryz.ntmps110
        go_wp2_with (first | (go_at_call 139; with_reducible refine (HA.out _).mono ?_; rintro e z ⟨rfl, rfl⟩) | (go_at_call 139; with_reducible refine (HB.out _).mono ?_; rintro e z ⟨rfl, rfl⟩))
        go_ret
        exact ⟨rfl, rfl⟩
      · have hr2 : cmpF a b = (-1) := by rw [hr, ho]; rfl
        rw [hr2]
        clear hr hr2
        have t1 : (FloatKind.f64.format.order a b == some .lt) = true := by rw [show FloatKind.f64.format.order a b = _ from ho]; rfl
        have t2 : (FloatKind.f64.format.order a b == some .eq) = false := by rw [show FloatKind.f64.format.order a b = _ from ho]; rfl
        have t3 : (FloatKind.f64.format.order a b == some .gt) = false := by rw [show FloatKind.f64.format.order a b = _ from ho]; rfl
        clear ho
        go_enter Tryz.func110, Tryz.ntmps110
        go_wp2_with (first | (go_at_call 139; with_reducible refine (HA.out _).mono ?_; rintro e z ⟨rfl, rfl⟩) | (go_at_call 139; with_reducible refine (HB.out _).mono ?_; rintro e z ⟨rfl, rfl⟩))
        go_ret
        exact ⟨rfl, rfl⟩
      · rcases Int.lt_trichotomy (rankZ a) (rankZ b) with hz | hz | hz
        · have hr2 : cmpF a b = (-1) := by rw [hr, ho]; simp [hz]
          rw [hr2]
          clear hr hr2
          have t1 : (FloatKind.f64.format.order a b == some .lt) = false := by rw [show FloatKind.f64.format.order a b = _ from ho]; rfl
          have t2 : (FloatKind.f64.format.order a b == some .eq) = true := by rw [show FloatKind.f64.format.order a b = _ from ho]; rfl
          have t3 : (FloatKind.f64.format.order a b == some .gt) = false := by rw [show FloatKind.f64.format.order a b = _ from ho]; rfl
          clear ho
          have hz2 : ¬ rankZ b < rankZ a := by omega
          go_enter Tryz.func110, Tryz.ntmps110
          go_wp2_with (first | (go_at_call 139; with_reducible refine (HA.out _).mono ?_; rintro e z ⟨rfl, rfl⟩) | (go_at_call 139; with_reducible refine (HB.out _).mono ?_; rintro e z ⟨rfl, rfl⟩))
          go_ret
          exact ⟨rfl, rfl⟩
        · have hr2 : cmpF a b = 0 := by rw [hr, ho]; simp [hz]
          rw [hr2]
          clear hr hr2
          have t1 : (FloatKind.f64.format.order a b == some .lt) = false := by rw [show FloatKind.f64.format.order a b = _ from ho]; rfl
          have t2 : (FloatKind.f64.format.order a b == some .eq) = true := by rw [show FloatKind.f64.format.order a b = _ from ho]; rfl
          have t3 : (FloatKind.f64.format.order a b == some .gt) = false := by rw [show FloatKind.f64.format.order a b = _ from ho]; rfl
          clear ho
          rw [hz] at HA
          have hz2 : ¬ rankZ b < rankZ b := Int.lt_irrefl _
          go_enter Tryz.func110, Tryz.ntmps110
          go_wp2_with (first | (go_at_call 139; with_reducible refine (HA.out _).mono ?_; rintro e z ⟨rfl, rfl⟩) | (go_at_call 139; with_reducible refine (HB.out _).mono ?_; rintro e z ⟨rfl, rfl⟩))
          go_ret
          exact ⟨rfl, rfl⟩
        · have hr2 : cmpF a b = 1 := by rw [hr, ho]; simp [show ¬ rankZ a < rankZ b by omega, hz]
          rw [hr2]
          clear hr hr2
          have t1 : (FloatKind.f64.format.order a b == some .lt) = false := by rw [show FloatKind.f64.format.order a b = _ from ho]; rfl
          have t2 : (FloatKind.f64.format.order a b == some .eq) = true := by rw [show FloatKind.f64.format.order a b = _ from ho]; rfl
          have t3 : (FloatKind.f64.format.order a b == some .gt) = false := by rw [show FloatKind.f64.format.order a b = _ from ho]; rfl
          clear ho
          have hz2 : ¬ rankZ a < rankZ b := by omega
          go_enter Tryz.func110, Tryz.ntmps110
          go_wp2_with (first | (go_at_call 139; with_reducible refine (HA.out _).mono ?_; rintro e z ⟨rfl, rfl⟩) | (go_at_call 139; with_reducible refine (HB.out _).mono ?_; rintro e z ⟨rfl, rfl⟩))
          go_ret
          exact ⟨rfl, rfl⟩
      · have hr2 : cmpF a b = 1 := by rw [hr, ho]; rfl
        rw [hr2]
        clear hr hr2
        have t1 : (FloatKind.f64.format.order a b == some .lt) = false := by rw [show FloatKind.f64.format.order a b = _ from ho]; rfl
        have t2 : (FloatKind.f64.format.order a b == some .eq) = false := by rw [show FloatKind.f64.format.order a b = _ from ho]; rfl
        have t3 : (FloatKind.f64.format.order a b == some .gt) = true := by rw [show FloatKind.f64.format.order a b = _ from ho]; rfl
        clear ho
        go_enter Tryz.func110, Tryz.ntmps110
        go_wp2_with (first | (go_at_call 139; with_reducible refine (HA.out _).mono ?_; rintro e z ⟨rfl, rfl⟩) | (go_at_call 139; with_reducible refine (HB.out _).mono ?_; rintro e z ⟨rfl, rfl⟩))
        go_ret
        exact ⟨rfl, rfl⟩
end Go.Proofs.YtppmkehdhpgdcaaGreat
end
section
namespace Go.Proofs.YtppmkehdhpgdcaaGreat
open Go Go.RowKit
set_option linter.unusedVariables false
section
variable {α : Type} {f : α → α → Int} {l r : List α} {k : Nat} {x y : α}
theorem drop_at (h : l[k]? = some x) : l.drop k = x :: l.drop (k + 1) := by
  obtain ⟨h1, h2⟩ := List.getElem?_eq_some_iff.1 h
  rw [← h2]; exact List.drop_eq_getElem_cons h1
theorem listC_step (hx : l[k]? = some x) (hy : r[k]? = some y) : listC f (l.drop k) (r.drop k) = if f x y ≠ 0 then f x y else listC f (l.drop (k + 1)) (r.drop (k + 1)) := by
  rw [drop_at hx, drop_at hy]; rfl
theorem listC_long (hx : l[k]? = some x) (hr : r.length ≤ k) : listC f (l.drop k) (r.drop k) = 1 := by
  rw [drop_at hx, List.drop_eq_nil_of_le hr]; rfl
theorem listC_end (hl : l.length ≤ k) (hr : k < r.length) : listC f (l.drop k) (r.drop k) = -1 := by
  rw [List.drop_eq_nil_of_le hl, List.drop_eq_getElem_cons hr]; rfl
theorem listC_both (hl : l.length ≤ k) (hr : r.length ≤ k) : listC f (l.drop k) (r.drop k) = 0 := by
  rw [List.drop_eq_nil_of_le hl, List.drop_eq_nil_of_le hr]; rfl
end
theorem str_at {w : World} {B : Nat} {A : Option Addr} {n c : Nat} {l : List ByteArray} (h : SlAt w B 1 StrR (.slice A n c) l) : n = l.length ∧ l.length ≤ 9223372036854775807 ∧ (0 < l.length → ∃ b o, A = some ⟨b, o, none⟩ ∧ b < B ∧ ∀ (i : Nat) x, l[i]? = some x → w.cell? ⟨b, o + i, none⟩ = some (.string x) ∧ x.size ≤ maxLen) := by
  obtain ⟨h0, A', c', h1, h2⟩ := h
  injection h1 with h1 h3 h4
  subst h1 h3
  refine ⟨rfl, h0, fun hp => ?_⟩
  obtain ⟨b, o, rfl, hb, h5⟩ := h2 hp
  refine ⟨b, o, rfl, hb, fun i x hx => ?_⟩
  obtain ⟨cs, h6, h7, h8, h9⟩ := h5 i x hx
  subst h8
  have := h7 0 (.string x) rfl
  rw [Nat.mul_one, Nat.add_zero] at this
  exact ⟨this, h9⟩
def or3 (a b c : Int) : Int := if a ≠ 0 then a else if b ≠ 0 then b else c
def leafK (k : Int) : Bool := decide (1 ≤ k) && decide (k ≤ 4)
end Go.Proofs.YtppmkehdhpgdcaaGreat
end
section
namespace Go.Proofs.YtppmkehdhpgdcaaGreat
open Go Go.RowKit
set_option linter.unusedVariables false
def rowV (k n n' : Int) (f f' : Nat) (s s' : ByteArray) (ns ns' : List ByteArray) : Int :=
  if k = 1 ∨ k = 2 then cmpI n n' else if k = 3 then cmpF f f' else if k = 4 then cmpS s s' else if k = 5 then 0 else if k = 6 then listC cmpS ns ns'
  else or3 (cmpI n n') (cmpS s s') (listC cmpS ns ns')
end Go.Proofs.YtppmkehdhpgdcaaGreat
end
section
namespace Go.Proofs.YtppmkehdhpgdcaaGreat
open Go Go.RowKit
set_option linter.unusedVariables false
mutual
def ordV : VT → VT → Int
  | .mk k n f s ns its, .mk k' n' f' s' ns' its' =>
    if cmpI k k' ≠ 0 then cmpI k k' else if rowV k n n' f f' s s' ns ns' ≠ 0 ∨ leafK k = true then rowV k n n' f f' s s' ns ns' else ordL its its'
def ordL : List VT → List VT → Int
  | [], [] => 0
  | [], _ :: _ => -1
  | _ :: _, [] => 1
  | a :: l, b :: r => if ordV a b ≠ 0 then ordV a b else ordL l r
end
theorem ordL_eq : ∀ l r : List VT, ordL l r = listC ordV l r
  | [], [] => by simp [ordL, listC]
  | [], _ :: _ => by simp [ordL, listC]
  | _ :: _, [] => by simp [ordL, listC]
  | a :: l, b :: r => by
    rw [ordL, listC, ordL_eq l r]
theorem val_one {w : World} {B : Nat} {cs : List Value} {t : VT} (h : ValAt w B cs t) : cs.length = 6 ∧ ∀ u ∈ cs, u.oneCell' = true := by
  cases t with
  | mk k n f s ns its =>
    obtain ⟨vn, vi, rfl, _, _, _, _, h1, _, h2⟩ := h.inv
    obtain ⟨_, A, c, rfl, _⟩ := h1
    obtain ⟨_, A', c', rfl, _⟩ := h2
    refine ⟨rfl, fun u hu => ?_⟩
    simp only [List.mem_cons, List.not_mem_nil, or_false] at hu
    rcases hu with rfl | rfl | rfl | rfl | rfl | rfl <;> rfl
theorem ValAt.next {w w' : World} {cs : List Value} {t : VT} (h : ValAt w w.heap.size cs t) (hb : Below w.heap.size w w') : ValAt w' w'.heap.size cs t := (h.under hb).more hb.size
theorem vals_at {w : World} {v : Value} {l : List VT} (h : SlAt w w.heap.size 6 (ValAt w w.heap.size) v l) : ∃ A c, v = .slice A l.length c ∧ l.length ≤ 9223372036854775807 ∧
    (0 < l.length → ∃ b o, A = some ⟨b, o, none⟩ ∧ b < w.heap.size ∧ ∀ (i : Nat) x, l[i]? = some x → ∃ cs : List Value, w.rangeAt b (o + i * 6) cs ∧ ValAt w w.heap.size cs x) := by
  obtain ⟨h0, A, c, h1, h2⟩ := h
  refine ⟨A, c, h1, h0, fun hp => ?_⟩
  obtain ⟨b, o, h3, h4, h5⟩ := h2 hp
  refine ⟨b, o, h3, h4, fun i x hx => ?_⟩
  obtain ⟨cs, _, h7, h8⟩ := h5 i x hx
  exact ⟨cs, h7, h8⟩
end Go.Proofs.YtppmkehdhpgdcaaGreat
end
section
namespace Go.Proofs.YtppmkehdhpgdcaaGreat
open Go
set_option linter.unusedVariables false
def VT.kind : VT → Int | .mk k _ _ _ _ _ => k
end Go.Proofs.YtppmkehdhpgdcaaGreat
end
