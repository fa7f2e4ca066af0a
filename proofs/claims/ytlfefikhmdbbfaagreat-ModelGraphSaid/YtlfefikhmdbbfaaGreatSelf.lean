/- The document's order of a value and itself; its sameness of an expression and itself. -/
import Derived.Test.YtlfefikhmdbbfaaGreatWalk
namespace Go.Proofs.YtlfefikhmdbbfaaGreat
open Go Go.RowKit
set_option linter.unusedVariables false
set_option linter.unusedSimpArgs false

theorem less_self : ∀ l : List UInt8, Op.bytesLess l l = false
  | [] => rfl
  | a :: l => by
    have h : ¬ (a < a) := UInt8.lt_irrefl a
    simp [Op.bytesLess, h, less_self l]
theorem text_self (a : ByteArray) (w : World) : Calls Tryz.prog 74 #[.string a, .string a] w fun e w' => e = .returned (.int .i64 0) ∧ w' = w := by
  have t1 : Op.bytesLess a.toList a.toList = false := less_self _
  have t3 : (a.toList == a.toList) = true := beq_self_eq_true _
  go_enter Tryz.func74, Tryz.ntmps74
  go_wp2
  go_ret
  exact ⟨rfl, rfl⟩
theorem sign_self (a : Int) (w : World) : Calls Tryz.prog 72 #[.int .i64 a, .int .i64 a] w fun e w' => e = .returned (.int .i64 0) ∧ w' = w := by
  have t1 : ¬ (a < a) := Int.lt_irrefl a
  go_enter Tryz.func72, Tryz.ntmps72
  go_wp2
  go_ret
  exact ⟨rfl, rfl⟩
theorem strs_at {w : World} {B : Nat} {v : Value} {l : List ByteArray} (h : SlAt w B 1 StrR v l) : ∃ A c, v = .slice A l.length c ∧ l.length ≤ 9223372036854775807 ∧ (0 < l.length → ∃ b o, A = some ⟨b, o, none⟩ ∧ b < B ∧ ∀ (i : Nat) x, l[i]? = some x → w.cell? ⟨b, o + i, none⟩ = some (.string x)) := by
  obtain ⟨h0, A', c', rfl, h2⟩ := h
  refine ⟨_, _, rfl, h0, fun hp => ?_⟩
  obtain ⟨b, o, rfl, hb, h5⟩ := h2 hp
  refine ⟨b, o, rfl, hb, fun i x hx => ?_⟩
  obtain ⟨cs, h6, h7, h8, h9⟩ := h5 i x hx
  subst h8
  have := h7 0 (.string x) rfl
  rw [Nat.mul_one, Nat.add_zero] at this
  exact this
set_option maxHeartbeats 1000000 in
set_option maxRecDepth 100000 in
theorem rows_self (u : Value) (l : List ByteArray) (w : World) (hu : SlAt w w.heap.size 1 StrR u l) :
    Calls Tryz.prog 75 #[u, u] w fun e w' => e = .returned (.int .i64 0) ∧ ∃ m, w' = w.drewN m := by
  obtain ⟨A, ca, rfl, hl, ha⟩ := strs_at hu
  have HA := Lib.hid ha
  have HSG := Lib.hid (fun z => sign_self (l.length : Int) z)
  have hl2 : (l.length : Int) ≤ 9223372036854775807 := by omega
  clear ha hu
  go_enter Tryz.func75, Tryz.ntmps75
  go_wp2
  go_loopg [5] l.length (fun q x u => ∃ k m : Nat, k + q = l.length ∧ x = .int .i64 k ∧ u = w.drewN m)
  case atStart => exact ⟨0, 0, by omega, rfl, rfl⟩
  case round =>
    obtain ⟨k, m, hk, rfl, rfl⟩ := hrel
    cases gk with
    | zero =>
      obtain rfl : k = l.length := by omega
      have hge : ¬ ((l.length : Int) < (l.length : Int)) := by omega
      go_wp2_with (go_at_call 72; refine (HSG.out _).mono ?_; rintro e z ⟨rfl, rfl⟩)
      go_ret
      exact ⟨rfl, _, rfl⟩
    | succ q =>
      have hlt : (k : Int) < (l.length : Int) := by omega
      obtain ⟨x, hx⟩ : ∃ x, l[k]? = some x := ⟨_, List.getElem?_eq_getElem (by omega)⟩
      obtain ⟨b1, o1, rfl, _, c1⟩ := HA.out (by omega)
      obtain ⟨wm, hwm⟩ : ∃ wm, w.drewN m = wm := ⟨_, rfl⟩
      have d1 : wm.cell? ⟨b1, o1 + k, none⟩ = some (.string x) := by rw [← hwm]; exact c1 k x hx
      have HDM : Hid (∀ q, ∃ m', wm.drewN q = w.drewN m') := Lib.hid fun q => ⟨m + q, by rw [← hwm, World.drewN_drewN]⟩
      rw [hwm]
      have HC := Lib.hid (fun w => text_self x w)
      clear c1 hx hwm
      go_upto_region 4 with (fail)
      go_quiet ((go_at_call 74; exact Calls.quiet_of_same (HC.out _)))
      obtain ⟨m', hm'⟩ := HDM.out nq
      rw [hm']
      go_wp2
      go_roundg q
      case measure => omega
      case rel => exact ⟨k + 1, _, by omega, by go_num, rfl⟩
def nanR (f : Nat) : Bool := decide (18437736874454810624 < IntKind.u64.wrap ((f : Int) * 2))
theorem rnan_any (f : Nat) (w : World) : Calls Tryz.prog 102 #[.float .f64 f] w fun e w' => e = .returned (.bool (nanR f)) ∧ w' = w := by
  have e1 : ∀ W : World, (callFunc 103 #[.float .f64 f]).run Tryz.prog W = .ok (.value (.int .u64 f)) W := fun W => by
    rw [run_callFunc_extern Tryz.func103 (by kernel_rfl) (by kernel_rfl) (by kernel_rfl) (e := Extern.MathFloatBits.float64bits) (by kernel_rfl)]
    rfl
  go_enter Tryz.func102, Tryz.ntmps102
  go_wp2
  go_ret
  exact ⟨rfl, rfl⟩
def keyR (f : Nat) : Int := if nanR f = true then 9223372036854775807 else if 9223372036854775808 ≤ f then -1 - ((f : Int) - 9223372036854775808) else f
set_option maxHeartbeats 1000000 in
set_option maxRecDepth 100000 in
theorem rkey_any (f : Nat) (hf : f < 2 ^ 64) (w : World) : Calls Tryz.prog 84 #[.float .f64 f] w fun e w' => e = .returned (.int .i64 (keyR f)) ∧ w' = w := by
  have e1 : ∀ W : World, (callFunc 103 #[.float .f64 f]).run Tryz.prog W = .ok (.value (.int .u64 f)) W := fun W => by
    rw [run_callFunc_extern Tryz.func103 (by kernel_rfl) (by kernel_rfl) (by kernel_rfl) (e := Extern.MathFloatBits.float64bits) (by kernel_rfl)]
    rfl
  have HC := Lib.hid (fun w => rnan_any f w)
  cases hn : nanR f with
  | true =>
    have HV : Hid (keyR f = 9223372036854775807) := Lib.hid (if_pos hn)
    rw [hn] at HC
    clear hn
    go_enter Tryz.func84, Tryz.ntmps84
    go_wp2_with (go_at_call 102; refine (HC.out _).mono ?_; rintro e z ⟨rfl, rfl⟩)
    go_ret
    exact ⟨ret_int HV.out.symm, rfl⟩
  | false =>
    rw [hn] at HC
    by_cases hm : 9223372036854775808 ≤ f
    · have HV : Hid (keyR f = -1 - ((f : Int) - 9223372036854775808)) := Lib.hid (by unfold keyR; rw [if_neg (by rw [hn]; decide), if_pos hm])
      have t1 : (9223372036854775808 : Int) ≤ (f : Int) := by omega
      have t2 : (f : Int) < 18446744073709551616 := by omega
      have t3 : IntKind.u64.wrap ((f : Int) - 9223372036854775808) = (f : Int) - 9223372036854775808 := by unfold IntKind.wrap; simp [IntKind.signed, IntKind.bits]; omega
      have t4 : IntKind.i64.wrap ((f : Int) - 9223372036854775808) = (f : Int) - 9223372036854775808 := by unfold IntKind.wrap; simp [IntKind.signed, IntKind.bits]; omega
      have t5 : IntKind.i64.wrap (-1 - ((f : Int) - 9223372036854775808)) = -1 - ((f : Int) - 9223372036854775808) := by unfold IntKind.wrap; simp [IntKind.signed, IntKind.bits]; omega
      clear hn hm
      go_enter Tryz.func84, Tryz.ntmps84
      go_wp2_with (go_at_call 102; refine (HC.out _).mono ?_; rintro e z ⟨rfl, rfl⟩)
      go_ret
      exact ⟨ret_int HV.out.symm, rfl⟩
    · have HV : Hid (keyR f = f) := Lib.hid (by unfold keyR; rw [if_neg (by rw [hn]; decide), if_neg hm])
      have t1 : ¬ ((9223372036854775808 : Int) ≤ (f : Int)) := by omega
      have t2 : IntKind.i64.wrap (f : Int) = (f : Int) := by unfold IntKind.wrap; simp [IntKind.signed, IntKind.bits]; omega
      obtain ⟨fi, hfi⟩ : ∃ fi : Int, (f : Int) = fi := ⟨_, rfl⟩
      rw [hfi] at t1 t2 HV
      simp only [hfi] at e1
      have t3 : decide ((9223372036854775808 : Int) ≤ fi) = false := decide_eq_false t1
      clear hn hm hfi t1
      go_enter Tryz.func84, Tryz.ntmps84
      go_wp2_with (go_at_call 102; refine (HC.out _).mono ?_; rintro e z ⟨rfl, rfl⟩)
      go_ret
      exact ⟨ret_int HV.out.symm, rfl⟩
theorem ford_self (f : Nat) (hf : f < 2 ^ 64) (w : World) : Calls Tryz.prog 73 #[.float .f64 f, .float .f64 f] w fun e w' => e = .returned (.int .i64 0) ∧ w' = w := by
  have HC := Lib.hid (fun w => rkey_any f hf w)
  clear hf
  generalize keyR f = k at *
  have t1 : ¬ (k < k) := Int.lt_irrefl k
  go_enter Tryz.func73, Tryz.ntmps73
  go_wp2_with (go_at_call 84; refine (HC.out _).mono ?_; rintro e z ⟨rfl, rfl⟩)
  go_ret
  exact ⟨rfl, rfl⟩
end Go.Proofs.YtlfefikhmdbbfaaGreat
