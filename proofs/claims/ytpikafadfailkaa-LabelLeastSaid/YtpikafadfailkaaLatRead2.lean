/- What the readers of a lattice answer, second part: Join, Meet, Size, the tables of math/bits, least, full, Bottom, Top. -/
import Derived.Test.YtpikafadfailkaaLatRead
namespace Go.Proofs.Ytpikafadfailkaa
open Go.RowKit P

/-- what Join and Meet answer: a number and an error -/
def tabR (n : Nat) (T : Nat → Nat → Int) (a b : Int) : Int := if isL n a && isL n b then T a.toNat b.toNat else 0
def tabE (n : Nat) (a b : Int) : Int := if isL n a && isL n b then 0 else 3

theorem both_any (bk : Nat) (n : Nat) (R : Rel) (J M : Nat → Nat → Int) (a b : Int) (m : Bool) (w : World) (h8 : n ≤ 8) (hl : LatAt w bk n R J M)
    (bj : ∀ x y, x < n → y < n → -128 ≤ J x y ∧ J x y ≤ 127) (bm : ∀ x y, x < n → y < n → -128 ≤ M x y ∧ M x y ≤ 127) :
    Calls Try.prog 48 #[.pointer (some ⟨bk, 0, none⟩), .int .i64 a, .int .i64 b, .bool m] w fun e w' =>
      e = .returned (.tuple #[.int .i64 (tabR n (if m then M else J) a b), .int .i64 (tabE n a b)]) ∧ w = w' := by
  cases h : (isL n a && isL n b) with
  | false =>
    have e1 : tabR n (if m then M else J) a b = 0 := by unfold tabR; rw [h]; rfl
    have e2 : tabE n a b = 3 := by unfold tabE; rw [h]; rfl
    rw [e1, e2]
    exact both_out bk n a b m w hl.cn h
  | true =>
    have e1 : tabR n (if m then M else J) a b = (if m then M a.toNat b.toNat else J a.toNat b.toNat) := by unfold tabR; rw [h]; cases m <;> rfl
    have e2 : tabE n a b = 0 := by unfold tabE; rw [h]; rfl
    rw [e1, e2]
    rw [Bool.and_eq_true] at h
    obtain ⟨x, rfl, hx⟩ := isL_true h.1
    obtain ⟨y, rfl, hy⟩ := isL_true h.2
    exact both_in bk n R J M x y m w h8 hl hx hy (bj x y hx hy) (bm x y hx hy)

theorem join_nil (a b : Int) (w : World) :
    Calls Try.prog 19 #[.pointer none, .int .i64 a, .int .i64 b] w fun e w' => e = .returned (.tuple #[.int .i64 0, .int .i64 1]) ∧ w = w' := by
  go_enter Try.func19, Try.ntmps19
  go_wp2_with (go_at_call 48; refine (both_nil _ _ _ _).mono ?_; rintro e w' ⟨rfl, rfl⟩)
  go_ret2
  exact ⟨rfl, rfl⟩
theorem meet_nil (a b : Int) (w : World) :
    Calls Try.prog 21 #[.pointer none, .int .i64 a, .int .i64 b] w fun e w' => e = .returned (.tuple #[.int .i64 0, .int .i64 1]) ∧ w = w' := by
  go_enter Try.func21, Try.ntmps21
  go_wp2_with (go_at_call 48; refine (both_nil _ _ _ _).mono ?_; rintro e w' ⟨rfl, rfl⟩)
  go_ret2
  exact ⟨rfl, rfl⟩
theorem join_any (bk : Nat) (n : Nat) (R : Rel) (J M : Nat → Nat → Int) (a b : Int) (w : World) (h8 : n ≤ 8) (hl : LatAt w bk n R J M)
    (bj : ∀ x y, x < n → y < n → -128 ≤ J x y ∧ J x y ≤ 127) (bm : ∀ x y, x < n → y < n → -128 ≤ M x y ∧ M x y ≤ 127) :
    Calls Try.prog 19 #[.pointer (some ⟨bk, 0, none⟩), .int .i64 a, .int .i64 b] w fun e w' =>
      e = .returned (.tuple #[.int .i64 (tabR n J a b), .int .i64 (tabE n a b)]) ∧ w = w' := by
  have hc := both_any bk n R J M a b false w h8 hl bj bm
  have HC := Lib.hid hc
  clear hc bj bm hl
  go_enter Try.func19, Try.ntmps19
  go_wp2_with (go_at_call 48; refine HC.out.mono ?_; rintro e w' ⟨rfl, rfl⟩)
  go_ret2
  exact ⟨rfl, rfl⟩
theorem meet_any (bk : Nat) (n : Nat) (R : Rel) (J M : Nat → Nat → Int) (a b : Int) (w : World) (h8 : n ≤ 8) (hl : LatAt w bk n R J M)
    (bj : ∀ x y, x < n → y < n → -128 ≤ J x y ∧ J x y ≤ 127) (bm : ∀ x y, x < n → y < n → -128 ≤ M x y ∧ M x y ≤ 127) :
    Calls Try.prog 21 #[.pointer (some ⟨bk, 0, none⟩), .int .i64 a, .int .i64 b] w fun e w' =>
      e = .returned (.tuple #[.int .i64 (tabR n M a b), .int .i64 (tabE n a b)]) ∧ w = w' := by
  have hc := both_any bk n R J M a b true w h8 hl bj bm
  have HC := Lib.hid hc
  clear hc bj bm hl
  go_enter Try.func21, Try.ntmps21
  go_wp2_with (go_at_call 48; refine HC.out.mono ?_; rintro e w' ⟨rfl, rfl⟩)
  go_ret2
  exact ⟨rfl, rfl⟩

theorem size_nil (w : World) :
    Calls Try.prog 30 #[.pointer none] w fun e w' => e = .returned (.int .i64 0) ∧ w = w' := by
  go_enter Try.func30, Try.ntmps30
  go_wp2
  go_ret
  exact ⟨rfl, rfl⟩
theorem size_any (bk n : Nat) (w : World) (hn : w.cell? ⟨bk, 0, none⟩ = some (.int .i64 n)) :
    Calls Try.prog 30 #[.pointer (some ⟨bk, 0, none⟩)] w fun e w' => e = .returned (.int .i64 n) ∧ w = w' := by
  go_enter Try.func30, Try.ntmps30
  go_wp2
  go_ret
  exact ⟨rfl, rfl⟩

theorem byte_wrap (c : UInt8) : wrap64 (c.toNat : Int) = c.toNat := IntWalk.wrap64_in _ ⟨by omega, by have := c.toNat_lt; omega⟩
set_option maxRecDepth 100000 in
theorem tz8_nat (x : Nat) (hx : x < 256) (w : World) :
    Calls Try.prog 59 #[.int .u8 x] w fun e w' => e = .returned (.int .i64 (Lib.trailingZeros8 x)) ∧ w = w' := by
  have h := Lib.ntz8_eq ⟨x, hx⟩
  simp only at h
  rw [← h]
  clear h
  go_enter Try.func59, Try.ntmps59
  go_wp2
  go_ret
  refine ⟨ret_int (k := .i64) ?_, rfl⟩
  rw [byte_wrap]
  unfold Lib.ntz8
  have hs : x < Lib.ntz8tab.size := by assumption
  simp [getElem?_pos Lib.ntz8tab x hs]
set_option maxRecDepth 100000 in
theorem ones8_nat (x : Nat) (hx : x < 256) (w : World) :
    Calls Try.prog 57 #[.int .u8 x] w fun e w' => e = .returned (.int .i64 (Lib.onesCount x)) ∧ w = w' := by
  have h := Lib.pop8_eq ⟨x, hx⟩
  simp only at h
  rw [← h]
  clear h
  go_enter Try.func57, Try.ntmps57
  go_wp2
  go_ret
  refine ⟨ret_int (k := .i64) ?_, rfl⟩
  rw [byte_wrap]
  unfold Lib.pop8
  have hs : x < Lib.pop8tab.size := by assumption
  simp [getElem?_pos Lib.pop8tab x hs]
theorem tz8 (f : Nat → Bool) (w : World) :
    Calls Try.prog 59 #[.int .u8 (mask f)] w fun e w' => e = .returned (.int .i64 (low f)) ∧ w = w' :=
  tz8_nat (mask f) (mask_lt f) w
theorem ones8 (f : Nat → Bool) (w : World) :
    Calls Try.prog 57 #[.int .u8 (mask f)] w fun e w' => e = .returned (.int .i64 (Lib.onesCount (mask f))) ∧ w = w' :=
  ones8_nat (mask f) (mask_lt f) w

end Go.Proofs.Ytpikafadfailkaa
