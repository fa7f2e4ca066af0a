/- What the readers of a lattice that lies in memory answer: is, Leq, both, Join, Meet, Size, least, full, Bottom, Top, list, Below, Above. -/
import Derived.Test.YtpikafadfailkaaProg
import Derived.Test.YtpikafadfailkaaPlain
import Derived.Test.YtpikafadfailkaaKit
namespace Go.Proofs.Ytpikafadfailkaa
open Go.RowKit P

/-- is it a label of n? -/
def isL (n : Nat) (a : Int) : Bool := decide (0 ≤ a) && decide (a < n)
theorem isL_true {n : Nat} {a : Int} (h : isL n a = true) : ∃ x : Nat, a = x ∧ x < n := by
  unfold isL at h; simp at h; exact ⟨a.toNat, by omega, by omega⟩
theorem isL_nat {n x : Nat} (h : x < n) : isL n x = true := by unfold isL; simp; omega
theorem isL_false {n : Nat} {a : Int} (h : isL n a = false) : a < 0 ∨ (n : Int) ≤ a := by
  unfold isL at h; simp at h; omega

/-- THE LATTICE OF n LABELS WITH THE ORDER R, the joins J and the meets M LIES IN BLOCK b. -/
structure LatAt (w : World) (b : Nat) (n : Nat) (R : Rel) (J M : Nat → Nat → Int) : Prop where
  cn : w.cell? ⟨b, 0, none⟩ = some (.int .i64 n)
  cu : ∀ i, i < 8 → w.cell? ⟨b, 1 + i, none⟩ = some (.int .u8 (mask (R i)))
  cd : ∀ i, i < 8 → w.cell? ⟨b, 9 + i, none⟩ = some (.int .u8 (mask (fun a => R a i)))
  cj : ∀ i j, i < 8 → j < 8 → w.cell? ⟨b, 17 + i * 8 + j, none⟩ = some (.int .i8 (J i j))
  cm : ∀ i j, i < 8 → j < 8 → w.cell? ⟨b, 81 + i * 8 + j, none⟩ = some (.int .i8 (M i j))

set_option maxHeartbeats 400000 in
theorem is_nil (a : Int) (w : World) :
    Calls Try.prog 49 #[.pointer none, .int .i64 a] w fun e w' => e = .returned (.bool false) ∧ w = w' := by
  go_enter Try.func49, Try.ntmps49
  go_wp2
  go_ret
  exact ⟨rfl, rfl⟩

set_option maxHeartbeats 400000 in
theorem is_any (b : Nat) (n : Nat) (a : Int) (w : World) (hn : w.cell? ⟨b, 0, none⟩ = some (.int .i64 n)) :
    Calls Try.prog 49 #[.pointer (some ⟨b, 0, none⟩), .int .i64 a] w fun e w' => e = .returned (.bool (isL n a)) ∧ w = w' := by
  go_enter Try.func49, Try.ntmps49
  go_wp2
  all_goals (go_ret; refine ⟨ret_bool ?_, rfl⟩; unfold isL; simp; try omega)

set_option maxHeartbeats 400000 in
theorem leq_nil (a b : Int) (w : World) :
    Calls Try.prog 22 #[.pointer none, .int .i64 a, .int .i64 b] w fun e w' => e = .returned (.bool false) ∧ w = w' := by
  go_enter Try.func22, Try.ntmps22
  go_wp2_with (go_at_call 49; refine (is_nil _ _).mono ?_; rintro e w' ⟨rfl, rfl⟩)
  go_ret
  exact ⟨rfl, rfl⟩

theorem leq_in (bk : Nat) (n : Nat) (R : Rel) (J M : Nat → Nat → Int) (x y : Nat) (w : World) (h8 : n ≤ 8) (hl : LatAt w bk n R J M)
    (hx : x < n) (hy : y < n) :
    Calls Try.prog 22 #[.pointer (some ⟨bk, 0, none⟩), .int .i64 x, .int .i64 y] w fun e w' => e = .returned (.bool (R x y)) ∧ w = w' := by
  have hn := hl.cn
  have hu := hl.cu x (by omega)
  have hbx := isL_nat hx
  have hby := isL_nat hy
  go_enter Try.func22, Try.ntmps22
  go_wp2_with (go_at_call 49; refine (is_any _ _ _ _ hn).mono ?_; rintro e w' ⟨rfl, rfl⟩)
  go_ret
  exact ⟨ret_bool (bit_u8 _ _ (by omega)), rfl⟩

theorem leq_out (bk : Nat) (n : Nat) (a b : Int) (w : World) (hn : w.cell? ⟨bk, 0, none⟩ = some (.int .i64 n))
    (h : (isL n a && isL n b) = false) :
    Calls Try.prog 22 #[.pointer (some ⟨bk, 0, none⟩), .int .i64 a, .int .i64 b] w fun e w' => e = .returned (.bool false) ∧ w = w' := by
  cases ha : isL n a with
  | false =>
    clear h
    go_enter Try.func22, Try.ntmps22
    go_wp2_with (go_at_call 49; refine (is_any _ _ _ _ hn).mono ?_; rintro e w' ⟨rfl, rfl⟩)
    go_ret
    exact ⟨rfl, rfl⟩
  | true =>
    have hb : isL n b = false := by simpa [ha] using h
    clear h
    go_enter Try.func22, Try.ntmps22
    go_wp2_with (go_at_call 49; refine (is_any _ _ _ _ hn).mono ?_; rintro e w' ⟨rfl, rfl⟩)
    go_ret
    exact ⟨rfl, rfl⟩

/-- Leq, of any two numbers. -/
theorem leq_any (bk : Nat) (n : Nat) (R : Rel) (J M : Nat → Nat → Int) (a b : Int) (w : World) (h8 : n ≤ 8) (hl : LatAt w bk n R J M) :
    Calls Try.prog 22 #[.pointer (some ⟨bk, 0, none⟩), .int .i64 a, .int .i64 b] w fun e w' =>
      e = .returned (.bool (isL n a && isL n b && R a.toNat b.toNat)) ∧ w = w' := by
  cases h : (isL n a && isL n b) with
  | false => exact (leq_out bk n a b w hl.cn h).mono fun e w' ⟨he, hw⟩ => ⟨by simpa using he, hw⟩
  | true =>
    rw [Bool.and_eq_true] at h
    obtain ⟨x, rfl, hx⟩ := isL_true h.1
    obtain ⟨y, rfl, hy⟩ := isL_true h.2
    exact (leq_in bk n R J M x y w h8 hl hx hy).mono fun e w' ⟨he, hw⟩ => ⟨by simpa using he, hw⟩

set_option maxHeartbeats 400000 in
theorem both_nil (a b : Int) (m : Bool) (w : World) :
    Calls Try.prog 48 #[.pointer none, .int .i64 a, .int .i64 b, .bool m] w fun e w' => e = .returned (.tuple #[.int .i64 0, .int .i64 1]) ∧ w = w' := by
  go_enter Try.func48, Try.ntmps48
  go_wp2
  go_ret2
  exact ⟨rfl, rfl⟩

theorem both_out (bk : Nat) (n : Nat) (a b : Int) (m : Bool) (w : World) (hn : w.cell? ⟨bk, 0, none⟩ = some (.int .i64 n))
    (h : (isL n a && isL n b) = false) :
    Calls Try.prog 48 #[.pointer (some ⟨bk, 0, none⟩), .int .i64 a, .int .i64 b, .bool m] w fun e w' => e = .returned (.tuple #[.int .i64 0, .int .i64 3]) ∧ w = w' := by
  cases ha : isL n a with
  | false =>
    clear h
    go_enter Try.func48, Try.ntmps48
    go_wp2_with (go_at_call 49; refine (is_any _ _ _ _ hn).mono ?_; rintro e w' ⟨rfl, rfl⟩)
    go_ret2
    exact ⟨rfl, rfl⟩
  | true =>
    have hb : isL n b = false := by simpa [ha] using h
    clear h
    go_enter Try.func48, Try.ntmps48
    go_wp2_with (go_at_call 49; refine (is_any _ _ _ _ hn).mono ?_; rintro e w' ⟨rfl, rfl⟩)
    go_ret2
    exact ⟨rfl, rfl⟩

theorem both_in (bk : Nat) (n : Nat) (R : Rel) (J M : Nat → Nat → Int) (x y : Nat) (m : Bool) (w : World) (h8 : n ≤ 8) (hl : LatAt w bk n R J M)
    (hx : x < n) (hy : y < n) (bj : -128 ≤ J x y ∧ J x y ≤ 127) (bm : -128 ≤ M x y ∧ M x y ≤ 127) :
    Calls Try.prog 48 #[.pointer (some ⟨bk, 0, none⟩), .int .i64 x, .int .i64 y, .bool m] w fun e w' =>
      e = .returned (.tuple #[.int .i64 (if m then M x y else J x y), .int .i64 0]) ∧ w = w' := by
  have hn := hl.cn
  have hj := hl.cj x y (by omega) (by omega)
  have hm := hl.cm x y (by omega) (by omega)
  have hbx := isL_nat hx
  have hby := isL_nat hy
  obtain ⟨bj1, bj2⟩ := bj
  obtain ⟨bm1, bm2⟩ := bm
  generalize J x y = jj at *
  generalize M x y = mm at *
  cases m with
  | false =>
    go_enter Try.func48, Try.ntmps48
    go_wp2_with (go_at_call 49; refine (is_any _ _ _ _ hn).mono ?_; rintro e w' ⟨rfl, rfl⟩)
    go_ret2
    exact ⟨rfl, rfl⟩
  | true =>
    go_enter Try.func48, Try.ntmps48
    go_wp2_with (go_at_call 49; refine (is_any _ _ _ _ hn).mono ?_; rintro e w' ⟨rfl, rfl⟩)
    go_ret2
    exact ⟨rfl, rfl⟩

end Go.Proofs.Ytpikafadfailkaa
