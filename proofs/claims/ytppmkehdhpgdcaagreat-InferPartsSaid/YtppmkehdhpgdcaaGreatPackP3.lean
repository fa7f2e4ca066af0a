/- Parts of a proof: LatRead, LatRead2, LatRead3, LatRead4. -/
import Derived.Test.YtppmkehdhpgdcaaGreatProg
import Derived.Test.YtppmkehdhpgdcaaGreatPackP1
import Derived.Test.YtppmkehdhpgdcaaGreatPackP2
section
namespace Go.Proofs.YtppmkehdhpgdcaaGreat
open Go.RowKit P
def isL (n : Nat) (a : Int) : Bool := decide (0 ≤ a) && decide (a < n)
theorem isL_true {n : Nat} {a : Int} (h : isL n a = true) : ∃ x : Nat, a = x ∧ x < n := by
  unfold isL at h; simp at h; exact ⟨a.toNat, by omega, by omega⟩
theorem isL_nat {n x : Nat} (h : x < n) : isL n x = true := by unfold isL; simp; omega
structure LatAt (w : World) (b : Nat) (n : Nat) (R : Rel) (J M : Nat → Nat → Int) : Prop where
  cn : w.cell? ⟨b, 0, none⟩ = some (.int .i64 n)
  cu : ∀ i, i < 8 → w.cell? ⟨b, 1 + i, none⟩ = some (.int .u8 (mask (R i)))
  cd : ∀ i, i < 8 → w.cell? ⟨b, 9 + i, none⟩ = some (.int .u8 (mask (fun a => R a i)))
  cj : ∀ i j, i < 8 → j < 8 → w.cell? ⟨b, 17 + i * 8 + j, none⟩ = some (.int .i8 (J i j))
  cm : ∀ i j, i < 8 → j < 8 → w.cell? ⟨b, 81 + i * 8 + j, none⟩ = some (.int .i8 (M i j))
set_option maxHeartbeats 400000 in
theorem is_any (b : Nat) (n : Nat) (a : Int) (w : World) (hn : w.cell? ⟨b, 0, none⟩ = some (.int .i64 n)) :
    Calls Tryz.prog 64 #[.pointer (some ⟨b, 0, none⟩), .int .i64 a] w fun e w' => e = .returned (.bool (isL n a)) ∧ w = w' := by
  go_enter Tryz.func64, Tryz.ntmps64
  go_wp2
  all_goals (go_ret; refine ⟨ret_bool ?_, rfl⟩; unfold isL; simp; try omega)
theorem leq_in (bk : Nat) (n : Nat) (R : Rel) (J M : Nat → Nat → Int) (x y : Nat) (w : World) (h8 : n ≤ 8) (hl : LatAt w bk n R J M)
    (hx : x < n) (hy : y < n) :
    Calls Tryz.prog 32 #[.pointer (some ⟨bk, 0, none⟩), .int .i64 x, .int .i64 y] w fun e w' => e = .returned (.bool (R x y)) ∧ w = w' := by
  have hn := hl.cn
  have hu := hl.cu x (by omega)
  have hbx := isL_nat hx
  have hby := isL_nat hy
  go_enter Tryz.func32, Tryz.ntmps32
  go_wp2_with (go_at_call 64; refine (is_any _ _ _ _ hn).mono ?_; rintro e w' ⟨rfl, rfl⟩)
  go_ret
  exact ⟨ret_bool (bit_u8 _ _ (by omega)), rfl⟩
theorem leq_out (bk : Nat) (n : Nat) (a b : Int) (w : World) (hn : w.cell? ⟨bk, 0, none⟩ = some (.int .i64 n))
    (h : (isL n a && isL n b) = false) :
    Calls Tryz.prog 32 #[.pointer (some ⟨bk, 0, none⟩), .int .i64 a, .int .i64 b] w fun e w' => e = .returned (.bool false) ∧ w = w' := by
  cases ha : isL n a with
  | false =>
    clear h
    go_enter Tryz.func32, Tryz.ntmps32
    go_wp2_with (go_at_call 64; refine (is_any _ _ _ _ hn).mono ?_; rintro e w' ⟨rfl, rfl⟩)
    go_ret
    exact ⟨rfl, rfl⟩
  | true =>
    have hb : isL n b = false := by simpa [ha] using h
    clear h
    go_enter Tryz.func32, Tryz.ntmps32
    go_wp2_with (go_at_call 64; refine (is_any _ _ _ _ hn).mono ?_; rintro e w' ⟨rfl, rfl⟩)
    go_ret
    exact ⟨rfl, rfl⟩
theorem leq_any (bk : Nat) (n : Nat) (R : Rel) (J M : Nat → Nat → Int) (a b : Int) (w : World) (h8 : n ≤ 8) (hl : LatAt w bk n R J M) :
    Calls Tryz.prog 32 #[.pointer (some ⟨bk, 0, none⟩), .int .i64 a, .int .i64 b] w fun e w' =>
      e = .returned (.bool (isL n a && isL n b && R a.toNat b.toNat)) ∧ w = w' := by
  cases h : (isL n a && isL n b) with
  | false => exact (leq_out bk n a b w hl.cn h).mono fun e w' ⟨he, hw⟩ => ⟨by simpa using he, hw⟩
  | true =>
    rw [Bool.and_eq_true] at h
    obtain ⟨x, rfl, hx⟩ := isL_true h.1
    obtain ⟨y, rfl, hy⟩ := isL_true h.2
    exact (leq_in bk n R J M x y w h8 hl hx hy).mono fun e w' ⟨he, hw⟩ => ⟨by simpa using he, hw⟩
theorem both_out (bk : Nat) (n : Nat) (a b : Int) (m : Bool) (w : World) (hn : w.cell? ⟨bk, 0, none⟩ = some (.int .i64 n))
    (h : (isL n a && isL n b) = false) :
    Calls Tryz.prog 34 #[.pointer (some ⟨bk, 0, none⟩), .int .i64 a, .int .i64 b, .bool m] w fun e w' => e = .returned (.tuple #[.int .i64 0, .int .i64 3]) ∧ w = w' := by
  cases ha : isL n a with
  | false =>
    clear h
    go_enter Tryz.func34, Tryz.ntmps34
    go_wp2_with (go_at_call 64; refine (is_any _ _ _ _ hn).mono ?_; rintro e w' ⟨rfl, rfl⟩)
    go_ret2
    exact ⟨rfl, rfl⟩
  | true =>
    have hb : isL n b = false := by simpa [ha] using h
    clear h
    go_enter Tryz.func34, Tryz.ntmps34
    go_wp2_with (go_at_call 64; refine (is_any _ _ _ _ hn).mono ?_; rintro e w' ⟨rfl, rfl⟩)
    go_ret2
    exact ⟨rfl, rfl⟩
theorem both_in (bk : Nat) (n : Nat) (R : Rel) (J M : Nat → Nat → Int) (x y : Nat) (m : Bool) (w : World) (h8 : n ≤ 8) (hl : LatAt w bk n R J M)
    (hx : x < n) (hy : y < n) (bj : -128 ≤ J x y ∧ J x y ≤ 127) (bm : -128 ≤ M x y ∧ M x y ≤ 127) :
    Calls Tryz.prog 34 #[.pointer (some ⟨bk, 0, none⟩), .int .i64 x, .int .i64 y, .bool m] w fun e w' =>
      e = .returned (.tuple #[.int .i64 (if m then M x y else J x y), .int .i64 0]) ∧ w = w' := by
  have hn := hl.cn
  have hj := hl.cj x y (by omega) (by omega)
  have hm := hl.cm x y (by omega) (by omega)
  have hbx := isL_nat hx
  have hby := isL_nat hy
  obtain ⟨bj1, bj2⟩ := bj
  obtain ⟨bm1, bm2⟩ := bm
  generalize J x y = jj at *
  generalize M x y = mm at *
  cases m with
  | false =>
    go_enter Tryz.func34, Tryz.ntmps34
    go_wp2_with (go_at_call 64; refine (is_any _ _ _ _ hn).mono ?_; rintro e w' ⟨rfl, rfl⟩)
    go_ret2
    exact ⟨rfl, rfl⟩
  | true =>
    go_enter Tryz.func34, Tryz.ntmps34
    go_wp2_with (go_at_call 64; refine (is_any _ _ _ _ hn).mono ?_; rintro e w' ⟨rfl, rfl⟩)
    go_ret2
    exact ⟨rfl, rfl⟩
end Go.Proofs.YtppmkehdhpgdcaaGreat
end
section
namespace Go.Proofs.YtppmkehdhpgdcaaGreat
open Go.RowKit P
def tabR (n : Nat) (T : Nat → Nat → Int) (a b : Int) : Int := if isL n a && isL n b then T a.toNat b.toNat else 0
def tabE (n : Nat) (a b : Int) : Int := if isL n a && isL n b then 0 else 3
theorem both_any (bk : Nat) (n : Nat) (R : Rel) (J M : Nat → Nat → Int) (a b : Int) (m : Bool) (w : World) (h8 : n ≤ 8) (hl : LatAt w bk n R J M)
    (bj : ∀ x y, x < n → y < n → -128 ≤ J x y ∧ J x y ≤ 127) (bm : ∀ x y, x < n → y < n → -128 ≤ M x y ∧ M x y ≤ 127) :
    Calls Tryz.prog 34 #[.pointer (some ⟨bk, 0, none⟩), .int .i64 a, .int .i64 b, .bool m] w fun e w' =>
      e = .returned (.tuple #[.int .i64 (tabR n (if m then M else J) a b), .int .i64 (tabE n a b)]) ∧ w = w' := by
  cases h : (isL n a && isL n b) with
  | false =>
    have e1 : tabR n (if m then M else J) a b = 0 := by unfold tabR; rw [h]; rfl
    have e2 : tabE n a b = 3 := by unfold tabE; rw [h]; rfl
    rw [e1, e2]
    exact both_out bk n a b m w hl.cn h
  | true =>
    have e1 : tabR n (if m then M else J) a b = (if m then M a.toNat b.toNat else J a.toNat b.toNat) := by unfold tabR; rw [h]; cases m <;> rfl
    have e2 : tabE n a b = 0 := by unfold tabE; rw [h]; rfl
    rw [e1, e2]
    rw [Bool.and_eq_true] at h
    obtain ⟨x, rfl, hx⟩ := isL_true h.1
    obtain ⟨y, rfl, hy⟩ := isL_true h.2
    exact both_in bk n R J M x y m w h8 hl hx hy (bj x y hx hy) (bm x y hx hy)
theorem join_any (bk : Nat) (n : Nat) (R : Rel) (J M : Nat → Nat → Int) (a b : Int) (w : World) (h8 : n ≤ 8) (hl : LatAt w bk n R J M)
    (bj : ∀ x y, x < n → y < n → -128 ≤ J x y ∧ J x y ≤ 127) (bm : ∀ x y, x < n → y < n → -128 ≤ M x y ∧ M x y ≤ 127) :
    Calls Tryz.prog 12 #[.pointer (some ⟨bk, 0, none⟩), .int .i64 a, .int .i64 b] w fun e w' =>
      e = .returned (.tuple #[.int .i64 (tabR n J a b), .int .i64 (tabE n a b)]) ∧ w = w' := by
  have hc := both_any bk n R J M a b false w h8 hl bj bm
  have HC := Lib.hid hc
  clear hc bj bm hl
  go_enter Tryz.func12, Tryz.ntmps12
  go_wp2_with (go_at_call 34; refine HC.out.mono ?_; rintro e w' ⟨rfl, rfl⟩)
  go_ret2
  exact ⟨rfl, rfl⟩
theorem byte_wrap (c : UInt8) : wrap64 (c.toNat : Int) = c.toNat := IntWalk.wrap64_in _ ⟨by omega, by have := c.toNat_lt; omega⟩
set_option maxRecDepth 100000 in
theorem tz8_nat (x : Nat) (hx : x < 256) (w : World) :
    Calls Tryz.prog 92 #[.int .u8 x] w fun e w' => e = .returned (.int .i64 (Lib.trailingZeros8 x)) ∧ w = w' := by
  have h := Lib.ntz8_eq ⟨x, hx⟩
  simp only at h
  rw [← h]
  clear h
  go_enter Tryz.func92, Tryz.ntmps92
  go_wp2
  go_ret
  refine ⟨ret_int (k := .i64) ?_, rfl⟩
  rw [byte_wrap]
  unfold Lib.ntz8
  have hs : x < Lib.ntz8tab.size := by assumption
  simp [getElem?_pos Lib.ntz8tab x hs]
set_option maxRecDepth 100000 in
theorem ones8_nat (x : Nat) (hx : x < 256) (w : World) :
    Calls Tryz.prog 112 #[.int .u8 x] w fun e w' => e = .returned (.int .i64 (Lib.onesCount x)) ∧ w = w' := by
  have h := Lib.pop8_eq ⟨x, hx⟩
  simp only at h
  rw [← h]
  clear h
  go_enter Tryz.func112, Tryz.ntmps112
  go_wp2
  go_ret
  refine ⟨ret_int (k := .i64) ?_, rfl⟩
  rw [byte_wrap]
  unfold Lib.pop8
  have hs : x < Lib.pop8tab.size := by assumption
  simp [getElem?_pos Lib.pop8tab x hs]
theorem tz8 (f : Nat → Bool) (w : World) :
    Calls Tryz.prog 92 #[.int .u8 (mask f)] w fun e w' => e = .returned (.int .i64 (low f)) ∧ w = w' :=
  tz8_nat (mask f) (mask_lt f) w
theorem ones8 (f : Nat → Bool) (w : World) :
    Calls Tryz.prog 112 #[.int .u8 (mask f)] w fun e w' => e = .returned (.int .i64 (Lib.onesCount (mask f))) ∧ w = w' :=
  ones8_nat (mask f) (mask_lt f) w
end Go.Proofs.YtppmkehdhpgdcaaGreat
end
section
namespace Go.Proofs.YtppmkehdhpgdcaaGreat
open Go.RowKit P
def restOf (S : Nat → Bool) (c : Nat) : Nat → Bool := fun i => S i && decide (c ≤ i)
theorem rest_zero (S : Nat → Bool) : mask (restOf S 0) = mask S := mask_ext fun i _ => by simp [restOf]
theorem rest_next (S : Nat → Bool) (c : Nat) (h : mask (restOf S c) ≠ 0) :
    c ≤ low (restOf S c) ∧ low (restOf S c) < 8 ∧ S (low (restOf S c)) = true ∧ (∀ i, c ≤ i → i < low (restOf S c) → S i = false) ∧
    bits .and .u8 (mask (restOf S c)) ((mask (restOf S c) : Int) - 1) = (mask (restOf S (low (restOf S c) + 1)) : Nat) ∧
    mask (restOf S (low (restOf S c) + 1)) < mask (restOf S c) := by
  obtain ⟨h1, h2, h3, h4⟩ := mask_ne _ h
  have hs : S (low (restOf S c)) = true ∧ c ≤ low (restOf S c) := by
    have := h2; unfold restOf at this ⊢; simpa using this
  have hm : mask (restOf S c) &&& (mask (restOf S c) - 1) = mask (restOf S (low (restOf S c) + 1)) := by
    rw [h4]
    refine mask_ext fun i _ => ?_
    by_cases hi : low (restOf S c) < i
    · have hci : c ≤ i := by omega
      have hi' : low (restOf S c) + 1 ≤ i := hi
      simp only [restOf] at hi' hi ⊢
      simp [hi, hi', hci]
    · have hi' : ¬ low (restOf S c) + 1 ≤ i := by omega
      simp only [restOf] at hi' hi ⊢
      simp [hi, hi']
  refine ⟨hs.2, h1, hs.1, ?_, ?_, ?_⟩
  · intro i hi hl
    have := h3 i hl
    unfold restOf at this
    simpa [hi] using this
  · have e : ((mask (restOf S c) : Int) - 1) = ((mask (restOf S c) - 1 : Nat) : Int) := by omega
    have hl := mask_lt (restOf S c)
    rw [e, (bits_nat .u8 8 (by decide) wraps_u8 _ _ hl (by simp; omega)).1, hm]
  · rw [← hm]
    have := Nat.and_le_right (n := mask (restOf S c)) (m := mask (restOf S c) - 1)
    omega
theorem rest_none (S : Nat → Bool) (c : Nat) (h : mask (restOf S c) = 0) (i : Nat) (hc : c ≤ i) (hi : i < 8) : S i = false := by
  have := mask_zero _ h i hi
  unfold restOf at this
  simpa [hc] using this
set_option maxHeartbeats 1000000 in
theorem least_any (b o : Nat) (S : Nat → Bool) (R : Rel) (w : World) (hc : ∀ i, i < 8 → w.cell? ⟨b, o + i, none⟩ = some (.int .u8 (mask (R i)))) :
    Calls Tryz.prog 71 #[.int .u8 (mask S), .pointer (some ⟨b, o, none⟩)] w fun e w' => e = .returned (.int .i8 (leastOf S R)) ∧ w = w' := by
  have HC := Lib.hid hc
  clear hc
  go_enter Tryz.func71, Tryz.ntmps71
  go_wp2
  go_loop [5] (fun r => ∃ c : Nat, c ≤ 8 ∧ r = .int .u8 (mask (restOf S c)) ∧ leastOf S R = leastFrom S R (8 - c) c)
    (fun r => (intOf r).toNat)
  case atStart => exact ⟨0, by omega, by rw [rest_zero], rfl⟩
  case round =>
    obtain ⟨c, hc8, rfl, hq⟩ := hrel
    have HQ := Lib.hid hq
    clear hq
    by_cases hz : mask (restOf S c) = 0
    · have HZ := Lib.hid hz
      have ht : ((mask (restOf S c) : Int) != 0) = false := by simp [hz]
      clear hz
      go_wp2
      go_ret
      exact ⟨ret_int (by rw [HQ.out, leastFrom_none S R c hc8 (rest_none S c HZ.out)]), rfl⟩
    · obtain ⟨h1, h2, h3, h4, h5, h6⟩ := rest_next S c hz
      have ht : ((mask (restOf S c) : Int) != 0) = true := by simp; omega
      have hpos : 1 ≤ mask (restOf S c) := by omega
      have hlt := mask_lt (restOf S c)
      have hcell := HC.out (low (restOf S c)) h2
      have H5 := Lib.hid h5
      have H4 := Lib.hid h4
      have H3 := Lib.hid h3
      have tzc := tz8 (restOf S c) w
      have TZ := Lib.hid tzc
      have hskip := leastFrom_skip S R c _ h1 (by omega) h4
      have HS := Lib.hid hskip
      have hand := and_u8 (R (low (restOf S c))) S
      have HA := Lib.hid hand
      clear tzc h5 h4 h3 hz hskip hand
      generalize hd : low (restOf S c) = d at *
      clear hd
      cases hg : good S R d with
      | true =>
        have he : (bits .and .u8 (mask (R d)) (mask S) == (mask S : Int)) = true := by
          rw [HA.out]; unfold good at hg; simp at hg; simp [hg.2]
        have HG := Lib.hid hg
        clear hg
        go_wp2_with (go_at_call 92; refine TZ.out.mono ?_; rintro e w' ⟨rfl, rfl⟩)
        go_ret
        refine ⟨ret_int (k := .i8) ?_, rfl⟩
        rw [HQ.out, HS.out, leastFrom_hit S R d h2 HG.out]
      | false =>
        have he : (bits .and .u8 (mask (R d)) (mask S) == (mask S : Int)) = false := by
          rw [HA.out]
          have hs3 := H3.out
          unfold good at hg
          simp [hs3] at hg
          simp
          omega
        have HG := Lib.hid hg
        clear hg
        go_wp2_with (go_at_call 92; refine TZ.out.mono ?_; rintro e w' ⟨rfl, rfl⟩)
        go_round
        case rel => exact ⟨d + 1, by omega, by rw [H5.out], by rw [HQ.out, HS.out, leastFrom_miss S R d h2 HG.out]⟩
        case measure =>
          have h5 := H5.out
          rw [h5]
          simp [intOf]
          omega
end Go.Proofs.YtppmkehdhpgdcaaGreat
end
section
namespace Go.Proofs.YtppmkehdhpgdcaaGreat
open Go.RowKit P
def fullFrom (n : Nat) (f : Rel) : Nat → Nat → Nat
  | 0, _ => 0
  | k + 1, a => if Lib.onesCount (mask (f a)) = n then a else fullFrom n f k (a + 1)
def fullOf (n : Nat) (f : Rel) : Nat := fullFrom n f n 0
set_option maxHeartbeats 1000000 in
theorem full_any (b o : Nat) (n : Nat) (f : Rel) (w : World) (h8 : n ≤ 8) (hn : w.cell? ⟨b, 0, none⟩ = some (.int .i64 n))
    (hc : ∀ i, i < 8 → w.cell? ⟨b, o + i, none⟩ = some (.int .u8 (mask (f i)))) :
    Calls Tryz.prog 88 #[.pointer (some ⟨b, 0, none⟩), .pointer (some ⟨b, o, none⟩)] w fun e w' => e = .returned (.int .i64 (fullOf n f)) ∧ ∃ m, w' = w.drewN m := by
  have HC := Lib.hid hc
  clear hc
  go_enter Tryz.func88, Tryz.ntmps88
  go_wp2
  go_loopw [10] (fun i wr => ∃ a m : Nat, a ≤ n ∧ i = .int .i64 a ∧ fullOf n f = fullFrom n f (n - a) a ∧ wr = w.drewN m)
    (fun i _ => n - (intOf i).toNat)
  case atStart => exact ⟨0, 0, by omega, rfl, rfl, rfl⟩
  case round =>
    obtain ⟨a, m, ha, rfl, hq, rfl⟩ := hrel
    have HQ := Lib.hid hq
    clear hq
    by_cases hlt : a < n
    · have hcell := HC.out a (by omega)
      have hi8 : (a : Int) < 8 := by omega
      have e : n - a = (n - (a + 1)) + 1 := by omega
      rw [e, fullFrom] at HQ
      by_cases hg : Lib.onesCount (mask (f a)) = n
      · have hb : ((Lib.onesCount (mask (f a)) : Int) == (n : Int)) = true := by simp [hg]
        rw [if_pos hg] at HQ
        clear hg e
        go_wp2
        go_quiet ((go_at_call 112; exact q_same2 (ones8 _ _)))
        go_wp2
        go_ret
        exact ⟨ret_int (by rw [HQ.out]), _, World.drewN_drewN _ _ _⟩
      · have hb : ((Lib.onesCount (mask (f a)) : Int) == (n : Int)) = false := by simp; omega
        rw [if_neg hg] at HQ
        clear hg e
        go_wp2
        go_quiet ((go_at_call 112; exact q_same2 (ones8 _ _)))
        go_wp2
        go_roundw
        case rel => exact ⟨a + 1, _, by omega, by go_num, HQ.out, rfl⟩
        case measure => simp [intOf]; omega
    · have e : n - a = 0 := by omega
      rw [e, fullFrom] at HQ
      clear e
      go_wp2
      go_ret
      exact ⟨ret_int (by rw [HQ.out]; rfl), _, rfl⟩
theorem bottom_any (bk : Nat) (n : Nat) (R : Rel) (J M : Nat → Nat → Int) (w : World) (h8 : n ≤ 8) (hl : LatAt w bk n R J M) :
    Calls Tryz.prog 66 #[.pointer (some ⟨bk, 0, none⟩)] w fun e w' => e = .returned (.int .i64 (fullOf n R)) ∧ ∃ m, w' = w.drewN m := by
  have hc := full_any bk 1 n R w h8 hl.cn hl.cu
  have HC := Lib.hid hc
  clear hc hl
  go_enter Tryz.func66, Tryz.ntmps66
  go_wp2_with (go_at_call 88; refine HC.out.mono ?_; rintro e w' ⟨rfl, m, rfl⟩)
  go_ret
  exact ⟨rfl, _, rfl⟩
end Go.Proofs.YtppmkehdhpgdcaaGreat
end
