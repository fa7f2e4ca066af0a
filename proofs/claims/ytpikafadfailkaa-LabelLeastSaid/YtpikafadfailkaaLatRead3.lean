/- least, full, list. -/
import Derived.Test.YtpikafadfailkaaLatRead2
namespace Go.Proofs.Ytpikafadfailkaa
open Go.RowKit P

/-- what is left of a row from c on -/
def restOf (S : Nat → Bool) (c : Nat) : Nat → Bool := fun i => S i && decide (c ≤ i)
theorem rest_zero (S : Nat → Bool) : mask (restOf S 0) = mask S := mask_ext fun i _ => by simp [restOf]
theorem rest_next (S : Nat → Bool) (c : Nat) (h : mask (restOf S c) ≠ 0) :
    c ≤ low (restOf S c) ∧ low (restOf S c) < 8 ∧ S (low (restOf S c)) = true ∧ (∀ i, c ≤ i → i < low (restOf S c) → S i = false) ∧
    bits .and .u8 (mask (restOf S c)) ((mask (restOf S c) : Int) - 1) = (mask (restOf S (low (restOf S c) + 1)) : Nat) ∧
    mask (restOf S (low (restOf S c) + 1)) < mask (restOf S c) := by
  obtain ⟨h1, h2, h3, h4⟩ := mask_ne _ h
  have hs : S (low (restOf S c)) = true ∧ c ≤ low (restOf S c) := by
    have := h2; unfold restOf at this ⊢; simpa using this
  have hm : mask (restOf S c) &&& (mask (restOf S c) - 1) = mask (restOf S (low (restOf S c) + 1)) := by
    rw [h4]
    refine mask_ext fun i _ => ?_
    by_cases hi : low (restOf S c) < i
    · have hci : c ≤ i := by omega
      have hi' : low (restOf S c) + 1 ≤ i := hi
      simp only [restOf] at hi' hi ⊢
      simp [hi, hi', hci]
    · have hi' : ¬ low (restOf S c) + 1 ≤ i := by omega
      simp only [restOf] at hi' hi ⊢
      simp [hi, hi']
  refine ⟨hs.2, h1, hs.1, ?_, ?_, ?_⟩
  · intro i hi hl
    have := h3 i hl
    unfold restOf at this
    simpa [hi] using this
  · have e : ((mask (restOf S c) : Int) - 1) = ((mask (restOf S c) - 1 : Nat) : Int) := by omega
    have hl := mask_lt (restOf S c)
    rw [e, (bits_nat .u8 8 (by decide) wraps_u8 _ _ hl (by simp; omega)).1, hm]
  · rw [← hm]
    have := Nat.and_le_right (n := mask (restOf S c)) (m := mask (restOf S c) - 1)
    omega
theorem rest_none (S : Nat → Bool) (c : Nat) (h : mask (restOf S c) = 0) (i : Nat) (hc : c ≤ i) (hi : i < 8) : S i = false := by
  have := mask_zero _ h i hi
  unfold restOf at this
  simpa [hc] using this

set_option maxHeartbeats 1000000 in
theorem least_any (b o : Nat) (S : Nat → Bool) (R : Rel) (w : World) (hc : ∀ i, i < 8 → w.cell? ⟨b, o + i, none⟩ = some (.int .u8 (mask (R i)))) :
    Calls Try.prog 58 #[.int .u8 (mask S), .pointer (some ⟨b, o, none⟩)] w fun e w' => e = .returned (.int .i8 (leastOf S R)) ∧ w = w' := by
  have HC := Lib.hid hc
  clear hc
  go_enter Try.func58, Try.ntmps58
  go_wp2
  go_loop [5] (fun r => ∃ c : Nat, c ≤ 8 ∧ r = .int .u8 (mask (restOf S c)) ∧ leastOf S R = leastFrom S R (8 - c) c)
    (fun r => (intOf r).toNat)
  case atStart => exact ⟨0, by omega, by rw [rest_zero], rfl⟩
  case round =>
    obtain ⟨c, hc8, rfl, hq⟩ := hrel
    have HQ := Lib.hid hq
    clear hq
    by_cases hz : mask (restOf S c) = 0
    · have HZ := Lib.hid hz
      have ht : ((mask (restOf S c) : Int) != 0) = false := by simp [hz]
      clear hz
      go_wp2
      go_ret
      exact ⟨ret_int (by rw [HQ.out, leastFrom_none S R c hc8 (rest_none S c HZ.out)]), rfl⟩
    · obtain ⟨h1, h2, h3, h4, h5, h6⟩ := rest_next S c hz
      have ht : ((mask (restOf S c) : Int) != 0) = true := by simp; omega
      have hpos : 1 ≤ mask (restOf S c) := by omega
      have hlt := mask_lt (restOf S c)
      have hcell := HC.out (low (restOf S c)) h2
      have H5 := Lib.hid h5
      have H4 := Lib.hid h4
      have H3 := Lib.hid h3
      have tzc := tz8 (restOf S c) w
      have TZ := Lib.hid tzc
      have hskip := leastFrom_skip S R c _ h1 (by omega) h4
      have HS := Lib.hid hskip
      have hand := and_u8 (R (low (restOf S c))) S
      have HA := Lib.hid hand
      clear tzc h5 h4 h3 hz hskip hand
      generalize hd : low (restOf S c) = d at *
      clear hd
      cases hg : good S R d with
      | true =>
        have he : (bits .and .u8 (mask (R d)) (mask S) == (mask S : Int)) = true := by
          rw [HA.out]; unfold good at hg; simp at hg; simp [hg.2]
        have HG := Lib.hid hg
        clear hg
        go_wp2_with (go_at_call 59; refine TZ.out.mono ?_; rintro e w' ⟨rfl, rfl⟩)
        go_ret
        refine ⟨ret_int (k := .i8) ?_, rfl⟩
        rw [HQ.out, HS.out, leastFrom_hit S R d h2 HG.out]
      | false =>
        have he : (bits .and .u8 (mask (R d)) (mask S) == (mask S : Int)) = false := by
          rw [HA.out]
          have hs3 := H3.out
          unfold good at hg
          simp [hs3] at hg
          simp
          omega
        have HG := Lib.hid hg
        clear hg
        go_wp2_with (go_at_call 59; refine TZ.out.mono ?_; rintro e w' ⟨rfl, rfl⟩)
        go_round
        case rel => exact ⟨d + 1, by omega, by rw [H5.out], by rw [HQ.out, HS.out, leastFrom_miss S R d h2 HG.out]⟩
        case measure =>
          have h5 := H5.out
          rw [h5]
          simp [intOf]
          omega

end Go.Proofs.Ytpikafadfailkaa
