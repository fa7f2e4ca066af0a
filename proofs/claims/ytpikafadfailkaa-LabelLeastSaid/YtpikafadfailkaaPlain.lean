/- Plain mathematics of the lattice layer: masks of eight bits, closures of relations, least ones. No program in sight. -/
import Derived.Laws.BitsLemmas
import Derived.Lib.BitFns
import Derived.Test.YtpikafadfailkaaOrd
namespace Go.Proofs.Ytpikafadfailkaa
namespace P

def mk8 (b0 b1 b2 b3 b4 b5 b6 b7 : Bool) : Nat :=
  b0.toNat + 2 * b1.toNat + 4 * b2.toNat + 8 * b3.toNat + 16 * b4.toNat + 32 * b5.toNat + 64 * b6.toNat + 128 * b7.toNat
def mask (f : Nat → Bool) : Nat := mk8 (f 0) (f 1) (f 2) (f 3) (f 4) (f 5) (f 6) (f 7)

theorem mk8_lt : ∀ b0 b1 b2 b3 b4 b5 b6 b7, mk8 b0 b1 b2 b3 b4 b5 b6 b7 < 256 := by decide +kernel
theorem mk8_bit : ∀ b0 b1 b2 b3 b4 b5 b6 b7,
    (mk8 b0 b1 b2 b3 b4 b5 b6 b7).testBit 0 = b0 ∧ (mk8 b0 b1 b2 b3 b4 b5 b6 b7).testBit 1 = b1 ∧ (mk8 b0 b1 b2 b3 b4 b5 b6 b7).testBit 2 = b2 ∧
    (mk8 b0 b1 b2 b3 b4 b5 b6 b7).testBit 3 = b3 ∧ (mk8 b0 b1 b2 b3 b4 b5 b6 b7).testBit 4 = b4 ∧ (mk8 b0 b1 b2 b3 b4 b5 b6 b7).testBit 5 = b5 ∧
    (mk8 b0 b1 b2 b3 b4 b5 b6 b7).testBit 6 = b6 ∧ (mk8 b0 b1 b2 b3 b4 b5 b6 b7).testBit 7 = b7 := by decide +kernel

theorem mask_lt (f : Nat → Bool) : mask f < 256 := mk8_lt _ _ _ _ _ _ _ _
theorem mask_bit (f : Nat → Bool) (i : Nat) (h : i < 8) : (mask f).testBit i = f i := by
  have H := mk8_bit (f 0) (f 1) (f 2) (f 3) (f 4) (f 5) (f 6) (f 7)
  unfold mask
  match i, h with
  | 0, _ => exact H.1
  | 1, _ => exact H.2.1
  | 2, _ => exact H.2.2.1
  | 3, _ => exact H.2.2.2.1
  | 4, _ => exact H.2.2.2.2.1
  | 5, _ => exact H.2.2.2.2.2.1
  | 6, _ => exact H.2.2.2.2.2.2.1
  | 7, _ => exact H.2.2.2.2.2.2.2
theorem mask_ext {f g : Nat → Bool} (h : ∀ i, i < 8 → f i = g i) : mask f = mask g := by
  unfold mask
  rw [h 0 (by omega), h 1 (by omega), h 2 (by omega), h 3 (by omega), h 4 (by omega), h 5 (by omega), h 6 (by omega), h 7 (by omega)]
theorem mask_of {m : Nat} (hm : m < 256) {f : Nat → Bool} (h : ∀ i, i < 8 → m.testBit i = f i) : m = mask f := by
  apply Nat.eq_of_testBit_eq
  intro i
  by_cases hi : i < 8
  · rw [mask_bit f i hi, h i hi]
  · have h2 : (2 : Nat) ^ 8 ≤ 2 ^ i := Nat.pow_le_pow_right (by decide) (by omega)
    rw [Nat.testBit_lt_two_pow (by omega), Nat.testBit_lt_two_pow (by have := mask_lt f; omega)]
theorem mask_inj {f g : Nat → Bool} (h : mask f = mask g) (i : Nat) (hi : i < 8) : f i = g i := by
  rw [← mask_bit f i hi, ← mask_bit g i hi, h]

theorem mask_and (f g : Nat → Bool) : mask f &&& mask g = mask (fun i => f i && g i) := by
  refine mask_of (Nat.and_lt_two_pow (n := 8) _ (mask_lt g)) fun i hi => ?_
  rw [Nat.testBit_and, mask_bit f i hi, mask_bit g i hi]
theorem mask_or (f g : Nat → Bool) : mask f ||| mask g = mask (fun i => f i || g i) := by
  refine mask_of (Nat.or_lt_two_pow (n := 8) (mask_lt f) (mask_lt g)) fun i hi => ?_
  rw [Nat.testBit_or, mask_bit f i hi, mask_bit g i hi]
theorem mask_one (y : Nat) (hy : y < 8) : 2 ^ y = mask (fun i => i == y) := by
  refine mask_of (by have : (2 : Nat) ^ y ≤ 2 ^ 7 := Nat.pow_le_pow_right (by decide) (by omega); omega) fun i _ => ?_
  rw [Nat.testBit_two_pow]
  by_cases h : y = i
  · simp [h]
  · simp [h]; omega

theorem and_u8 (f g : Nat → Bool) : bits .and .u8 (mask f : Int) (mask g : Int) = (mask (fun i => f i && g i) : Nat) := by
  rw [(bits_nat .u8 8 (by decide) wraps_u8 _ _ (mask_lt f) (mask_lt g)).1, mask_and]
theorem or_u8 (f g : Nat → Bool) : bits .or .u8 (mask f : Int) (mask g : Int) = (mask (fun i => f i || g i) : Nat) := by
  rw [(bits_nat .u8 8 (by decide) wraps_u8 _ _ (mask_lt f) (mask_lt g)).2, mask_or]
theorem or1_u8 (f : Nat → Bool) (y : Nat) (hy : y < 8) : bits .or .u8 (mask f : Int) (2 ^ y) = (mask (fun i => f i || i == y) : Nat) := by
  have e : ((2 : Int) ^ y) = ((mask (fun i => i == y) : Nat) : Int) := by rw [← mask_one y hy]; simp
  rw [e, or_u8]
theorem bit_u8 (f : Nat → Bool) (y : Nat) (hy : y < 8) : (bits .and .u8 ((mask f : Int) / 2 ^ y) 1 == 1) = f y := by
  have e : ((mask f : Int) / 2 ^ y) = ((mask f / 2 ^ y : Nat) : Int) := by simp
  have hl : mask f / 2 ^ y < 256 := Nat.lt_of_le_of_lt (Nat.div_le_self _ _) (mask_lt f)
  have e1 : (1 : Int) = ((1 : Nat) : Int) := rfl
  rw [e, e1, (bits_nat .u8 8 (by decide) wraps_u8 _ _ hl (by decide)).1]
  have ht := mask_bit f y hy
  rw [← ht, Nat.testBit, Nat.shiftRight_eq_div_pow]
  rw [Nat.and_comm]
  have h1 : 1 &&& mask f / 2 ^ y = mask f / 2 ^ y % 2 := Nat.one_and_eq_mod_two _
  have hlt : mask f / 2 ^ y % 2 < 2 := Nat.mod_lt _ (by decide)
  rw [h1]
  generalize mask f / 2 ^ y % 2 = z at *
  match z, hlt with
  | 0, _ => rfl
  | 1, _ => rfl

/-- the lowest bit of a row -/
def low (f : Nat → Bool) : Nat := Lib.trailingZeros8 (mask f)

theorem low_tab : ∀ m : Fin 256, m.val ≠ 0 → Lib.trailingZeros8 m.val < 8 ∧ m.val.testBit (Lib.trailingZeros8 m.val) = true ∧
    (∀ i : Fin 8, i.val < Lib.trailingZeros8 m.val → m.val.testBit i.val = false) ∧
    (∀ i : Fin 8, (m.val &&& (m.val - 1)).testBit i.val = (m.val.testBit i.val && decide (Lib.trailingZeros8 m.val < i.val))) := by decide +kernel
theorem mask_ne (f : Nat → Bool) (h : mask f ≠ 0) : low f < 8 ∧ f (low f) = true ∧ (∀ i, i < low f → f i = false) ∧
    mask f &&& (mask f - 1) = mask (fun i => f i && decide (low f < i)) := by
  obtain ⟨h1, h2, h3, h4⟩ := low_tab ⟨mask f, mask_lt f⟩ h
  refine ⟨h1, ?_, ?_, ?_⟩
  · exact (mask_bit f (low f) h1).symm.trans h2
  · intro i hi
    have hi8 : i < 8 := Nat.lt_trans hi h1
    rw [← mask_bit f i hi8]; exact h3 ⟨i, hi8⟩ hi
  · refine mask_of (Nat.and_lt_two_pow (n := 8) _ (by have := mask_lt f; simp; omega)) fun i hi => ?_
    rw [← mask_bit f i hi]; exact h4 ⟨i, hi⟩
theorem mask_zero (f : Nat → Bool) (h : mask f = 0) (i : Nat) (hi : i < 8) : f i = false := by
  rw [← mask_bit f i hi, h]; simp
theorem mask_zero' : mask (fun _ => false) = 0 := by decide
theorem mask_all_false {f : Nat → Bool} (h : ∀ i, i < 8 → f i = false) : mask f = 0 := by
  rw [← mask_zero']; exact mask_ext h

/-- how many bits: those below n alone, and all of them -/
theorem ones_tab : ∀ m : Fin 256, ∀ n : Fin 9, (∀ i : Fin 8, n.val ≤ i.val → m.val.testBit i.val = false) →
    (Lib.onesCount m.val = n.val ↔ ∀ i : Fin 8, i.val < n.val → m.val.testBit i.val = true) := by decide +kernel
theorem ones (f : Nat → Bool) (n : Nat) (hn : n ≤ 8) (hf : ∀ i, n ≤ i → i < 8 → f i = false) :
    Lib.onesCount (mask f) = n ↔ ∀ i, i < n → f i = true := by
  have H := ones_tab ⟨mask f, mask_lt f⟩ ⟨n, by omega⟩ (fun i hi => by rw [mask_bit f _ i.isLt]; exact hf _ hi i.isLt)
  simp only at H
  rw [H]
  constructor
  · intro h i hi; rw [← mask_bit f i (by omega)]; exact h ⟨i, by omega⟩ hi
  · intro h i hi; rw [mask_bit f _ i.isLt]; exact h _ hi

/-- the first c from some place on that is in S and whose row has all of S; -1: none -/
def good (S : Nat → Bool) (R : Rel) (c : Nat) : Bool := S c && (mask (fun i => R c i && S i) == mask S)
def leastFrom (S : Nat → Bool) (R : Rel) : Nat → Nat → Int
  | 0, _ => -1
  | k + 1, c => if good S R c then c else leastFrom S R k (c + 1)
def leastOf (S : Nat → Bool) (R : Rel) : Int := leastFrom S R 8 0

theorem leastFrom_skip (S : Nat → Bool) (R : Rel) (c d : Nat) (hcd : c ≤ d) (hd : d ≤ 8) (h : ∀ i, c ≤ i → i < d → S i = false) :
    leastFrom S R (8 - c) c = leastFrom S R (8 - d) d := by
  obtain ⟨k, rfl⟩ : ∃ k, d = c + k := ⟨d - c, by omega⟩
  clear hcd
  induction k with
  | zero => rfl
  | succ k ih =>
    rw [ih (by omega) (fun i h1 h2 => h i h1 (by omega))]
    have e : 8 - (c + k) = (8 - (c + (k + 1))) + 1 := by omega
    rw [e, leastFrom]
    have hg : good S R (c + k) = false := by unfold good; rw [h (c + k) (by omega) (by omega)]; rfl
    rw [hg]; rfl
theorem leastFrom_hit (S : Nat → Bool) (R : Rel) (d : Nat) (hd : d < 8) (h : good S R d = true) : leastFrom S R (8 - d) d = d := by
  have e : 8 - d = (8 - (d + 1)) + 1 := by omega
  rw [e, leastFrom, if_pos h]
theorem leastFrom_miss (S : Nat → Bool) (R : Rel) (d : Nat) (hd : d < 8) (h : good S R d = false) : leastFrom S R (8 - d) d = leastFrom S R (8 - (d + 1)) (d + 1) := by
  have e : 8 - d = (8 - (d + 1)) + 1 := by omega
  conv => lhs; rw [e, leastFrom]
  rw [h]; rfl
theorem leastFrom_none (S : Nat → Bool) (R : Rel) (c : Nat) (hc : c ≤ 8) (h : ∀ i, c ≤ i → i < 8 → S i = false) : leastFrom S R (8 - c) c = -1 := by
  rw [leastFrom_skip S R c 8 hc (by omega) h]; rfl

end P
end Go.Proofs.Ytpikafadfailkaa
