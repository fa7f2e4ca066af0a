/- Parts of a proof: Ord, Plain. -/
import Derived.Below
import Derived.Laws.BitsLemmas
import Derived.Lib.BitFns
section
namespace Go.Proofs.YtpmjcbjdcjjplaaGreat
namespace P
abbrev Rel := Nat → Nat → Bool
def opp (R : Rel) : Rel := fun a b => R b a
def firstFrom (p : Nat → Bool) : Nat → Nat → Int
  | 0, _ => -1
  | k + 1, c => if p c then c else firstFrom p k (c + 1)
def firstN (n : Nat) (p : Nat → Bool) : Int := firstFrom p n 0
def allN (n : Nat) (p : Nat → Bool) : Bool := (List.range n).all p
theorem allN_iff {n : Nat} {p : Nat → Bool} : allN n p = true ↔ ∀ i, i < n → p i = true := by
  unfold allN; rw [List.all_eq_true]
  constructor
  · intro h i hi; exact h i (List.mem_range.2 hi)
  · intro h i hi; exact h i (List.mem_range.1 hi)
def Trans (R : Rel) : Prop := ∀ a b c, R a b = true → R b c = true → R a c = true
def Dom (n : Nat) (R : Rel) : Prop := ∀ a b, R a b = true → a < n ∧ b < n
def isLub (n : Nat) (L : Rel) (a b c : Nat) : Bool := L a c && L b c && allN n (fun d => !(L a d && L b d && !L c d))
def jn (n : Nat) (L : Rel) (a b : Nat) : Int := firstN n (isLub n L a b)
def mt (n : Nat) (L : Rel) (a b : Nat) : Int := jn n (opp L) a b
def badAt (n : Nat) (L : Rel) (a b : Nat) : Bool := (a != b && L a b && L b a) || decide (jn n L a b < 0) || decide (mt n L a b < 0)
def isLat (n : Nat) (L : Rel) : Bool := allN n fun a => allN n fun b => !badAt n L a b
structure Lat (n : Nat) (L : Rel) : Prop where
  one : 1 ≤ n
  dom : Dom n L
  refl : ∀ a, a < n → L a a = true
  trans : Trans L
  anti : ∀ a b, L a b = true → L b a = true → a = b
  join : ∀ a b, a < n → b < n → 0 ≤ jn n L a b
  meet : ∀ a b, a < n → b < n → 0 ≤ mt n L a b
theorem Lat.of {n : Nat} {L : Rel} (h1 : 1 ≤ n) (hd : Dom n L) (hr : ∀ a, a < n → L a a = true) (ht : Trans L) (h : isLat n L = true) : Lat n L := by
  have H : ∀ a b, a < n → b < n → badAt n L a b = false := by
    intro a b ha hb
    have := allN_iff.1 (allN_iff.1 h a ha) b hb
    simpa using this
  refine ⟨h1, hd, hr, ht, fun a b k1 k2 => ?_, fun a b ha hb => ?_, fun a b ha hb => ?_⟩
  · have := H a b (hd a b k1).1 (hd a b k1).2
    unfold badAt at this
    simp only [Bool.or_eq_false_iff] at this
    have h3 := this.1.1
    rw [k1, k2] at h3
    simpa using h3
  · have := H a b ha hb
    unfold badAt at this
    simp only [Bool.or_eq_false_iff] at this
    have h3 := this.1.2
    simpa using h3
  · have := H a b ha hb
    unfold badAt at this
    simp only [Bool.or_eq_false_iff] at this
    have h3 := this.2
    simpa using h3
def mm (n : Nat) (L : Rel) (a b : Nat) : Nat := (mt n L a b).toNat
section
variable {n : Nat} {L : Rel} (h : Lat n L)
include h
def foldM (n : Nat) (L : Rel) : Nat → Nat
  | 0 => 0
  | k + 1 => if k = 0 then 0 else mm n L (foldM n L k) k
end
def top (n : Nat) (L : Rel) : Nat := foldM n (opp L) n
section
variable {n : Nat} {L : Rel} (h : Lat n L)
include h
end
end P
end Go.Proofs.YtpmjcbjdcjjplaaGreat
end
section
namespace Go.Proofs.YtpmjcbjdcjjplaaGreat
namespace P
def mk8 (b0 b1 b2 b3 b4 b5 b6 b7 : Bool) : Nat :=
  b0.toNat + 2 * b1.toNat + 4 * b2.toNat + 8 * b3.toNat + 16 * b4.toNat + 32 * b5.toNat + 64 * b6.toNat + 128 * b7.toNat
def mask (f : Nat → Bool) : Nat := mk8 (f 0) (f 1) (f 2) (f 3) (f 4) (f 5) (f 6) (f 7)
theorem mask_ext {f g : Nat → Bool} (h : ∀ i, i < 8 → f i = g i) : mask f = mask g := by
  unfold mask
  rw [h 0 (by omega), h 1 (by omega), h 2 (by omega), h 3 (by omega), h 4 (by omega), h 5 (by omega), h 6 (by omega), h 7 (by omega)]
def low (f : Nat → Bool) : Nat := Lib.trailingZeros8 (mask f)
end P
end Go.Proofs.YtpmjcbjdcjjplaaGreat
end
