/- Plain mathematics of orders on the labels below n: closures, least ones, what a lattice is and what follows. No program in sight. -/
import Derived.Below
namespace Go.Proofs.Ytpikafadfailkaa
namespace P

abbrev Rel := Nat → Nat → Bool
def opp (R : Rel) : Rel := fun a b => R b a

/-- the first c from some place on with p, of so many; -1: none -/
def firstFrom (p : Nat → Bool) : Nat → Nat → Int
  | 0, _ => -1
  | k + 1, c => if p c then c else firstFrom p k (c + 1)
def firstN (n : Nat) (p : Nat → Bool) : Int := firstFrom p n 0
def allN (n : Nat) (p : Nat → Bool) : Bool := (List.range n).all p

theorem allN_iff {n : Nat} {p : Nat → Bool} : allN n p = true ↔ ∀ i, i < n → p i = true := by
  unfold allN; rw [List.all_eq_true]
  constructor
  · intro h i hi; exact h i (List.mem_range.2 hi)
  · intro h i hi; exact h i (List.mem_range.1 hi)
theorem firstFrom_cases (p : Nat → Bool) (k : Nat) : ∀ c, (firstFrom p k c = -1 ∧ ∀ i, c ≤ i → i < c + k → p i = false) ∨
    ∃ d, c ≤ d ∧ d < c + k ∧ firstFrom p k c = d ∧ p d = true ∧ ∀ i, c ≤ i → i < d → p i = false := by
  induction k with
  | zero => intro c; exact .inl ⟨rfl, fun i h1 h2 => by omega⟩
  | succ k ih =>
    intro c
    rw [firstFrom]
    cases hp : p c with
    | true => exact .inr ⟨c, by omega, by omega, by simp, hp, fun i h1 h2 => by omega⟩
    | false =>
      rcases ih (c + 1) with ⟨h1, h2⟩ | ⟨d, h1, h2, h3, h4, h5⟩
      · refine .inl ⟨by simpa using h1, fun i hi hj => ?_⟩
        by_cases e : i = c
        · subst e; exact hp
        · exact h2 i (by omega) (by omega)
      · refine .inr ⟨d, by omega, by omega, by simpa using h3, h4, fun i hi hj => ?_⟩
        by_cases e : i = c
        · subst e; exact hp
        · exact h5 i (by omega) hj
theorem firstN_cases (n : Nat) (p : Nat → Bool) : (firstN n p = -1 ∧ ∀ i, i < n → p i = false) ∨
    ∃ d, d < n ∧ firstN n p = d ∧ p d = true ∧ ∀ i, i < d → p i = false := by
  rcases firstFrom_cases p n 0 with ⟨h1, h2⟩ | ⟨d, _, h2, h3, h4, h5⟩
  · exact .inl ⟨h1, fun i hi => h2 i (by omega) (by omega)⟩
  · exact .inr ⟨d, by omega, h3, h4, fun i hi => h5 i (by omega) hi⟩
theorem firstN_hit {n : Nat} {p : Nat → Bool} {d : Nat} (hd : d < n) (h : p d = true) (hb : ∀ i, i < d → p i = false) : firstN n p = d := by
  rcases firstN_cases n p with ⟨_, h2⟩ | ⟨e, h1, h2, h3, h4⟩
  · rw [h2 d hd] at h; cases h
  · rcases Nat.lt_trichotomy d e with hl | he | hg
    · rw [h4 d hl] at h; cases h
    · rw [he]; exact h2
    · rw [hb e hg] at h3; cases h3
theorem firstN_miss {n : Nat} {p : Nat → Bool} (h : ∀ i, i < n → p i = false) : firstN n p = -1 := by
  rcases firstN_cases n p with ⟨h1, _⟩ | ⟨e, h1, _, h3, _⟩
  · exact h1
  · rw [h e h1] at h3; cases h3
theorem firstN_congr {n : Nat} {p q : Nat → Bool} (h : ∀ i, i < n → p i = q i) : firstN n p = firstN n q := by
  rcases firstN_cases n q with ⟨h1, h2⟩ | ⟨e, h1, h2, h3, h4⟩
  · rw [h1]; exact firstN_miss fun i hi => by rw [h i hi]; exact h2 i hi
  · rw [h2]; exact firstN_hit h1 (by rw [h e h1]; exact h3) fun i hi => by rw [h i (by omega)]; exact h4 i hi
theorem firstN_more {n m : Nat} {p : Nat → Bool} (hnm : n ≤ m) (h : ∀ i, n ≤ i → i < m → p i = false) : firstN m p = firstN n p := by
  rcases firstN_cases n p with ⟨h1, h2⟩ | ⟨e, h1, h2, h3, h4⟩
  · rw [h1]; refine firstN_miss fun i hi => ?_
    by_cases hin : i < n
    · exact h2 i hin
    · exact h i (by omega) hi
  · rw [h2]; exact firstN_hit (by omega) h3 h4

/-- one round of the closing: by way of k -/
def via (R : Rel) (k : Nat) : Rel := fun a c => R a c || (R a k && R k c)
def clo (R : Rel) : Nat → Rel
  | 0 => R
  | k + 1 => via (clo R k) k

def Trans (R : Rel) : Prop := ∀ a b c, R a b = true → R b c = true → R a c = true
def Sub (R T : Rel) : Prop := ∀ a c, R a c = true → T a c = true
def Thru (R : Rel) (j : Nat) : Prop := ∀ a c, R a j = true → R j c = true → R a c = true
def Dom (n : Nat) (R : Rel) : Prop := ∀ a b, R a b = true → a < n ∧ b < n

theorem via_iff {R : Rel} {k a c : Nat} : via R k a c = true ↔ R a c = true ∨ (R a k = true ∧ R k c = true) := by
  unfold via; simp
theorem via_sub (R : Rel) (k : Nat) : Sub R (via R k) := fun _ _ h => via_iff.2 (.inl h)
theorem via_self (R : Rel) (k : Nat) : Thru (via R k) k := by
  intro a c h1 h2
  rcases via_iff.1 h1 with h1 | ⟨h1, _⟩ <;> rcases via_iff.1 h2 with h2 | ⟨_, h2⟩ <;> exact via_iff.2 (.inr ⟨h1, h2⟩)
theorem via_keep {R : Rel} {k j : Nat} (h : Thru R j) : Thru (via R k) j := by
  intro a c h1 h2
  rcases via_iff.1 h1 with h1 | ⟨h1, h1'⟩ <;> rcases via_iff.1 h2 with h2 | ⟨h2, h2'⟩
  · exact via_iff.2 (.inl (h _ _ h1 h2))
  · exact via_iff.2 (.inr ⟨h _ _ h1 h2, h2'⟩)
  · exact via_iff.2 (.inr ⟨h1, h _ _ h1' h2⟩)
  · exact via_iff.2 (.inr ⟨h1, h2'⟩)
theorem clo_sub (R : Rel) (k : Nat) : Sub R (clo R k) := by
  induction k with
  | zero => exact fun _ _ h => h
  | succ k ih => exact fun a c h => via_sub _ _ a c (ih a c h)
theorem clo_thru (R : Rel) (k : Nat) : ∀ j, j < k → Thru (clo R k) j := by
  induction k with
  | zero => intro j hj; omega
  | succ k ih =>
    intro j hj
    by_cases e : j = k
    · subst e; exact via_self _ _
    · exact via_keep (ih j (by omega))
theorem clo_least {R T : Rel} (hT : Trans T) (h : Sub R T) (k : Nat) : Sub (clo R k) T := by
  induction k with
  | zero => exact h
  | succ k ih =>
    intro a c hac
    rcases via_iff.1 hac with h1 | ⟨h1, h2⟩
    · exact ih a c h1
    · exact hT a k c (ih a k h1) (ih k c h2)
theorem clo_dom {n : Nat} {R : Rel} (h : Dom n R) (k : Nat) : Dom n (clo R k) := by
  induction k with
  | zero => exact h
  | succ k ih =>
    intro a c hac
    rcases via_iff.1 hac with h1 | ⟨h1, h2⟩
    · exact ih a c h1
    · exact ⟨(ih a k h1).1, (ih k c h2).2⟩
theorem clo_trans {n : Nat} {R : Rel} (h : Dom n R) : Trans (clo R n) :=
  fun a b c h1 h2 => clo_thru R n b (clo_dom h n a b h1).2 a c h1 h2
theorem clo_mono {n : Nat} {R : Rel} (h : Dom n R) (k : Nat) : Sub (clo R k) (clo R n) := clo_least (clo_trans h) (clo_sub R n) k
theorem sub_antisymm {R T : Rel} (h : Sub R T) (k : Sub T R) : R = T := by
  funext a b
  rw [Bool.eq_iff_iff]; exact ⟨h a b, k a b⟩
/-- what lies between the closing's eight rounds and the closed order is the closed order -/
theorem clo_squeeze {n : Nat} {R L : Rel} (hn : n ≤ 8) (h1 : Sub (clo R 8) L) (h2 : Sub L (clo R n)) : L = clo R n := by
  refine sub_antisymm h2 fun a c h => h1 a c ?_
  have : ∀ m k, Sub (clo R k) (clo R (k + m)) := by
    intro m k
    induction m with
    | zero => exact fun _ _ h => h
    | succ m ih => exact fun a c h => via_sub _ _ a c (ih a c h)
  have := this (8 - n) n a c h
  rwa [show n + (8 - n) = 8 from by omega] at this

/-- the join, the meet: -1: there is none -/
def isLub (n : Nat) (L : Rel) (a b c : Nat) : Bool := L a c && L b c && allN n (fun d => !(L a d && L b d && !L c d))
def jn (n : Nat) (L : Rel) (a b : Nat) : Int := firstN n (isLub n L a b)
def mt (n : Nat) (L : Rel) (a b : Nat) : Int := jn n (opp L) a b

theorem isLub_iff {n : Nat} {L : Rel} {a b c : Nat} : isLub n L a b c = true ↔ L a c = true ∧ L b c = true ∧ ∀ d, d < n → L a d = true → L b d = true → L c d = true := by
  unfold isLub
  rw [Bool.and_eq_true, Bool.and_eq_true, allN_iff, and_assoc]
  refine and_congr_right fun _ => and_congr_right fun _ => ⟨fun h d hd h1 h2 => ?_, fun h d hd => ?_⟩
  · have := h d hd; rw [h1, h2] at this; simpa using this
  · cases h1 : L a d <;> cases h2 : L b d <;> simp
    exact h d hd h1 h2
theorem jn_comm (n : Nat) (L : Rel) (a b : Nat) : jn n L a b = jn n L b a := by
  unfold jn
  refine firstN_congr fun c _ => ?_
  rw [Bool.eq_iff_iff, isLub_iff, isLub_iff]
  exact ⟨fun ⟨h1, h2, h3⟩ => ⟨h2, h1, fun d hd k1 k2 => h3 d hd k2 k1⟩, fun ⟨h1, h2, h3⟩ => ⟨h2, h1, fun d hd k1 k2 => h3 d hd k2 k1⟩⟩

/-- what is wrong of two labels; is it a lattice? -/
def badAt (n : Nat) (L : Rel) (a b : Nat) : Bool := (a != b && L a b && L b a) || decide (jn n L a b < 0) || decide (mt n L a b < 0)
def isLat (n : Nat) (L : Rel) : Bool := allN n fun a => allN n fun b => !badAt n L a b

/-- A LATTICE of the labels below n. -/
structure Lat (n : Nat) (L : Rel) : Prop where
  one : 1 ≤ n
  dom : Dom n L
  refl : ∀ a, a < n → L a a = true
  trans : Trans L
  anti : ∀ a b, L a b = true → L b a = true → a = b
  join : ∀ a b, a < n → b < n → 0 ≤ jn n L a b
  meet : ∀ a b, a < n → b < n → 0 ≤ mt n L a b

theorem Lat.dual {n : Nat} {L : Rel} (h : Lat n L) : Lat n (opp L) :=
  ⟨h.one, fun a b k => ⟨(h.dom b a k).2, (h.dom b a k).1⟩, h.refl, fun a b c k1 k2 => h.trans c b a k2 k1, fun a b k1 k2 => h.anti a b k2 k1, h.meet, h.join⟩

theorem Lat.of {n : Nat} {L : Rel} (h1 : 1 ≤ n) (hd : Dom n L) (hr : ∀ a, a < n → L a a = true) (ht : Trans L) (h : isLat n L = true) : Lat n L := by
  have H : ∀ a b, a < n → b < n → badAt n L a b = false := by
    intro a b ha hb
    have := allN_iff.1 (allN_iff.1 h a ha) b hb
    simpa using this
  refine ⟨h1, hd, hr, ht, fun a b k1 k2 => ?_, fun a b ha hb => ?_, fun a b ha hb => ?_⟩
  · have := H a b (hd a b k1).1 (hd a b k1).2
    unfold badAt at this
    simp only [Bool.or_eq_false_iff] at this
    have h3 := this.1.1
    rw [k1, k2] at h3
    simpa using h3
  · have := H a b ha hb
    unfold badAt at this
    simp only [Bool.or_eq_false_iff] at this
    have h3 := this.1.2
    simpa using h3
  · have := H a b ha hb
    unfold badAt at this
    simp only [Bool.or_eq_false_iff] at this
    have h3 := this.2
    simpa using h3
theorem Lat.is {n : Nat} {L : Rel} (h : Lat n L) : isLat n L = true := by
  refine allN_iff.2 fun a ha => allN_iff.2 fun b hb => ?_
  have h1 := h.join a b ha hb
  have h2 := h.meet a b ha hb
  have h3 : (a != b && L a b && L b a) = false := by
    cases k1 : L a b
    · simp
    · cases k2 : L b a
      · simp
      · have := h.anti a b k1 k2; simp [this]
  unfold badAt
  rw [h3]
  simp; omega

/-- the join as a label -/
def jj (n : Nat) (L : Rel) (a b : Nat) : Nat := (jn n L a b).toNat
def mm (n : Nat) (L : Rel) (a b : Nat) : Nat := (mt n L a b).toNat

section
variable {n : Nat} {L : Rel} (h : Lat n L)
include h
theorem Lat.jj_spec {a b : Nat} (ha : a < n) (hb : b < n) : jn n L a b = jj n L a b ∧ jj n L a b < n ∧ L a (jj n L a b) = true ∧ L b (jj n L a b) = true ∧
    ∀ d, L a d = true → L b d = true → L (jj n L a b) d = true := by
  have h0 := h.join a b ha hb
  rcases firstN_cases n (isLub n L a b) with ⟨h1, _⟩ | ⟨c, h1, h2, h3, _⟩
  · unfold jn at h0; omega
  · have e : jn n L a b = c := h2
    obtain ⟨k1, k2, k3⟩ := isLub_iff.1 h3
    have e2 : jj n L a b = c := by unfold jj; rw [e]; simp
    rw [e2]
    exact ⟨e, h1, k1, k2, fun d hd he => k3 d (h.dom _ _ hd).2 hd he⟩
theorem Lat.jj_eq {a b c : Nat} (h1 : L a c = true) (h2 : L b c = true) (h3 : ∀ d, L a d = true → L b d = true → L c d = true) : jj n L a b = c := by
  obtain ⟨_, _, k1, k2, k3⟩ := h.jj_spec (h.dom _ _ h1).1 (h.dom _ _ h2).1
  exact h.anti _ _ (k3 c h1 h2) (h3 _ k1 k2)
theorem Lat.mm_spec {a b : Nat} (ha : a < n) (hb : b < n) : mt n L a b = mm n L a b ∧ mm n L a b < n ∧ L (mm n L a b) a = true ∧ L (mm n L a b) b = true ∧
    ∀ d, L d a = true → L d b = true → L d (mm n L a b) = true := h.dual.jj_spec ha hb
theorem Lat.mm_eq {a b c : Nat} (h1 : L c a = true) (h2 : L c b = true) (h3 : ∀ d, L d a = true → L d b = true → L d c = true) : mm n L a b = c :=
  h.dual.jj_eq (a := a) (b := b) (c := c) h1 h2 h3
theorem Lat.jj_lt {a b : Nat} (ha : a < n) (hb : b < n) : jj n L a b < n := (h.jj_spec ha hb).2.1
theorem Lat.mm_lt {a b : Nat} (ha : a < n) (hb : b < n) : mm n L a b < n := (h.mm_spec ha hb).2.1
omit h in
theorem jj_comm (a b : Nat) : jj n L a b = jj n L b a := by unfold jj; rw [jn_comm]
omit h in
theorem mm_comm (a b : Nat) : mm n L a b = mm n L b a := by unfold mm mt; rw [jn_comm]
theorem Lat.jj_assoc {a b c : Nat} (ha : a < n) (hb : b < n) (hc : c < n) : jj n L a (jj n L b c) = jj n L (jj n L a b) c := by
  obtain ⟨_, l1, u1, u2, u3⟩ := h.jj_spec ha hb
  obtain ⟨_, l2, v1, v2, v3⟩ := h.jj_spec hb hc
  obtain ⟨_, _, x1, x2, x3⟩ := h.jj_spec l1 hc
  refine h.jj_eq (h.trans _ _ _ u1 x1) (v3 _ (h.trans _ _ _ u2 x1) x2) fun d k1 k2 => ?_
  exact x3 d (u3 d k1 (h.trans _ _ _ v1 k2)) (h.trans _ _ _ v2 k2)
theorem Lat.mm_assoc {a b c : Nat} (ha : a < n) (hb : b < n) (hc : c < n) : mm n L a (mm n L b c) = mm n L (mm n L a b) c := h.dual.jj_assoc ha hb hc
theorem Lat.jj_self {a : Nat} (ha : a < n) : jj n L a a = a := h.jj_eq (h.refl a ha) (h.refl a ha) fun _ k _ => k
theorem Lat.mm_self {a : Nat} (ha : a < n) : mm n L a a = a := h.dual.jj_self ha
theorem Lat.jj_absorb {a b : Nat} (ha : a < n) (hb : b < n) : jj n L a (mm n L a b) = a := by
  obtain ⟨_, _, u1, _, _⟩ := h.mm_spec ha hb
  exact h.jj_eq (h.refl a ha) u1 fun _ k _ => k
theorem Lat.mm_absorb {a b : Nat} (ha : a < n) (hb : b < n) : mm n L a (jj n L a b) = a := h.dual.jj_absorb ha hb
theorem Lat.leq_jj {a b : Nat} (ha : a < n) (hb : b < n) : L a b = decide (jj n L a b = b) := by
  obtain ⟨_, _, u1, u2, u3⟩ := h.jj_spec ha hb
  rw [Bool.eq_iff_iff, decide_eq_true_iff]
  exact ⟨fun k => h.jj_eq k (h.refl b hb) fun _ _ k2 => k2, fun k => by rw [k] at u1; exact u1⟩

/-- the least of the labels below k and 0; the least label -/
def foldM (n : Nat) (L : Rel) : Nat → Nat
  | 0 => 0
  | k + 1 => if k = 0 then 0 else mm n L (foldM n L k) k
theorem Lat.foldM_spec : ∀ k, 1 ≤ k → k ≤ n → foldM n L k < n ∧ ∀ x, x < k → L (foldM n L k) x = true := by
  intro k
  induction k with
  | zero => intro h1; omega
  | succ k ih =>
    intro _ hk
    by_cases e : k = 0
    · subst e
      refine ⟨by simp [foldM]; omega, fun x hx => ?_⟩
      have : x = 0 := by omega
      subst this
      exact h.refl 0 (by omega)
    · obtain ⟨h1, h2⟩ := ih (by omega) (by omega)
      obtain ⟨_, h3, h4, h5, _⟩ := h.mm_spec h1 (show k < n by omega)
      simp only [foldM, if_neg e]
      refine ⟨h3, fun x hx => ?_⟩
      by_cases e2 : x = k
      · subst e2; exact h5
      · exact h.trans _ _ _ h4 (h2 x (by omega))
end
/-- the ends -/
def bot (n : Nat) (L : Rel) : Nat := foldM n L n
def top (n : Nat) (L : Rel) : Nat := foldM n (opp L) n
section
variable {n : Nat} {L : Rel} (h : Lat n L)
include h
theorem Lat.bot_lt : bot n L < n := (h.foldM_spec n h.one (Nat.le_refl _)).1
theorem Lat.bot_le (x : Nat) (hx : x < n) : L (bot n L) x = true := (h.foldM_spec n h.one (Nat.le_refl _)).2 x hx
theorem Lat.top_lt : top n L < n := h.dual.bot_lt
theorem Lat.le_top (x : Nat) (hx : x < n) : L x (top n L) = true := h.dual.bot_le x hx
theorem Lat.bot_eq {a : Nat} (h1 : ∀ x, x < n → L a x = true) : a = bot n L :=
  h.anti _ _ (h1 _ h.bot_lt) (h.bot_le a (h.dom _ _ (h1 _ h.bot_lt)).1)
theorem Lat.top_eq {a : Nat} (h1 : ∀ x, x < n → L x a = true) : a = top n L := h.dual.bot_eq h1
theorem Lat.jj_bot {a : Nat} (ha : a < n) : jj n L (bot n L) a = a := h.jj_eq (h.bot_le a ha) (h.refl a ha) fun _ _ k => k
theorem Lat.mm_top {a : Nat} (ha : a < n) : mm n L (top n L) a = a := h.dual.jj_bot ha
end

/-- what Make is given and what it makes -/
def isLb (n a : Int) : Bool := decide (0 ≤ a) && decide (a < n)
def okPairs (n : Int) (ps : List (Int × Int)) : Bool := ps.all fun p => isLb n p.1 && isLb n p.2
def rel0 (n : Nat) (ps : List (Int × Int)) : Rel := fun a b => decide (a < n) && decide (b < n) && (a == b || ps.any fun p => p.1 == (a : Int) && p.2 == (b : Int))
def ordOf (n : Nat) (ps : List (Int × Int)) : Rel := clo (rel0 n ps) n
def makeE (n : Int) (ps : List (Int × Int)) : Int :=
  if n < 1 ∨ 8 < n ∨ 64 < ps.length then 2 else if okPairs n ps = false then 2 else if isLat n.toNat (ordOf n.toNat ps) then 0 else 16

theorem rel0_dom (n : Nat) (ps : List (Int × Int)) : Dom n (rel0 n ps) := by
  intro a b h
  unfold rel0 at h
  simp only [Bool.and_eq_true, decide_eq_true_eq] at h
  exact h.1
theorem rel0_refl {n : Nat} (ps : List (Int × Int)) {a : Nat} (ha : a < n) : rel0 n ps a a = true := by
  unfold rel0; simp [ha]
theorem ordOf_dom (n : Nat) (ps : List (Int × Int)) : Dom n (ordOf n ps) := clo_dom (rel0_dom n ps) n
theorem ordOf_refl {n : Nat} (ps : List (Int × Int)) {a : Nat} (ha : a < n) : ordOf n ps a a = true := clo_sub _ _ _ _ (rel0_refl ps ha)
theorem ordOf_trans (n : Nat) (ps : List (Int × Int)) : Trans (ordOf n ps) := clo_trans (rel0_dom n ps)
theorem ordOf_lat {n : Nat} {ps : List (Int × Int)} (h1 : 1 ≤ n) (h : isLat n (ordOf n ps) = true) : Lat n (ordOf n ps) :=
  Lat.of h1 (ordOf_dom n ps) (fun _ ha => ordOf_refl ps ha) (ordOf_trans n ps) h
/-- Make's four ways -/
theorem makeE_cases (n : Int) (ps : List (Int × Int)) :
    ((n < 1 ∨ 8 < n ∨ 64 < ps.length) ∧ makeE n ps = 2) ∨
    (∃ k : Nat, n = k ∧ 1 ≤ k ∧ k ≤ 8 ∧ ps.length ≤ 64 ∧ ((okPairs n ps = false ∧ makeE n ps = 2) ∨
      (okPairs n ps = true ∧ isLat k (ordOf k ps) = false ∧ makeE n ps = 16) ∨ (okPairs n ps = true ∧ Lat k (ordOf k ps) ∧ makeE n ps = 0))) := by
  by_cases h : n < 1 ∨ 8 < n ∨ 64 < ps.length
  · exact .inl ⟨h, by unfold makeE; rw [if_pos h]⟩
  · refine .inr ⟨n.toNat, by omega, by omega, by omega, by omega, ?_⟩
    cases h2 : okPairs n ps with
    | false => exact .inl ⟨rfl, by unfold makeE; rw [if_neg h, if_pos h2]⟩
    | true =>
      cases h3 : isLat n.toNat (ordOf n.toNat ps) with
      | false => exact .inr (.inl ⟨rfl, rfl, by unfold makeE; rw [if_neg h, if_neg (by simp [h2]), if_neg (by simp [h3])]⟩)
      | true => exact .inr (.inr ⟨rfl, ordOf_lat (by omega) h3, by unfold makeE; rw [if_neg h, if_neg (by simp [h2]), if_pos h3]⟩)

/-- an order turned round -/
def turn (ps : List (Int × Int)) : List (Int × Int) := ps.map fun p => (p.2, p.1)
theorem rel0_turn (n : Nat) (ps : List (Int × Int)) : rel0 n (turn ps) = opp (rel0 n ps) := by
  funext a b
  unfold rel0 turn opp
  rw [List.any_map]
  have e1 : (a == b) = (b == a) := by rw [Bool.eq_iff_iff]; simp; exact eq_comm
  have e2 : ((fun p : Int × Int => p.1 == (a : Int) && p.2 == (b : Int)) ∘ fun p : Int × Int => (p.2, p.1)) = fun p => p.1 == (b : Int) && p.2 == (a : Int) := by
    funext p; simp [Bool.and_comm]
  rw [e1, e2, Bool.and_comm (decide (a < n))]
theorem clo_flip (R : Rel) (k : Nat) : clo (opp R) k = opp (clo R k) := by
  induction k with
  | zero => rfl
  | succ k ih =>
    show via (clo (opp R) k) k = opp (via (clo R k) k)
    rw [ih]; funext a c; simp [via, opp, Bool.and_comm]
theorem ordOf_turn (n : Nat) (ps : List (Int × Int)) : ordOf n (turn ps) = opp (ordOf n ps) := by
  unfold ordOf; rw [rel0_turn, clo_flip]
theorem badAt_flip (n : Nat) (L : Rel) (a b : Nat) : badAt n (opp L) a b = badAt n L a b := by
  unfold badAt mt opp
  rw [Bool.and_assoc, Bool.and_comm (L b a), ← Bool.and_assoc, Bool.or_assoc, Bool.or_comm (decide (jn n (fun a b => L b a) a b < 0)), ← Bool.or_assoc]
theorem isLat_flip (n : Nat) (L : Rel) : isLat n (opp L) = isLat n L := by
  unfold isLat; simp only [badAt_flip]
theorem okPairs_turn (n : Int) (ps : List (Int × Int)) : okPairs n (turn ps) = okPairs n ps := by
  unfold okPairs turn; rw [List.all_map]
  have e : ((fun p : Int × Int => isLb n p.1 && isLb n p.2) ∘ fun p : Int × Int => (p.2, p.1)) = fun p => isLb n p.1 && isLb n p.2 := by
    funext p; simp [Bool.and_comm]
  rw [e]
theorem makeE_turn (n : Int) (ps : List (Int × Int)) : makeE n (turn ps) = makeE n ps := by
  unfold makeE; rw [okPairs_turn, ordOf_turn, isLat_flip]; simp [turn]

end P
end Go.Proofs.Ytpikafadfailkaa
