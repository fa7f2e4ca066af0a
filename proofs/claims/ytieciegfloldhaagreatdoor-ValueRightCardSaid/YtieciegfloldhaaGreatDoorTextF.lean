/- No program: two floats' texts are one just if their order says that they are the same. -/
import Derived.Test.YtieciegfloldhaaGreatDoorTextP
import Derived.Test.YtieciegfloldhaaGreatDoorVFlt
import Derived.Lib.ItoaMem
namespace Go.Proofs.YtieciegfloldhaaGreatDoor
open Go
set_option linter.unusedVariables false

def digB (c : UInt8) : Bool := decide (48 ≤ c.toNat) && decide (c.toNat ≤ 57)
def stopP (P : UInt8 → Bool) (r : List UInt8) : Prop := ∀ c t, r = c :: t → P c = false
theorem run_eq (P : UInt8 → Bool) : ∀ a b x y : List UInt8, (∀ c ∈ a, P c = true) → (∀ c ∈ b, P c = true) → stopP P x → stopP P y → a ++ x = b ++ y → a = b ∧ x = y
  | [], [], x, y, _, _, _, _, h => ⟨rfl, h⟩
  | [], c :: b, x, y, _, hb, hx, _, h => by
    have := hx c (b ++ y) h
    rw [hb c (List.mem_cons_self ..)] at this; cases this
  | c :: a, [], x, y, ha, _, _, hy, h => by
    have := hy c (a ++ x) h.symm
    rw [ha c (List.mem_cons_self ..)] at this; cases this
  | c :: a, d :: b, x, y, ha, hb, hx, hy, h => by
    rw [List.cons_append, List.cons_append] at h
    injection h with h1 h2
    obtain ⟨h3, h4⟩ := run_eq P a b x y (fun c hc => ha c (List.mem_cons_of_mem _ hc)) (fun c hc => hb c (List.mem_cons_of_mem _ hc)) hx hy h2
    exact ⟨by rw [h1, h3], h4⟩
theorem dig_of {n : Nat} (h : n < 10) : digB (UInt8.ofNat (48 + n)) = true := by
  have : ∀ k : Fin 10, digB (UInt8.ofNat (48 + k.val)) = true := by decide
  exact this ⟨n, h⟩
theorem dec_dig (n : Nat) : ∀ c ∈ Lib.decDigits n, digB c = true := by
  induction n using Nat.strongRecOn with
  | ind n ih =>
    rw [Lib.decDigits]
    split
    · rename_i h
      intro c hc
      rw [List.mem_singleton] at hc
      subst hc; exact dig_of h
    · rename_i h
      intro c hc
      rcases List.mem_append.1 hc with hc | hc
      · exact ih (n / 10) (by omega) c hc
      · rw [List.mem_singleton] at hc
        subst hc; exact dig_of (by omega)
theorem dec_ne (n : Nat) : Lib.decDigits n ≠ [] := by
  rw [Lib.decDigits]; split <;> simp
theorem dec_more {n : Nat} (h : ¬ n < 10) : Lib.decDigits n = Lib.decDigits (n / 10) ++ [UInt8.ofNat (48 + n % 10)] := by
  rw [Lib.decDigits, dif_neg h]
theorem one_inj {m n : Nat} (hm : m < 10) (hn : n < 10) (h : UInt8.ofNat (48 + m) = UInt8.ofNat (48 + n)) : m = n := by
  have h1 := congrArg UInt8.toNat h
  rw [UInt8.toNat_ofNat', UInt8.toNat_ofNat'] at h1
  omega
theorem dec_inj (m : Nat) : ∀ n, Lib.decDigits m = Lib.decDigits n → m = n := by
  induction m using Nat.strongRecOn with
  | ind m ih =>
    intro n h
    by_cases hm : m < 10
    · by_cases hn : n < 10
      · rw [Lib.decDigits_one hm, Lib.decDigits_one hn] at h
        injection h with h1 _
        exact one_inj hm hn h1
      · exfalso
        rw [Lib.decDigits_one hm, Lib.decDigits, dif_neg hn] at h
        have h1 := congrArg List.length h
        have h2 : (Lib.decDigits (n / 10)).length ≠ 0 := fun e => dec_ne _ (List.eq_nil_of_length_eq_zero e)
        rw [List.length_append] at h1
        simp only [List.length_cons, List.length_nil] at h1
        omega
    · by_cases hn : n < 10
      · exfalso
        rw [Lib.decDigits_one hn, Lib.decDigits, dif_neg hm] at h
        have h1 := congrArg List.length h
        have h2 : (Lib.decDigits (m / 10)).length ≠ 0 := fun e => dec_ne _ (List.eq_nil_of_length_eq_zero e)
        rw [List.length_append] at h1
        simp only [List.length_cons, List.length_nil] at h1
        omega
      · rw [dec_more hm, dec_more hn] at h
        have h1 := List.append_inj' h rfl
        have h3 := ih (m / 10) (by omega) (n / 10) h1.1
        have h4 := one_inj (by omega) (by omega) (List.cons.inj h1.2).1
        omega
theorem itoa_cases (n : Int) : (0 ≤ n ∧ Lib.itoa n = Lib.decDigits n.toNat) ∨ (n < 0 ∧ Lib.itoa n = 45 :: Lib.decDigits n.natAbs) := by
  unfold Lib.itoa
  by_cases h : n < 0
  · rw [if_pos h]; exact .inr ⟨h, rfl⟩
  · rw [if_neg h]; exact .inl ⟨by omega, rfl⟩
theorem dec_head (n : Nat) (x : List UInt8) : ∃ c t, Lib.decDigits n ++ x = c :: t ∧ digB c = true := by
  cases h : Lib.decDigits n with
  | nil => exact (dec_ne n h).elim
  | cons c t => exact ⟨c, t ++ x, rfl, dec_dig n c (by rw [h]; exact List.mem_cons_self ..)⟩
theorem dig_no {c : UInt8} (h : digB c = true) : c ≠ 45 ∧ c ≠ 105 ∧ c ≠ 110 := by
  refine ⟨?_, ?_, ?_⟩ <;> (rintro rfl; exact absurd h (by decide))
theorem itoa_run {a b : Int} {x y : List UInt8} (hx : stopP digB x) (hy : stopP digB y) (h : Lib.itoa a ++ x = Lib.itoa b ++ y) : a = b ∧ x = y := by
  rcases itoa_cases a with ⟨ha, ea⟩ | ⟨ha, ea⟩ <;> rcases itoa_cases b with ⟨hb, eb⟩ | ⟨hb, eb⟩ <;> rw [ea, eb] at h
  · obtain ⟨h1, h2⟩ := run_eq digB _ _ x y (dec_dig _) (dec_dig _) hx hy h
    exact ⟨by have := dec_inj _ _ h1; omega, h2⟩
  · obtain ⟨c, t, h1, h2⟩ := dec_head a.toNat x
    rw [h1, List.cons_append] at h
    exact ((dig_no h2).1 (List.cons.inj h).1).elim
  · obtain ⟨c, t, h1, h2⟩ := dec_head b.toNat y
    rw [h1, List.cons_append] at h
    exact ((dig_no h2).1 (List.cons.inj h).1.symm).elim
  · rw [List.cons_append, List.cons_append] at h
    obtain ⟨h1, h2⟩ := run_eq digB _ _ x y (dec_dig _) (dec_dig _) hx hy (List.cons.inj h).2
    exact ⟨by have := dec_inj _ _ h1; omega, h2⟩
/-! values -/
theorem red_val : ∀ (k m : Nat) (e : Int), 0 < m → m < 2 ^ k → (redF k m e).1 % 2 = 1 ∧ e ≤ (redF k m e).2 ∧ (redF k m e).1 * 2 ^ ((redF k m e).2 - e).toNat = m
  | 0, m, e, h0, h => by rw [Nat.pow_zero] at h; omega
  | k + 1, m, e, h0, h => by
    by_cases hm : m % 2 = 0
    · rw [red_even hm]
      obtain ⟨h1, h2, h3⟩ := red_val k (m / 2) (e + 1) (by omega) (by rw [Nat.pow_succ] at h; omega)
      refine ⟨h1, by omega, ?_⟩
      rw [show ((redF k (m / 2) (e + 1)).2 - e).toNat = ((redF k (m / 2) (e + 1)).2 - (e + 1)).toNat + 1 by omega, Nat.pow_succ, ← Nat.mul_assoc, h3]
      omega
    · rw [red_odd hm]
      exact ⟨by show m % 2 = 1; omega, Int.le_refl _, by show m * 2 ^ (e - e).toNat = m; simp⟩
theorem odd_pow : ∀ (a b m n : Nat), m % 2 = 1 → n % 2 = 1 → m * 2 ^ a = n * 2 ^ b → m = n ∧ a = b
  | 0, 0, m, n, _, _, h => by simpa using h
  | 0, b + 1, m, n, hm, _, h => by
    rw [Nat.pow_zero, Nat.mul_one, Nat.pow_succ, ← Nat.mul_assoc] at h; omega
  | a + 1, 0, m, n, _, hn, h => by
    rw [Nat.pow_zero, Nat.mul_one, Nat.pow_succ, ← Nat.mul_assoc] at h; omega
  | a + 1, b + 1, m, n, hm, hn, h => by
    rw [Nat.pow_succ, Nat.pow_succ, ← Nat.mul_assoc, ← Nat.mul_assoc] at h
    obtain ⟨h1, h2⟩ := odd_pow a b m n hm hn (by omega)
    exact ⟨h1, by omega⟩
theorem mag_le {r : Nat} : magF r < 2 ^ 64 ∧ -1074 ≤ expF r := by
  unfold magF expF
  by_cases h : r < 4503599627370496
  · rw [if_pos h, if_pos h]; omega
  · rw [if_neg h, if_neg h]; omega
theorem mag_zero {r : Nat} : magF r = 0 ↔ r = 0 := by
  unfold magF
  by_cases h : r < 4503599627370496
  · rw [if_pos h]
  · rw [if_neg h]; omega
theorem val_zero {r : Nat} : valF r = 0 ↔ r = 0 := by
  unfold valF
  have := Nat.two_pow_pos (expF r + 1074).toNat
  rw [Nat.mul_eq_zero, mag_zero]
  omega
theorem parts_val {r : Nat} (h0 : r ≠ 0) : (partsF r).1 % 2 = 1 ∧ -1074 ≤ (partsF r).2 ∧ valF r = (partsF r).1 * 2 ^ ((partsF r).2 + 1074).toNat := by
  unfold partsF
  rw [if_neg h0]
  have hm := mag_le (r := r)
  obtain ⟨h1, h2, h3⟩ := red_val 64 (magF r) (expF r) (Nat.pos_of_ne_zero fun e => h0 (mag_zero.1 e)) hm.1
  refine ⟨h1, by omega, ?_⟩
  unfold valF
  rw [show ((redF 64 (magF r) (expF r)).2 + 1074).toNat = ((redF 64 (magF r) (expF r)).2 - expF r).toNat + (expF r + 1074).toNat by omega, Nat.pow_add, ← Nat.mul_assoc, h3]
theorem parts_iff {r q : Nat} : partsF r = partsF q ↔ valF r = valF q := by
  by_cases h0 : r = 0
  · by_cases h1 : q = 0
    · subst h0; subst h1; exact ⟨fun _ => rfl, fun _ => rfl⟩
    · subst h0
      obtain ⟨a, b, c⟩ := parts_val h1
      have hv : valF 0 = 0 := val_zero.2 rfl
      have hp : partsF 0 = (0, 0) := rfl
      rw [hp, hv]
      constructor
      · intro h; rw [← h] at a; exact absurd a (by decide)
      · intro h; exact (h1 (val_zero.1 h.symm)).elim
  · obtain ⟨a, b, c⟩ := parts_val h0
    by_cases h1 : q = 0
    · subst h1
      have hv : valF 0 = 0 := val_zero.2 rfl
      have hp : partsF 0 = (0, 0) := rfl
      rw [hp, hv]
      constructor
      · intro h; rw [h] at a; exact absurd a (by decide)
      · intro h; exact (h0 (val_zero.1 h)).elim
    · obtain ⟨a', b', c'⟩ := parts_val h1
      rw [c, c']
      constructor
      · intro h; rw [h]
      · intro h
        obtain ⟨h2, h3⟩ := odd_pow _ _ _ _ a a' h
        exact Prod.ext h2 (by omega)
theorem read_inf' {f : Nat} (hf : f < 2 ^ 64) (h : f % 9223372036854775808 = 9218868437227405312) : Ieee.double.read f = .infinity (decide (9223372036854775808 ≤ f)) := by
  have hd : f = 9218868437227405312 ∨ f = 18442240474082181120 := by omega
  rcases hd with rfl | rfl <;> decide +kernel
theorem nanD_fin {f : Nat} (hf : f < 2 ^ 64) : nanD (dat f) ≠ 0 ↔ 9218868437227405312 < f % 9223372036854775808 := by
  show nanD (Ieee.double.read f) ≠ 0 ↔ _
  rcases Nat.lt_trichotomy (f % 9223372036854775808) 9218868437227405312 with h | h | h
  · rw [read_fin hf h]; exact ⟨fun e => (e rfl).elim, fun e => by omega⟩
  · rw [read_inf' hf h]; exact ⟨fun e => (e rfl).elim, fun e => by omega⟩
  · obtain ⟨s, t, e⟩ := read_nan hf h
    rw [e]; exact ⟨fun _ => h, fun _ => Int.one_ne_zero⟩
theorem rank_val {f : Nat} (hf : f < 2 ^ 64) : rankZ f = if f = 9223372036854775808 then -1 else 0 := by
  unfold rankZ
  by_cases h : f = 9223372036854775808
  · subst h; rw [if_pos rfl, if_pos (by decide +kernel)]
  · rw [if_neg h, if_neg]
    rintro ⟨h1, h2⟩
    rcases zero_two hf h1 with h3 | h3
    · exact h2 h3
    · exact h h3
theorem val_fin {f : Nat} (hf : f < 2 ^ 64) (h : f % 9223372036854775808 < 9218868437227405312) :
    valD (dat f) = (if 9223372036854775808 ≤ f then -((valF (f % 9223372036854775808) : Nat) : Int) else (valF (f % 9223372036854775808) : Nat)) ∧ clsD (dat f) = 0 := by
  show valD (Ieee.double.read f) = _ ∧ clsD (Ieee.double.read f) = 0
  rw [read_fin hf h]
  refine ⟨?_, rfl⟩
  show Ieee.signed _ _ (expF (f % 9223372036854775808) + 1074).toNat = _
  unfold Ieee.signed valF
  by_cases hs : 9223372036854775808 ≤ f
  · simp [hs, Nat.shiftLeft_eq]
  · simp [hs, Nat.shiftLeft_eq]
/-- what a float is: none; or its sign, and infinite or its parts -/
def keyF (f : Nat) : Option (Bool × Option (Nat × Int)) :=
  if 9218868437227405312 < f % 9223372036854775808 then none else
  some (decide (9223372036854775808 ≤ f), if f % 9223372036854775808 = 9218868437227405312 then none else some (partsF (f % 9223372036854775808)))
theorem cmpF_key {f g : Nat} (hf : f < 2 ^ 64) (hg : g < 2 ^ 64) : cmpF f g = 0 ↔ keyF f = keyF g := by
  have nf := nanD_fin hf
  have ng := nanD_fin hg
  have bf := nanD_val (dat f)
  have bg := nanD_val (dat g)
  have hc := cmpI_val (nanD (dat f)) (nanD (dat g))
  have hr := cmpI_val (rankZ f) (rankZ g)
  rw [cmpF_eq]
  unfold cmpF' keyF
  by_cases h1 : 9218868437227405312 < f % 9223372036854775808
  · by_cases h2 : 9218868437227405312 < g % 9223372036854775808
    · rw [if_pos h1, if_pos h2]
      have cf := nan_cls _ (nf.2 h1)
      have cg := nan_cls _ (ng.2 h2)
      rw [if_neg (by omega), if_neg, rankZ_nan _ (nf.2 h1), rankZ_nan _ (ng.2 h2)]
      · exact ⟨fun _ => rfl, fun _ => rfl⟩
      · unfold cmpD
        rw [cf.1, cf.2, cg.1, cg.2]; decide
    · rw [if_pos h1, if_neg h2, if_pos (by omega)]
      exact ⟨fun h => by omega, fun h => by cases h⟩
  · by_cases h2 : 9218868437227405312 < g % 9223372036854775808
    · rw [if_neg h1, if_pos h2, if_pos (by omega)]
      exact ⟨fun h => by omega, fun h => by cases h⟩
    · rw [if_neg h1, if_neg h2, if_neg (by omega)]
      have hd := cmpD_val (dat f) (dat g)
      have hz : (if cmpD (dat f) (dat g) ≠ 0 then cmpD (dat f) (dat g) else cmpI (rankZ f) (rankZ g)) = 0 ↔ cmpD (dat f) (dat g) = 0 ∧ rankZ f = rankZ g := by
        by_cases h : cmpD (dat f) (dat g) = 0
        · rw [if_neg (by omega)]; exact ⟨fun e => ⟨h, by omega⟩, fun e => by omega⟩
        · rw [if_pos h]; exact ⟨fun e => (h e).elim, fun e => (h e.1).elim⟩
      rw [hz, rank_val hf, rank_val hg, Option.some.injEq, Prod.mk.injEq]
      have hcls := cmpI_val (clsD (dat f)) (clsD (dat g))
      have hval := cmpI_val (valD (dat f)) (valD (dat g))
      have hz2 : cmpD (dat f) (dat g) = 0 ↔ clsD (dat f) = clsD (dat g) ∧ valD (dat f) = valD (dat g) := by
        unfold cmpD
        by_cases h : cmpI (clsD (dat f)) (clsD (dat g)) = 0
        · rw [if_neg (by omega)]; exact ⟨fun e => ⟨by omega, by omega⟩, fun e => by omega⟩
        · rw [if_pos h]; exact ⟨fun e => (h e).elim, fun e => (h (by omega)).elim⟩
      rw [hz2]
      by_cases i1 : f % 9223372036854775808 = 9218868437227405312
      · have rf : dat f = .infinity (decide (9223372036854775808 ≤ f)) := read_inf' hf i1
        rw [if_pos i1]
        by_cases i2 : g % 9223372036854775808 = 9218868437227405312
        · have rg : dat g = .infinity (decide (9223372036854775808 ≤ g)) := read_inf' hg i2
          rw [if_pos i2, rf, rg, if_neg (by omega), if_neg (by omega)]
          by_cases s1 : 9223372036854775808 ≤ f <;> by_cases s2 : 9223372036854775808 ≤ g <;> simp [s1, s2, clsD, valD]
        · have rg := val_fin hg (by omega)
          rw [if_neg i2, rf, rg.2]
          constructor
          · rintro ⟨⟨h, _⟩, _⟩
            by_cases s1 : 9223372036854775808 ≤ f <;> simp [s1, clsD] at h
          · rintro ⟨_, h⟩; cases h
      · have rf := val_fin hf (by omega)
        rw [if_neg i1]
        by_cases i2 : g % 9223372036854775808 = 9218868437227405312
        · have rg : dat g = .infinity (decide (9223372036854775808 ≤ g)) := read_inf' hg i2
          rw [if_pos i2, rg, rf.2]
          constructor
          · rintro ⟨⟨h, _⟩, _⟩
            by_cases s1 : 9223372036854775808 ≤ g <;> simp [s1, clsD] at h
          · rintro ⟨_, h⟩; cases h
        · have rg := val_fin hg (by omega)
          rw [if_neg i2, rf.1, rf.2, rg.1, rg.2, Option.some.injEq, parts_iff]
          have zf := val_zero (r := f % 9223372036854775808)
          have zg := val_zero (r := g % 9223372036854775808)
          generalize valF (f % 9223372036854775808) = x at *
          generalize valF (g % 9223372036854775808) = y at *
          by_cases s1 : 9223372036854775808 ≤ f <;> by_cases s2 : 9223372036854775808 ≤ g <;> simp only [s1, s2, if_true, if_false, decide_true, decide_false, true_and]
          · constructor
            · rintro ⟨h, _⟩; omega
            · rintro h
              refine ⟨by omega, ?_⟩
              by_cases f0 : f = 9223372036854775808 <;> by_cases g0 : g = 9223372036854775808 <;> simp only [f0, g0, if_true, if_false] <;> omega
          · constructor
            · rintro ⟨h, h'⟩
              exfalso
              rw [if_neg (show ¬ g = 9223372036854775808 by omega)] at h'
              split at h'
              · cases h'
              · omega
            · rintro ⟨h, _⟩; cases h
          · constructor
            · rintro ⟨h, h'⟩
              exfalso
              rw [if_neg (show ¬ f = 9223372036854775808 by omega)] at h'
              split at h'
              · cases h'
              · omega
            · rintro ⟨h, _⟩; cases h
          · constructor
            · rintro ⟨h, _⟩; omega
            · rintro h
              exact ⟨by omega, by rw [if_neg (by omega), if_neg (by omega)]⟩
def bodyF : Option (Nat × Int) → List UInt8
  | none => [105, 110, 102]
  | some (m, e) => Lib.decDigits m ++ (112 :: Lib.itoa e)
theorem textF_key (f : Nat) : textF f = match keyF f with
    | none => [110, 97, 110]
    | some (s, p) => (if s = true then [45] else []) ++ bodyF p := by
  unfold textF keyF
  by_cases h1 : 9218868437227405312 < f % 9223372036854775808
  · rw [if_pos h1, if_pos h1]
  · rw [if_neg h1, if_neg h1]
    by_cases h3 : f < 9223372036854775808
    · by_cases h2 : f % 9223372036854775808 = 9218868437227405312
      · simp [h2, h3, show ¬ 9223372036854775808 ≤ f by omega, bodyF]
      · simp [h2, h3, show ¬ 9223372036854775808 ≤ f by omega, bodyF]
    · by_cases h2 : f % 9223372036854775808 = 9218868437227405312
      · simp [h2, h3, show 9223372036854775808 ≤ f by omega, bodyF]
      · simp [h2, h3, show 9223372036854775808 ≤ f by omega, bodyF]
theorem body_head (p : Option (Nat × Int)) (x : List UInt8) : ∃ c t, bodyF p ++ x = c :: t ∧ (digB c = true ∨ c = 105) := by
  cases p with
  | none => exact ⟨105, _, rfl, .inr rfl⟩
  | some q =>
    obtain ⟨c, t, h1, h2⟩ := dec_head q.1 ((112 :: Lib.itoa q.2) ++ x)
    exact ⟨c, t, by rw [← h1]; simp [bodyF], .inl h2⟩
theorem stop_p {x : List UInt8} : stopP digB (112 :: x) := by
  intro c t h; obtain ⟨rfl, _⟩ := List.cons.inj h; decide
theorem body_inj {p q : Option (Nat × Int)} {x y : List UInt8} (hx : stopP digB x) (hy : stopP digB y) (h : bodyF p ++ x = bodyF q ++ y) : p = q ∧ x = y := by
  cases p with
  | none =>
    cases q with
    | none => exact ⟨rfl, List.append_cancel_left h⟩
    | some q =>
      obtain ⟨c, t, h1, h2⟩ := dec_head q.1 ((112 :: Lib.itoa q.2) ++ y)
      have h3 : bodyF (some q) ++ y = c :: t := by rw [← h1]; simp [bodyF]
      rw [h3] at h
      exact ((dig_no h2).2.1 (List.cons.inj h).1.symm).elim
  | some p =>
    cases q with
    | none =>
      obtain ⟨c, t, h1, h2⟩ := dec_head p.1 ((112 :: Lib.itoa p.2) ++ x)
      have h3 : bodyF (some p) ++ x = c :: t := by rw [← h1]; simp [bodyF]
      rw [h3] at h
      exact ((dig_no h2).2.1 (List.cons.inj h).1).elim
    | some q =>
      obtain ⟨m, e⟩ := p
      obtain ⟨n, i⟩ := q
      simp only [bodyF, List.append_assoc, List.cons_append] at h
      obtain ⟨h1, h2⟩ := run_eq digB _ _ _ _ (dec_dig m) (dec_dig n) stop_p stop_p h
      obtain ⟨h3, h4⟩ := itoa_run hx hy (List.cons.inj h2).2
      exact ⟨by rw [dec_inj _ _ h1, h3], h4⟩
theorem textF_inj {f g : Nat} (hf : f < 2 ^ 64) (hg : g < 2 ^ 64) {x y : List UInt8} (hx : stopP digB x) (hy : stopP digB y) (h : textF f ++ x = textF g ++ y) : cmpF f g = 0 ∧ x = y := by
  rw [cmpF_key hf hg]
  rw [textF_key, textF_key] at h
  cases kf : keyF f with
  | none =>
    rw [kf] at h
    cases kg : keyF g with
    | none => rw [kg] at h; exact ⟨rfl, List.append_cancel_left h⟩
    | some q =>
      rw [kg] at h
      obtain ⟨s, p⟩ := q
      exfalso
      cases s with
      | true => exact absurd (List.cons.inj h).1 (by decide)
      | false =>
        obtain ⟨c, t, h1, h2⟩ := body_head p y
        simp only [Bool.false_eq_true, if_false, List.nil_append] at h
        rw [h1] at h
        have := (List.cons.inj h).1
        rcases h2 with h2 | h2
        · exact (dig_no h2).2.2 this.symm
        · rw [h2] at this; exact absurd this (by decide)
  | some k =>
    obtain ⟨s, p⟩ := k
    rw [kf] at h
    cases kg : keyF g with
    | none =>
      rw [kg] at h
      exfalso
      cases s with
      | true => exact absurd (List.cons.inj h).1 (by decide)
      | false =>
        obtain ⟨c, t, h1, h2⟩ := body_head p x
        simp only [Bool.false_eq_true, if_false, List.nil_append] at h
        rw [h1] at h
        have := (List.cons.inj h).1
        rcases h2 with h2 | h2
        · exact (dig_no h2).2.2 this
        · rw [h2] at this; exact absurd this (by decide)
    | some k' =>
      obtain ⟨s', p'⟩ := k'
      rw [kg] at h
      obtain ⟨c, t, h1, h2⟩ := body_head p x
      obtain ⟨c', t', h1', h2'⟩ := body_head p' y
      have hc : c ≠ 45 := by
        rcases h2 with h2 | h2
        · exact (dig_no h2).1
        · rw [h2]; decide
      have hc' : c' ≠ 45 := by
        rcases h2' with h2 | h2
        · exact (dig_no h2).1
        · rw [h2]; decide
      cases s <;> cases s' <;> simp only [Bool.false_eq_true, if_false, if_true, List.nil_append, List.cons_append] at h
      · obtain ⟨h3, h4⟩ := body_inj hx hy h; exact ⟨by rw [h3], h4⟩
      · rw [h1] at h; exact (hc (List.cons.inj h).1).elim
      · rw [h1'] at h; exact (hc' (List.cons.inj h).1.symm).elim
      · obtain ⟨h3, h4⟩ := body_inj hx hy (List.cons.inj h).2; exact ⟨by rw [h3], h4⟩
theorem textF_same {f g : Nat} (hf : f < 2 ^ 64) (hg : g < 2 ^ 64) (h : cmpF f g = 0) : textF f = textF g := by
  rw [cmpF_key hf hg] at h
  rw [textF_key, textF_key, h]
end Go.Proofs.YtieciegfloldhaaGreatDoor
