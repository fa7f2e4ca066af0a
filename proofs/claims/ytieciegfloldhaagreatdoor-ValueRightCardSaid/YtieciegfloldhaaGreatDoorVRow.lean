/- Rows of names compared; cmp.Or; value.row. -/
import Derived.Test.YtieciegfloldhaaGreatDoorVFlt
namespace Go.Proofs.YtieciegfloldhaaGreatDoor
open Go Go.RowKit
set_option linter.unusedVariables false

section
variable {α : Type} {f : α → α → Int} {l r : List α} {k : Nat} {x y : α}
theorem drop_at (h : l[k]? = some x) : l.drop k = x :: l.drop (k + 1) := by
  obtain ⟨h1, h2⟩ := List.getElem?_eq_some_iff.1 h
  rw [← h2]; exact List.drop_eq_getElem_cons h1
theorem listC_step (hx : l[k]? = some x) (hy : r[k]? = some y) : listC f (l.drop k) (r.drop k) = if f x y ≠ 0 then f x y else listC f (l.drop (k + 1)) (r.drop (k + 1)) := by
  rw [drop_at hx, drop_at hy]; rfl
theorem listC_long (hx : l[k]? = some x) (hr : r.length ≤ k) : listC f (l.drop k) (r.drop k) = 1 := by
  rw [drop_at hx, List.drop_eq_nil_of_le hr]; rfl
theorem listC_end (hl : l.length ≤ k) (hr : k < r.length) : listC f (l.drop k) (r.drop k) = -1 := by
  rw [List.drop_eq_nil_of_le hl, List.drop_eq_getElem_cons hr]; rfl
theorem listC_both (hl : l.length ≤ k) (hr : r.length ≤ k) : listC f (l.drop k) (r.drop k) = 0 := by
  rw [List.drop_eq_nil_of_le hl, List.drop_eq_nil_of_le hr]; rfl
end
theorem str_at {w : World} {B : Nat} {A : Option Addr} {n c : Nat} {l : List ByteArray} (h : SlAt w B 1 StrR (.slice A n c) l) : n = l.length ∧ l.length ≤ 9223372036854775807 ∧ (0 < l.length → ∃ b o, A = some ⟨b, o, none⟩ ∧ b < B ∧ ∀ (i : Nat) x, l[i]? = some x → w.cell? ⟨b, o + i, none⟩ = some (.string x) ∧ x.size ≤ maxLen) := by
  obtain ⟨h0, A', c', h1, h2⟩ := h
  injection h1 with h1 h3 h4
  subst h1 h3
  refine ⟨rfl, h0, fun hp => ?_⟩
  obtain ⟨b, o, rfl, hb, h5⟩ := h2 hp
  refine ⟨b, o, rfl, hb, fun i x hx => ?_⟩
  obtain ⟨cs, h6, h7, h8, h9⟩ := h5 i x hx
  subst h8
  have := h7 0 (.string x) rfl
  rw [Nat.mul_one, Nat.add_zero] at this
  exact ⟨this, h9⟩
set_option maxHeartbeats 1000000 in
set_option maxRecDepth 100000 in
theorem slcmp_any (u v : Value) (l r : List ByteArray) (B : Nat) (w : World) (hu : SlAt w B 1 StrR u l) (hv : SlAt w B 1 StrR v r) :
    Calls Tryz.prog 72 #[u, v] w fun e w' => e = .returned (.int .i64 (listC cmpS l r)) ∧ w' = w := by
  obtain ⟨_, A, ca, rfl, _⟩ := id hu
  obtain ⟨_, D, cb, rfl, _⟩ := id hv
  obtain ⟨_, hl, ha⟩ := str_at hu
  obtain ⟨_, hr, hb⟩ := str_at hv
  have HA := Lib.hid ha
  have HB := Lib.hid hb
  have HS := Lib.hid (fun k x y => listC_step (f := cmpS) (l := l) (r := r) (k := k) (x := x) (y := y))
  have HL := Lib.hid (fun k x => listC_long (f := cmpS) (l := l) (r := r) (k := k) (x := x))
  have HE := Lib.hid (fun k => listC_end (f := cmpS) (l := l) (r := r) (k := k))
  have HT := Lib.hid (fun k => listC_both (f := cmpS) (l := l) (r := r) (k := k))
  have H0 : Hid (listC cmpS (l.drop 0) (r.drop 0) = listC cmpS l r) := Lib.hid rfl
  have hl2 : (l.length : Int) ≤ 9223372036854775807 := by omega
  have hr2 : (r.length : Int) ≤ 9223372036854775807 := by omega
  clear ha hb hu hv
  generalize listC cmpS l r = res at *
  go_enter Tryz.func72, Tryz.ntmps72
  go_wp2
  go_loopg [11] l.length (fun q x u => ∃ k : Nat, k + q = l.length ∧ x = .int .i64 k ∧ u = w ∧ listC cmpS (l.drop k) (r.drop k) = res)
  case atStart => exact ⟨0, by omega, rfl, rfl, H0.out⟩
  case round =>
    obtain ⟨k, hk, rfl, rfl, hres⟩ := hrel
    have HR := Lib.hid hres
    clear hres
    cases gk with
    | zero =>
      obtain rfl : k = l.length := by omega
      have hge : ¬ ((l.length : Int) < (l.length : Int)) := by omega
      by_cases hlr : l.length < r.length
      · have HV := Lib.hid ((HR.out).symm.trans (HE.out l.length (Nat.le_refl _) hlr))
        have t1 : (l.length : Int) < (r.length : Int) := by omega
        clear HR hlr
        go_wp2
        go_ret
        exact ⟨ret_int HV.out.symm, rfl⟩
      · have HV := Lib.hid ((HR.out).symm.trans (HT.out l.length (Nat.le_refl _) (by omega)))
        have t1 : ¬ ((l.length : Int) < (r.length : Int)) := by omega
        clear HR hlr
        go_wp2
        go_ret
        exact ⟨ret_int HV.out.symm, rfl⟩
    | succ q =>
      have hlt : (k : Int) < (l.length : Int) := by omega
      obtain ⟨x, hx⟩ : ∃ x, l[k]? = some x := ⟨_, List.getElem?_eq_getElem (by omega)⟩
      obtain ⟨b1, o1, rfl, _, c1⟩ := HA.out (by omega)
      have d1 := (c1 k x hx).1
      clear c1
      by_cases hkr : k < r.length
      · obtain ⟨y, hy⟩ : ∃ y, r[k]? = some y := ⟨_, List.getElem?_eq_getElem hkr⟩
        obtain ⟨b2, o2, rfl, _, c2⟩ := HB.out (by omega)
        have d2 := (c2 k y hy).1
        have hlt2 : (k : Int) < (r.length : Int) := by omega
        have HV := Lib.hid ((HR.out).symm.trans (HS.out k x y hx hy))
        have HC := Lib.hid (fun w => cmps x y w)
        clear c2 hx hy hkr
        generalize cmpS x y = cv at *
        by_cases hc : cv = 0
        · subst hc
          have HV2 := Lib.hid (HV.out.trans (if_neg (fun h => h rfl)))
          clear HV
          go_wp2_with (go_at_call 90; refine (HC.out _).mono ?_; rintro e z ⟨rfl, rfl⟩)
          go_roundg q
          case measure => omega
          case rel => exact ⟨k + 1, by omega, by go_num, rfl, HV2.out.symm⟩
        · have HV2 := Lib.hid (HV.out.trans (if_pos hc))
          have t2 : (cv != 0) = true := by simpa using hc
          clear HV hc
          go_wp2_with (go_at_call 90; refine (HC.out _).mono ?_; rintro e z ⟨rfl, rfl⟩)
          go_ret
          exact ⟨ret_int HV2.out.symm, rfl⟩
      · have HV := Lib.hid ((HR.out).symm.trans (HL.out k x hx (by omega)))
        have hge : (r.length : Int) ≤ (k : Int) := by omega
        clear HR hkr hx
        go_wp2
        go_ret
        exact ⟨ret_int HV.out.symm, rfl⟩
def or3 (a b c : Int) : Int := if a ≠ 0 then a else if b ≠ 0 then b else c
set_option maxHeartbeats 1000000 in
theorem or_any (p : Nat) (a b c : Int) (w : World) (h0 : w.cell? ⟨p, 0, none⟩ = some (.int .i64 a)) (h1 : w.cell? ⟨p, 1, none⟩ = some (.int .i64 b)) (h2 : w.cell? ⟨p, 2, none⟩ = some (.int .i64 c)) :
    Calls Tryz.prog 73 #[.slice (some ⟨p, 0, none⟩) 3 3] w fun e w' => e = .returned (.int .i64 (or3 a b c)) ∧ w' = w := by
  have H : Hid (∀ k : Nat, k < 3 → w.cell? ⟨p, k, none⟩ = some (.int .i64 (if k = 0 then a else if k = 1 then b else c))) := Lib.hid fun k hk => by
    match k, hk with
    | 0, _ => exact h0
    | 1, _ => exact h1
    | 2, _ => exact h2
  have HR : Hid (or3 a b c = or3 a b c) := Lib.hid rfl
  clear h0 h1 h2
  go_enter Tryz.func73, Tryz.ntmps73
  go_wp2
  go_loopg [8] 3 (fun q x u => ∃ k : Nat, k + q = 3 ∧ x = .int .i64 k ∧ u = w ∧ ∀ j, j < k → (if j = 0 then a else if j = 1 then b else c) = 0)
  case atStart => exact ⟨0, rfl, rfl, rfl, fun j hj => absurd hj (Nat.not_lt_zero j)⟩
  case round =>
    obtain ⟨k, hk, rfl, rfl, hz⟩ := hrel
    have HZ := Lib.hid hz
    clear hz
    cases gk with
    | zero =>
      have hge : ¬ ((k : Int) < 3) := by omega
      go_wp2
      go_ret
      refine ⟨ret_int ?_, rfl⟩
      have e0 := HZ.out 0 (by omega)
      have e1 := HZ.out 1 (by omega)
      have e2 := HZ.out 2 (by omega)
      simp at e0 e1 e2
      unfold or3
      simp [e0, e1, e2]
    | succ q =>
      have hlt : (k : Int) < 3 := by omega
      have dk := H.out k (by omega)
      have HV : Hid ((if k = 0 then a else if k = 1 then b else c) ≠ 0 → (if k = 0 then a else if k = 1 then b else c) = or3 a b c) := Lib.hid fun hne => by
        have e0 := HZ.out 0
        have e1 := HZ.out 1
        unfold or3
        have h3 : k = 0 ∨ k = 1 ∨ k = 2 := by omega
        rcases h3 with rfl | rfl | rfl
        · simp at hne ⊢; simp [hne]
        · have := e0 (by omega); simp at this hne ⊢; simp [this, hne]
        · have := e0 (by omega); have h4 := e1 (by omega); simp at this h4 hne ⊢; simp [this, h4]
      generalize hg : (if k = 0 then a else if k = 1 then b else c) = cv at *
      by_cases hc : cv = 0
      · have t1 : (cv != 0) = false := by simp [hc]
        go_wp2
        go_roundg q
        case measure => omega
        case rel => exact ⟨k + 1, by omega, by go_num, rfl, fun j hj => by
          by_cases e : j = k
          · rw [e, hg]; exact hc
          · exact HZ.out j (by omega)⟩
      · have t1 : (cv != 0) = true := by simpa using hc
        have HV2 := Lib.hid (HV.out hc)
        clear hc
        go_wp2
        go_ret
        exact ⟨ret_int HV2.out, rfl⟩
def leafK (k : Int) : Bool := decide (1 ≤ k) && decide (k ≤ 4)
theorem leaf_any (k : Int) (w : World) : Calls Tryz.prog 49 #[.int .i64 k] w fun e w' => e = .returned (.bool (leafK k)) ∧ w' = w := by
  unfold leafK
  by_cases h1 : 1 ≤ k
  · by_cases h2 : k ≤ 4
    · have t1 : decide (1 ≤ k) = true := decide_eq_true h1
      have t2 : decide (k ≤ 4) = true := decide_eq_true h2
      rw [t1, t2]
      go_enter Tryz.func49, Tryz.ntmps49
      go_wp2
      go_ret
      exact ⟨rfl, rfl⟩
    · have t1 : decide (1 ≤ k) = true := decide_eq_true h1
      have t2 : decide (k ≤ 4) = false := decide_eq_false h2
      rw [t1, t2]
      go_enter Tryz.func49, Tryz.ntmps49
      go_wp2
      go_ret
      exact ⟨rfl, rfl⟩
  · have t1 : decide (1 ≤ k) = false := decide_eq_false h1
    rw [t1]
    go_enter Tryz.func49, Tryz.ntmps49
    go_wp2
    go_ret
    exact ⟨rfl, rfl⟩
end Go.Proofs.YtieciegfloldhaaGreatDoor
