/- The document's Same, of numbers and of lists of numbers. -/
import Derived.Test.YtedajbpjokmlaaaDominators
namespace Go.Proofs.Ytedajbpjokmlaaa
open Go Go.RowKit
set_option linter.unusedVariables false


/-- A slice of numbers that lies below block B. -/
def IntsAt (w : World) (B : Nat) (v : Value) (l : List Int) : Prop :=
  l.length ≤ 9223372036854775807 ∧ ∃ A c, v = .slice A l.length c ∧ (0 < l.length → ∃ b o, A = some ⟨b, o, none⟩ ∧ b < B ∧ ∀ (i : Nat) x, l[i]? = some x → w.cell? ⟨b, o + i, none⟩ = some (.int .i64 x))
theorem IntsV.ints {w : World} {v : Value} {l : List Int} (h : IntsV w v l) : IntsAt w w.heap.size v l := by
  obtain ⟨h0, A, c, rfl, h1⟩ := h
  refine ⟨h0, A, c, rfl, fun hp => ?_⟩
  obtain ⟨b, o, rfl, hb, h2⟩ := h1 hp
  refine ⟨b, o, rfl, hb, fun i x hx => ?_⟩
  obtain ⟨cs, h3, h4, h5⟩ := h2 i x hx
  have h5' : cs = encI x := h5
  subst h5'
  have := h4 0 (.int .i64 x) rfl
  simpa using this

set_option maxHeartbeats 1000000 in
theorem same_any (u v : Value) (a b : List Int) (B : Nat) (w : World) (ha : IntsAt w B u a) (hb : IntsAt w B v b) :
    Calls Try.prog 24 #[u, v] w fun e w' => e = .returned (.bool (a == b)) ∧ ∃ m, w' = w.drewN m := by
  obtain ⟨la, A, ca, rfl, ha⟩ := ha
  obtain ⟨lb, D, cb, rfl, hb⟩ := hb
  by_cases hlen : a.length = b.length
  · have h1 : ((a.length : Int) != (b.length : Int)) = false := by simp [hlen]
    have HA := Lib.hid ha
    have HB := Lib.hid hb
    have HL := Lib.hid hlen
    clear ha hb
    have hlen2 : a.length ≤ b.length ∧ b.length ≤ a.length := by omega
    obtain ⟨hl1, hl2⟩ := hlen2
    clear hlen
    go_enter Try.func24, Try.ntmps24
    go_wp2
    go_loopg [5] a.length (fun g i wr => ∃ k m : Nat, k + g = a.length ∧ i = .int .i64 k ∧ wr = w.drewN m ∧ a.take k = b.take k)
    case atStart => exact ⟨0, 0, by omega, rfl, rfl, rfl⟩
    case round =>
      obtain ⟨k, m, hk, rfl, rfl, heq⟩ := hrel
      have HEQ := Lib.hid heq
      clear heq
      cases gk with
      | zero =>
        have hge : ¬ ((k : Int) < (a.length : Int)) := by omega
        go_wp2
        go_ret
        refine ⟨ret_bool ?_, _, rfl⟩
        have := HEQ.out
        rw [List.take_of_length_le (by omega), List.take_of_length_le (by omega)] at this
        rw [this]; simp
      | succ g =>
        have hlt : (k : Int) < (a.length : Int) := by omega
        have hlt2 : (k : Int) < (b.length : Int) := by omega
        obtain ⟨b1, o1, rfl, _, c1⟩ := HA.out (by omega)
        obtain ⟨b2, o2, rfl, _, c2⟩ := HB.out (by omega)
        obtain ⟨x, e1⟩ : ∃ x, a[k]? = some x := ⟨_, List.getElem?_eq_getElem (by omega)⟩
        obtain ⟨y, e2⟩ : ∃ y, b[k]? = some y := ⟨_, List.getElem?_eq_getElem (by omega)⟩
        have d1 := c1 k _ e1
        have d2 := c2 k _ e2
        have T1 := Lib.hid (take_at e1)
        have T2 := Lib.hid (take_at e2)
        have HNE : Hid (x ≠ y → (a == b) = false) := by
          refine Lib.hid fun h => beq_eq_false_iff_ne.2 fun e => h ?_
          rw [e] at e1
          rw [e1] at e2
          exact Option.some.inj e2
        clear c1 c2 e1 e2
        by_cases hxy : x = y
        · subst hxy
          go_wp2
          go_quiet (fail)
          go_wp2
          go_roundg g
          case measure => omega
          case rel => exact ⟨k + 1, _, by omega, by go_num, rfl, by rw [T1.out, T2.out, HEQ.out]⟩
        · have hn : (x != y) = true := by simpa using hxy
          have HF := Lib.hid (HNE.out hxy)
          go_wp2
          go_quiet (fail)
          go_wp2
          go_ret
          exact ⟨ret_bool HF.out.symm, _, World.drewN_drewN _ _ _⟩
  · have h1 : ((a.length : Int) != (b.length : Int)) = true := by simp; omega
    have hE : (a == b) = false := beq_eq_false_iff_ne.2 fun e => hlen (by rw [e])
    have HE := Lib.hid hE
    clear ha hb hlen hE
    go_enter Try.func24, Try.ntmps24
    go_wp2
    go_ret
    exact ⟨ret_bool HE.out.symm, 0, rfl⟩

/-- lists of numbers are the same -/
theorem same_ints (u v : Value) (a b : List Int) (w : World) (ha : IntsV w u a) (hb : IntsV w v b) :
    Calls Try.prog 24 #[u, v] w fun e w' => e = .returned (.bool (a == b)) ∧ ∃ m, w' = w.drewN m := same_any u v a b w.heap.size w ha.ints hb.ints

/-- rows of numbers that are read -/
structure RowsV (w : World) (v : Value) (n : Nat) (L : Nat → List Int) : Prop where
  ex : ∃ (A : Option Addr) (c : Nat) (V : Nat → Value), v = .slice A n c ∧ (∀ i, i < n → IntsV w (V i) (L i)) ∧ (0 < n → ∃ b o, A = some ⟨b, o, none⟩ ∧ b < w.heap.size ∧ ∀ i, i < n → w.cell? ⟨b, o + i, none⟩ = some (V i))
theorem RowsV.below {w w' : World} {v : Value} {n : Nat} {L : Nat → List Int} (h : RowsV w v n L) (hb : Below w.heap.size w w') : RowsV w' v n L := by
  obtain ⟨A, c, V, rfl, h1, h2⟩ := h.ex
  refine ⟨A, c, V, rfl, fun i hi => (h1 i hi).below hb, fun h0 => ?_⟩
  obtain ⟨b, o, rfl, h3, h4⟩ := h2 h0
  exact ⟨b, o, rfl, Nat.lt_of_lt_of_le h3 hb.size, fun i hi => (hb.cell (p := ⟨b, o + i, none⟩) h3).trans (h4 i hi)⟩
theorem SetsAt.rows {w : World} {sb n : Nat} {C : Nat → Bool} {V : Nat → Value} {L : Nat → List Int} (h : SetsAt w sb n C V L) (hl : ∀ i, i < n → (L i).length ≤ 10000) : RowsV w (.slice (some ⟨sb, 0, none⟩) n n) n L :=
  ⟨_, _, V, rfl, fun i hi => h.ints hi (hl i hi), fun _ => ⟨sb, 0, rfl, h.lt, fun i hi => by rw [Nat.zero_add]; exact h.row.c i hi⟩⟩
theorem RowsV.drewN {w : World} {v : Value} {n : Nat} {L : Nat → List Int} (h : RowsV w v n L) (m : Nat) : RowsV (w.drewN m) v n L := h.below (below_drewN (Below.refl _ w) m)

set_option maxHeartbeats 1000000 in
theorem same15_any (u v : Value) (n : Nat) (K L : Nat → List Int) (w : World) (hu : RowsV w u n K) (hv : RowsV w v n L) (hn : n ≤ 10000) (he : ∀ i, i < n → K i = L i) :
    Calls Try.prog 12 #[u, v] w fun e w' => e = .returned (.bool true) ∧ ∃ m, w' = w.drewN m := by
  obtain ⟨A, ca, V, rfl, ha, ha2⟩ := hu.ex
  obtain ⟨D, cb, U, rfl, hb, hb2⟩ := hv.ex
  have HA := Lib.hid ha
  have HB := Lib.hid hb
  have HA2 := Lib.hid ha2
  have HB2 := Lib.hid hb2
  have HE := Lib.hid he
  clear ha hb ha2 hb2 he hu hv
  have hn2 : (n : Int) ≤ 10000 := by omega
  go_enter Try.func12, Try.ntmps12
  go_wp2
  go_loopg [5] n (fun g i wr => ∃ k m : Nat, k + g = n ∧ i = .int .i64 k ∧ wr = w.drewN m)
  case atStart => exact ⟨0, 0, by omega, rfl, rfl⟩
  case round =>
    obtain ⟨k, m, hk, rfl, rfl⟩ := hrel
    cases gk with
    | zero =>
      have hge : ¬ ((k : Int) < (n : Int)) := by omega
      go_wp2
      go_ret
      exact ⟨rfl, _, rfl⟩
    | succ g =>
      have hlt : (k : Int) < (n : Int) := by omega
      have hkn : k < n := by omega
      obtain ⟨b1, o1, rfl, _, c1⟩ := HA2.out (by omega)
      obtain ⟨b2, o2, rfl, _, c2⟩ := HB2.out (by omega)
      obtain ⟨wm, hwm⟩ : ∃ wm, w.drewN m = wm := ⟨_, rfl⟩
      have HBM : Hid (Below w.heap.size w wm) := Lib.hid (by rw [← hwm]; exact below_drewN (Below.refl _ w) m)
      have HDM : Hid (∀ q, ∃ m', wm.drewN q = w.drewN m') := Lib.hid fun q => ⟨m + q, by rw [← hwm, World.drewN_drewN]⟩
      rw [hwm]
      have d1 := (HBM.out.cell (p := ⟨b1, o1 + k, none⟩) (by assumption)).trans (c1 k hkn)
      have d2 := (HBM.out.cell (p := ⟨b2, o2 + k, none⟩) (by assumption)).trans (c2 k hkn)
      have HS : Hid (∀ q, Calls Try.prog 24 #[V k, U k] (wm.drewN q) fun e w' => e = .returned (.bool true) ∧ ∃ m2, w' = (wm.drewN q).drewN m2) := Lib.hid fun q => (same_ints (V k) (U k) (K k) (L k) (wm.drewN q) ((HA.out k hkn).below (below_drewN HBM.out q)) ((HB.out k hkn).below (below_drewN HBM.out q))).mono (by rintro e w' ⟨rfl, h⟩; exact ⟨by rw [HE.out k hkn]; simp, h⟩)
      clear c1 c2 hwm
      go_upto_region 6 with (fail)
      go_quiet ((go_at_call 24; exact Calls.quiet_of (HS.out _)))
      obtain ⟨m', hm'⟩ := HDM.out nq
      rw [hm']
      go_wp2
      go_roundg g
      case measure => omega
      case rel => exact ⟨k + 1, _, by omega, by go_num, rfl⟩
end Go.Proofs.Ytedajbpjokmlaaa
