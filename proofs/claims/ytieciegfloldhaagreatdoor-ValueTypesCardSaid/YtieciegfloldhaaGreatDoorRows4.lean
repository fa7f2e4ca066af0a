/- ref04.text, sign, rows; slices.Equal of two rows of names. -/
import Derived.Test.YtieciegfloldhaaGreatDoorRTyp
namespace Go.Proofs.YtieciegfloldhaaGreatDoor
open Go Go.RowKit
set_option linter.unusedVariables false
set_option linter.unusedSimpArgs false

theorem rtext_any (a b : ByteArray) (w : World) : Calls Tryz.prog 85 #[.string a, .string b] w fun e w' => e = .returned (.int .i64 (cmpS a b)) ∧ w' = w := by
  obtain ⟨h1, h2⟩ := less_cmp a.data.toList b.data.toList
  obtain ⟨k1, k2⟩ := less_cmp b.data.toList a.data.toList
  have h3 := compareBytes_val a.data.toList b.data.toList
  have h4 := compareBytes_anti a.data.toList b.data.toList
  rw [← toList_eq, ← toList_eq] at h1 h2 h3 k1 k2 h4
  have hc : cmpS a b = Lib.compareBytes a.toList b.toList := by unfold cmpS; rw [toList_eq, toList_eq]
  rw [hc]
  rcases h3 with h | h | h
  · rw [h]
    have t1 : Op.bytesLess a.toList b.toList = true := h1.2 h
    clear h1 h2 k1 k2 h4 hc h
    go_enter Tryz.func85, Tryz.ntmps85
    go_wp2
    go_ret
    exact ⟨rfl, rfl⟩
  · rw [h]
    have t1 : Op.bytesLess a.toList b.toList = false := by rw [Bool.eq_false_iff]; intro e; have := h1.1 e; omega
    have t2 : Op.bytesLess b.toList a.toList = false := by rw [Bool.eq_false_iff]; intro e; have := k1.1 e; omega
    have t3 : (a.toList == b.toList) = true := h2.2 h
    clear h1 h2 k1 k2 h4 hc h
    go_enter Tryz.func85, Tryz.ntmps85
    go_wp2
    go_ret
    exact ⟨rfl, rfl⟩
  · rw [h]
    have t1 : Op.bytesLess a.toList b.toList = false := by rw [Bool.eq_false_iff]; intro e; have := h1.1 e; omega
    have t2 : Op.bytesLess b.toList a.toList = true := k1.2 (by omega)
    have t3 : (a.toList == b.toList) = false := by rw [Bool.eq_false_iff]; intro e; have := h2.1 e; omega
    clear h1 h2 k1 k2 h4 hc h
    go_enter Tryz.func85, Tryz.ntmps85
    go_wp2
    go_ret
    exact ⟨rfl, rfl⟩
theorem rsign_any (a b : Int) (w : World) : Calls Tryz.prog 86 #[.int .i64 a, .int .i64 b] w fun e w' => e = .returned (.int .i64 (cmpI a b)) ∧ w' = w := by
  rcases cmpI_val a b with ⟨h, k⟩ | ⟨h, k⟩ | ⟨h, k⟩
  · rw [h]
    go_enter Tryz.func86, Tryz.ntmps86
    go_wp2
    go_ret
    exact ⟨rfl, rfl⟩
  · rw [h]
    have t1 : ¬ (a < b) := by omega
    have t2 : ¬ (b < a) := by omega
    clear k h
    go_enter Tryz.func86, Tryz.ntmps86
    go_wp2
    go_ret
    exact ⟨rfl, rfl⟩
  · rw [h]
    have t1 : ¬ (a < b) := by omega
    go_enter Tryz.func86, Tryz.ntmps86
    go_wp2
    go_ret
    exact ⟨rfl, rfl⟩
theorem listC_tail {α : Type} {f : α → α → Int} {l r : List α} {k : Nat} (hl : k ≤ l.length) (hr : k ≤ r.length) (h : k = l.length ∨ k = r.length) : listC f (l.drop k) (r.drop k) = cmpI l.length r.length := by
  unfold cmpI
  by_cases h1 : l.length < r.length
  · rw [if_pos (by omega), listC_end (by omega) (by omega)]
  · rw [if_neg (by omega)]
    by_cases h2 : r.length < l.length
    · rw [if_pos (by omega)]
      obtain ⟨x, hx⟩ : ∃ x, l[k]? = some x := ⟨_, List.getElem?_eq_getElem (by omega)⟩
      exact listC_long hx (by omega)
    · rw [if_neg (by omega), listC_both (by omega) (by omega)]
theorem cmpS_zero {a b : ByteArray} : cmpS a b = 0 ↔ a = b := by
  obtain ⟨_, h2⟩ := less_cmp a.data.toList b.data.toList
  have h3 : (a.data.toList == b.data.toList) = true ↔ a = b := by
    rw [beq_iff_eq]
    constructor
    · intro h
      cases a with | mk x => cases b with | mk y => exact congrArg ByteArray.mk (Array.toList_inj.1 h)
    · rintro rfl; rfl
  exact ⟨fun h => h3.1 (h2.2 h), fun h => h2.1 (h3.2 h)⟩
theorem namesC_zero : ∀ {l r : List ByteArray}, listC cmpS l r = 0 ↔ l = r
  | [], [] => by simp [listC]
  | [], _ :: _ => by simp [listC]
  | _ :: _, [] => by simp [listC]
  | a :: l, b :: r => by
    unfold listC
    by_cases h : cmpS a b = 0
    · rw [if_neg (fun k => k h), namesC_zero, cmpS_zero.1 h]; simp
    · rw [if_pos h]
      constructor
      · intro k; exact absurd k h
      · intro k; injection k with k1 k2; exact absurd (cmpS_zero.2 k1) h
set_option maxHeartbeats 1000000 in
set_option maxRecDepth 100000 in
theorem rrows_any (u v : Value) (l r : List ByteArray) (w : World) (hu : SlAt w w.heap.size 1 StrR u l) (hv : SlAt w w.heap.size 1 StrR v r) :
    Calls Tryz.prog 68 #[u, v] w fun e w' => e = .returned (.int .i64 (listC cmpS l r)) ∧ ∃ m, w' = w.drewN m := by
  obtain ⟨_, A, ca, rfl, _⟩ := id hu
  obtain ⟨_, D, cb, rfl, _⟩ := id hv
  obtain ⟨_, hl, ha⟩ := str_at hu
  obtain ⟨_, hr, hb⟩ := str_at hv
  have HA := Lib.hid ha
  have HB := Lib.hid hb
  have HS := Lib.hid (fun k x y => listC_step (f := cmpS) (l := l) (r := r) (k := k) (x := x) (y := y))
  have HT := Lib.hid (fun k => listC_tail (f := cmpS) (l := l) (r := r) (k := k))
  have H0 : Hid (listC cmpS (l.drop 0) (r.drop 0) = listC cmpS l r) := Lib.hid rfl
  have HSG := Lib.hid (fun z => rsign_any (l.length : Int) (r.length : Int) z)
  have hl2 : (l.length : Int) ≤ 9223372036854775807 := by omega
  have hr2 : (r.length : Int) ≤ 9223372036854775807 := by omega
  clear ha hb hu hv
  generalize listC cmpS l r = res at *
  go_enter Tryz.func68, Tryz.ntmps68
  go_wp2
  go_loopg [5] l.length (fun q x u => ∃ k m : Nat, k + q = l.length ∧ k ≤ r.length ∧ x = .int .i64 k ∧ u = w.drewN m ∧ listC cmpS (l.drop k) (r.drop k) = res)
  case atStart => exact ⟨0, 0, by omega, by omega, rfl, rfl, H0.out⟩
  case round =>
    obtain ⟨k, m, hk, hkr, rfl, rfl, hres⟩ := hrel
    have HR := Lib.hid hres
    clear hres
    cases gk with
    | zero =>
      obtain rfl : k = l.length := by omega
      have hge : ¬ ((l.length : Int) < (l.length : Int)) := by omega
      have HV := Lib.hid ((HR.out).symm.trans (HT.out l.length (Nat.le_refl _) hkr (.inl rfl)))
      rw [← HV.out] at HSG
      clear HR
      go_wp2_with (go_at_call 86; refine (HSG.out _).mono ?_; rintro e z ⟨rfl, rfl⟩)
      go_ret
      exact ⟨rfl, _, rfl⟩
    | succ q =>
      have hlt : (k : Int) < (l.length : Int) := by omega
      by_cases hkr2 : k < r.length
      · have hlt2 : (k : Int) < (r.length : Int) := by omega
        obtain ⟨x, hx⟩ : ∃ x, l[k]? = some x := ⟨_, List.getElem?_eq_getElem (by omega)⟩
        obtain ⟨y, hy⟩ : ∃ y, r[k]? = some y := ⟨_, List.getElem?_eq_getElem hkr2⟩
        obtain ⟨b1, o1, rfl, _, c1⟩ := HA.out (by omega)
        obtain ⟨b2, o2, rfl, _, c2⟩ := HB.out (by omega)
        obtain ⟨wm, hwm⟩ : ∃ wm, w.drewN m = wm := ⟨_, rfl⟩
        have d1 : wm.cell? ⟨b1, o1 + k, none⟩ = some (.string x) := by rw [← hwm]; exact (c1 k x hx).1
        have d2 : wm.cell? ⟨b2, o2 + k, none⟩ = some (.string y) := by rw [← hwm]; exact (c2 k y hy).1
        have HDM : Hid (∀ q, ∃ m', wm.drewN q = w.drewN m') := Lib.hid fun q => ⟨m + q, by rw [← hwm, World.drewN_drewN]⟩
        rw [hwm]
        have HV := Lib.hid ((HR.out).symm.trans (HS.out k x y hx hy))
        have HC := Lib.hid (fun w => rtext_any x y w)
        clear c1 c2 hx hy hkr hwm
        generalize cmpS x y = cv at *
        by_cases hc : cv = 0
        · subst hc
          have HV2 := Lib.hid (HV.out.trans (if_neg (fun h => h rfl)))
          clear HV
          go_upto_region 4 with (fail)
          go_quiet ((go_at_call 85; exact Calls.quiet_of_same (HC.out _)))
          obtain ⟨m', hm'⟩ := HDM.out nq
          rw [hm']
          go_wp2
          go_roundg q
          case measure => omega
          case rel => exact ⟨k + 1, _, by omega, by omega, by go_num, rfl, HV2.out.symm⟩
        · have HV2 := Lib.hid (HV.out.trans (if_pos hc))
          have t2 : (cv != 0) = true := by simpa using hc
          clear HV hc
          go_upto_region 4 with (fail)
          go_quiet ((go_at_call 85; exact Calls.quiet_of_same (HC.out _)))
          obtain ⟨m', hm'⟩ := HDM.out nq
          rw [hm']
          go_wp2
          go_ret
          exact ⟨ret_int HV2.out.symm, _, rfl⟩
      · have HV := Lib.hid ((HR.out).symm.trans (HT.out k (by omega) hkr (.inr (by omega))))
        have hge : ¬ ((k : Int) < (r.length : Int)) := by omega
        rw [← HV.out] at HSG
        clear HR hkr hkr2
        go_wp2_with (go_at_call 86; refine (HSG.out _).mono ?_; rintro e z ⟨rfl, rfl⟩)
        go_ret
        exact ⟨rfl, _, rfl⟩
set_option maxHeartbeats 1000000 in
set_option maxRecDepth 100000 in
theorem sleq_any (u v : Value) (l r : List ByteArray) (w : World) (hu : SlAt w w.heap.size 1 StrR u l) (hv : SlAt w w.heap.size 1 StrR v r) :
    Calls Tryz.prog 67 #[u, v] w fun e w' => e = .returned (.bool (decide (l = r))) ∧ ∃ m, w' = w.drewN m := by
  obtain ⟨_, A, ca, rfl, _⟩ := id hu
  obtain ⟨_, D, cb, rfl, _⟩ := id hv
  obtain ⟨_, hl, ha⟩ := str_at hu
  obtain ⟨_, hr, hb⟩ := str_at hv
  by_cases hlen : l.length = r.length
  · by_cases h0 : l.length = 0
    · have e1 : l = [] := List.eq_nil_of_length_eq_zero h0
      have e2 : r = [] := List.eq_nil_of_length_eq_zero (by omega)
      subst e1 e2
      refine (Tryz.slices_Equal_string_empty A D ca 0 cb w (by omega)).mono ?_
      rintro e z ⟨rfl, rfl⟩
      exact ⟨by simp, 0, rfl⟩
    · have p1 : 0 < l.length := by omega
      have p2 : 0 < r.length := by omega
      obtain ⟨b1, o1, rfl, _, c1⟩ := ha p1
      obtain ⟨b2, o2, rfl, _, c2⟩ := hb p2
      refine (Tryz.slices_Equal_string b1 o1 l.length ca b2 o2 r.length cb l r w (Nat.le_refl _) (Nat.le_refl _) hl hr (fun j hj => ?_) (fun j hj => ?_)).mono ?_
      · obtain ⟨x, hx⟩ : ∃ x, l[j]? = some x := ⟨_, List.getElem?_eq_getElem hj⟩
        rw [(c1 j x hx).1]; simp [List.getD, hx]
      · obtain ⟨x, hx⟩ : ∃ x, r[j]? = some x := ⟨_, List.getElem?_eq_getElem hj⟩
        rw [(c2 j x hx).1]; simp [List.getD, hx]
      · rintro e z ⟨rfl, h⟩
        exact ⟨by rw [List.take_length, List.take_length], h⟩
  · have HR : Hid (decide (l = r) = false) := Lib.hid (decide_eq_false fun h => hlen (by rw [h]))
    have t1 : ((l.length : Int) != (r.length : Int)) = true := by rw [bne_iff_ne]; omega
    clear ha hb hu hv hlen
    go_enter Tryz.func67, Tryz.ntmps67
    go_wp2
    go_ret
    exact ⟨ret_bool HR.out.symm, 0, rfl⟩
end Go.Proofs.YtieciegfloldhaaGreatDoor
