/- value.fits, value.Fits, ref04.fits, ref04.Fits. -/
import Derived.Test.YtieciegfloldhaaGreatDoorRows4
namespace Go.Proofs.YtieciegfloldhaaGreatDoor
open Go Go.RowKit
set_option linter.unusedVariables false
set_option linter.unusedSimpArgs false

mutual
def fitsV : VT → TT → Bool
  | .mk k n f s ns its, .mk k' ns' ts => (k == k') && (if k = 5 then fitsA its ts else if k = 6 then decide (ns = ns') && fitsL its ts else true)
def fitsA : List VT → List TT → Bool
  | [], _ => true
  | a :: l, t :: r => fitsV a t && fitsA l (t :: r)
  | _ :: _, [] => true
def fitsL : List VT → List TT → Bool
  | [], _ => true
  | a :: l, t :: r => fitsV a t && fitsL l r
  | _ :: _, [] => true
end
theorem fitsA_step {l : List VT} {r : List TT} {k : Nat} {x : VT} {t : TT} (hx : l[k]? = some x) (ht : r[0]? = some t) : fitsA (l.drop k) r = (fitsV x t && fitsA (l.drop (k + 1)) r) := by
  cases r with
  | nil => simp at ht
  | cons y r =>
    obtain rfl : y = t := by simpa using ht
    rw [drop_at hx, fitsA]
theorem fitsA_end {l : List VT} {r : List TT} : fitsA (l.drop l.length) r = true := by
  rw [List.drop_eq_nil_of_le (Nat.le_refl _), fitsA]
theorem fitsL_step {l : List VT} {r : List TT} {k : Nat} {x : VT} {t : TT} (hx : l[k]? = some x) (ht : r[k]? = some t) : fitsL (l.drop k) (r.drop k) = (fitsV x t && fitsL (l.drop (k + 1)) (r.drop (k + 1))) := by
  rw [drop_at hx, drop_at ht, fitsL]
theorem fitsL_end {l : List VT} {r : List TT} : fitsL (l.drop l.length) (r.drop l.length) = true := by
  rw [List.drop_eq_nil_of_le (Nat.le_refl _), fitsL]
theorem rightL_mem : ∀ {l : List VT} {d : Nat}, rightL l d = true → ∀ x ∈ l, rightV x d = true
  | [], _, _, x, hx => by cases hx
  | a :: l, d, h, x, hx => by
    rw [rightL, Bool.and_eq_true] at h
    rcases List.mem_cons.1 hx with rfl | hx
    · exact h.1
    · exact rightL_mem h.2 x hx
theorem typedL_mem : ∀ {l : List TT} {d : Nat}, typedL l d = true → ∀ x ∈ l, typedT x d = true
  | [], _, _, x, hx => by cases hx
  | a :: l, d, h, x, hx => by
    rw [typedL, Bool.and_eq_true] at h
    rcases List.mem_cons.1 hx with rfl | hx
    · exact h.1
    · exact typedL_mem h.2 x hx
theorem right_five {n : Int} {f : Nat} {s : ByteArray} {ns : List ByteArray} {its : List VT} {d : Nat} (h : rightV (.mk 5 n f s ns its) d = true) : ∀ x ∈ its, rightV x (d + 1) = true := by
  rw [rightV] at h
  by_cases hd : 12 < d
  · rw [if_pos hd] at h; cases h
  · rw [if_neg hd] at h
    simp only [show ¬ ((5 : Int) = 1) by decide, show ¬ ((5 : Int) = 2) by decide, show ¬ ((5 : Int) = 3) by decide, show ¬ ((5 : Int) = 4) by decide, show ¬ ((5 : Int) = 6) by decide, if_false, if_true, Bool.and_eq_true] at h
    exact rightL_mem h.2.2
theorem right_six {n : Int} {f : Nat} {s : ByteArray} {ns : List ByteArray} {its : List VT} {d : Nat} (h : rightV (.mk 6 n f s ns its) d = true) : ns.length = its.length ∧ ∀ x ∈ its, rightV x (d + 1) = true := by
  rw [rightV] at h
  by_cases hd : 12 < d
  · rw [if_pos hd] at h; cases h
  · rw [if_neg hd] at h
    simp only [show ¬ ((6 : Int) = 1) by decide, show ¬ ((6 : Int) = 2) by decide, show ¬ ((6 : Int) = 3) by decide, show ¬ ((6 : Int) = 4) by decide, if_false, if_true, Bool.and_eq_true, beq_iff_eq] at h
    exact ⟨h.1, rightL_mem h.2.2.2⟩
theorem right_not7 {n : Int} {f : Nat} {s : ByteArray} {ns : List ByteArray} {its : List VT} {d : Nat} : rightV (.mk 7 n f s ns its) d = false := by
  rw [rightV]
  simp
theorem typed_five {ns : List ByteArray} {its : List TT} {d : Nat} (h : typedT (.mk 5 ns its) d = true) : its.length = 1 ∧ ∀ x ∈ its, typedT x (d + 1) = true := by
  rw [typedT] at h
  by_cases hd : 12 < d
  · rw [if_pos hd] at h; cases h
  · rw [if_neg hd, if_pos rfl] at h
    simp only [Bool.and_eq_true, beq_iff_eq] at h
    exact ⟨h.1, typedL_mem h.2.2⟩
theorem typed_six {ns : List ByteArray} {its : List TT} {d : Nat} (h : typedT (.mk 6 ns its) d = true) : ns.length = its.length ∧ ∀ x ∈ its, typedT x (d + 1) = true := by
  rw [typedT] at h
  by_cases hd : 12 < d
  · rw [if_pos hd] at h; cases h
  · rw [if_neg hd, if_neg (by decide), if_pos rfl] at h
    simp only [Bool.and_eq_true, beq_iff_eq] at h
    exact ⟨h.1, typedL_mem h.2.2⟩
set_option maxHeartbeats 8000000 in
set_option maxRecDepth 100000 in
theorem fits_any : ∀ (x : VT) (t : TT) (d e : Nat) (cs cs' : List Value) (p o q r : Nat) (w : World), rightV x d = true → typedT t e = true → w.rangeAt p o cs → w.rangeAt q r cs' → ValAt w w.heap.size cs x → TypAt w w.heap.size cs' t →
    Calls Tryz.prog 43 #[.pointer (some ⟨p, o, none⟩), .pointer (some ⟨q, r, none⟩)] w fun en w' => en = .returned (.bool (fitsV x t)) ∧ ∃ m, w' = w.drewN m := by
  intro x
  induction x using VT.ind with
  | h k n f s ns its ih =>
    intro t d e cs cs' p o q r w hrx hty hr hr' hv hv'
    cases t with
    | mk k' ns' ts =>
    have IH := Lib.hid ih
    obtain ⟨vn, vi, rfl, _, _, _, _, hn, _, hi⟩ := hv.inv
    obtain ⟨A, c, rfl, hil, hA⟩ := vals_at hi
    obtain ⟨vn', vi', rfl, _, hn', _, hi'⟩ := hv'.inv
    obtain ⟨A', c', rfl, hil', hA'⟩ := typs_at hi'
    have HN := Lib.hid hn
    have HN' := Lib.hid hn'
    have HA := Lib.hid hA
    have HA' := Lib.hid hA'
    have d0 : w.cell? ⟨p, o, none⟩ = some (.int .i64 k) := hr 0 _ rfl
    have D4 := Lib.hid (hr 4 _ rfl)
    have D5 := Lib.hid (hr 5 _ rfl)
    have e0 : w.cell? ⟨q, r, none⟩ = some (.int .i64 k') := hr' 0 _ rfl
    have E1 := Lib.hid (hr' 1 _ rfl)
    have E2 := Lib.hid (hr' 2 _ rfl)
    have HO : Hid (fitsV (.mk k n f s ns its) (.mk k' ns' ts) = ((k == k') && (if k = 5 then fitsA its ts else if k = 6 then decide (ns = ns') && fitsL its ts else true))) := Lib.hid (by rw [fitsV])
    generalize hres : fitsV (.mk k n f s ns its) (.mk k' ns' ts) = res at *
    have HRX := Lib.hid hrx
    have HTY := Lib.hid hty
    clear ih hr hr' hv hv' hn hn' hi hi' hA hA' hres hrx hty
    by_cases hck : k = k'
    case neg =>
      have HR : Hid (res = false) := Lib.hid (HO.out.trans (by rw [beq_eq_false_iff_ne.2 hck]; exact Bool.false_and _))
      have t2 : (k != k') = true := by simpa using hck
      clear hck HO
      go_enter Tryz.func43, Tryz.ntmps43
      go_wp2
      go_quiet (fail)
      go_wp2
      go_ret
      exact ⟨ret_bool HR.out.symm, _, rfl⟩
    subst hck
    have HO1 := Lib.hid (HO.out.trans (by rw [beq_self_eq_true, Bool.true_and]))
    clear HO
    by_cases k5 : k = 5
    · subst k5
      have HR : Hid (res = fitsA its ts) := Lib.hid (HO1.out.trans (if_pos rfl))
      clear HO1
      go_enter Tryz.func43, Tryz.ntmps43
      go_wp2
      go_quiet (fail)
      obtain ⟨w1, hw1⟩ : ∃ w1, w.drewN nq = w1 := ⟨_, rfl⟩
      have c0 : w1.cell? ⟨p, o, none⟩ = some (.int .i64 5) := by rw [← hw1]; exact d0
      have c4 : w1.cell? ⟨p, o + 4, none⟩ = some vn := by rw [← hw1]; exact D4.out
      have c5 : w1.cell? ⟨p, o + 5, none⟩ = some (.slice A its.length c) := by rw [← hw1]; exact D5.out
      have f1 : w1.cell? ⟨q, r + 1, none⟩ = some vn' := by rw [← hw1]; exact E1.out
      have f2 : w1.cell? ⟨q, r + 2, none⟩ = some (.slice A' ts.length c') := by rw [← hw1]; exact E2.out
      have HW1 := Lib.hid hw1
      rw [hw1]
      clear hw1 d0 e0
      go_wp2
      go_loopg [27] its.length (fun g x u => ∃ j m : Nat, j + g = its.length ∧ x = .int .i64 j ∧ u = w.drewN m ∧ fitsA (its.drop j) ts = res)
      case atStart => exact ⟨0, _, by omega, rfl, (by first | exact HW1.out.symm | exact HW2.out.symm), HR.out.symm⟩
      case round =>
        obtain ⟨j, m, hj, rfl, rfl, hres⟩ := hrel
        have HR2 := Lib.hid hres
        clear hres
        cases gk with
        | zero =>
          obtain rfl : j = its.length := by omega
          have hge : ¬ ((its.length : Int) < (its.length : Int)) := by omega
          have HVE := Lib.hid (HR2.out.symm.trans fitsA_end)
          go_wp2
          go_ret
          exact ⟨ret_bool HVE.out.symm, _, rfl⟩
        | succ g =>
          have hlt : (j : Int) < (its.length : Int) := by omega
          obtain ⟨x, hx⟩ : ∃ x, its[j]? = some x := ⟨_, List.getElem?_eq_getElem (by omega)⟩
          obtain ⟨b, o', rfl, hbl, hc⟩ := HA.out (by omega)
          obtain ⟨ks, hks, hvx⟩ := hc j x hx
          obtain ⟨y, hy⟩ : ∃ y, ts[0]? = some y := ⟨_, List.getElem?_eq_getElem (by have := (typed_five HTY.out).1; omega)⟩
          obtain ⟨b', o'', rfl, hbl', hc'⟩ := HA'.out (by have := (typed_five HTY.out).1; omega)
          obtain ⟨ks', hks0, hvy⟩ := hc' 0 y hy
          have hks' : w.rangeAt b' o'' ks' := by simpa using hks0
          have hlt1 : (0 : Int) < (ts.length : Int) := by have := (typed_five HTY.out).1; omega
          have HVS := Lib.hid (HR2.out.symm.trans (fitsA_step hx hy))
          obtain ⟨wm, hwm⟩ : ∃ wm, w.drewN m = wm := ⟨_, rfl⟩
          have HBM : Hid (Below w.heap.size w wm) := Lib.hid (by rw [← hwm]; exact below_drewN (Below.refl _ w) m)
          have HDM : Hid (∀ q, ∃ m', wm.drewN q = w.drewN m') := Lib.hid fun q => ⟨m + q, by rw [← hwm, World.drewN_drewN]⟩
          have c5 : wm.cell? ⟨p, o + 5, none⟩ = some (.slice (some ⟨b, o', none⟩) its.length c) := by rw [← hwm]; exact D5.out
          have f2 : wm.cell? ⟨q, r + 2, none⟩ = some (.slice (some ⟨b', o'', none⟩) ts.length c') := by rw [← hwm]; exact E2.out
          have HS := Lib.hid (fun nq => IH.out x (List.mem_of_getElem? hx) y (d + 1) (e + 1) ks ks' b (o' + j * 6) b' o'' (wm.drewN nq) (right_five HRX.out x (List.mem_of_getElem? hx)) ((typed_five HTY.out).2 y (List.mem_of_getElem? hy)) (rangeAt_below hks (below_drewN HBM.out nq) hbl) (rangeAt_below hks' (below_drewN HBM.out nq) hbl') (hvx.next (below_drewN HBM.out nq)) (hvy.next (below_drewN HBM.out nq)))
          rw [hwm]
          clear hc hks hvx hx hwm hc' hks0 hks' hvy hy
          generalize fitsV x y = rx at *
          cases rx with
          | true =>
            have HV2 := Lib.hid (HVS.out.trans (Bool.true_and _))
            clear HVS
            go_upto_region 8 with (fail)
            go_quiet ((go_at_call 43; exact Calls.quiet_of (HS.out _)))
            obtain ⟨m', hm'⟩ := HDM.out nq
            rw [hm']
            go_wp2
            go_roundg g
            case measure => omega
            case rel => exact ⟨j + 1, _, by omega, by go_num, rfl, HV2.out.symm⟩
          | false =>
            have HV2 : Hid (res = false) := Lib.hid (HVS.out.trans (Bool.false_and _))
            clear HVS
            go_upto_region 8 with (fail)
            go_quiet ((go_at_call 43; exact Calls.quiet_of (HS.out _)))
            obtain ⟨m', hm'⟩ := HDM.out nq
            rw [hm']
            go_wp2
            go_ret
            exact ⟨ret_bool HV2.out.symm, _, rfl⟩
    have HO2 := Lib.hid (HO1.out.trans (if_neg k5))
    clear HO1
    by_cases k6 : k = 6
    · subst k6
      have HV : Hid (res = (decide (ns = ns') && fitsL its ts)) := Lib.hid (HO2.out.trans (if_pos rfl))
      clear HO2
      go_enter Tryz.func43, Tryz.ntmps43
      go_wp2
      go_quiet (fail)
      obtain ⟨w1, hw1⟩ : ∃ w1, w.drewN nq = w1 := ⟨_, rfl⟩
      have c0 : w1.cell? ⟨p, o, none⟩ = some (.int .i64 6) := by rw [← hw1]; exact d0
      have c4 : w1.cell? ⟨p, o + 4, none⟩ = some vn := by rw [← hw1]; exact D4.out
      have c5 : w1.cell? ⟨p, o + 5, none⟩ = some (.slice A its.length c) := by rw [← hw1]; exact D5.out
      have f1 : w1.cell? ⟨q, r + 1, none⟩ = some vn' := by rw [← hw1]; exact E1.out
      have f2 : w1.cell? ⟨q, r + 2, none⟩ = some (.slice A' ts.length c') := by rw [← hw1]; exact E2.out
      have HW1 := Lib.hid hw1
      rw [hw1]
      clear hw1 d0 e0
      have HSE := Lib.hid (fun z => sleq_any vn vn' ns ns' (w1.drewN z) ((HN.out.below (by rw [← HW1.out]; exact below_drewN (below_drewN (Below.refl _ w) _) _) fun _ _ _ h => h).more (by rw [← HW1.out]; exact Nat.le_refl _)) ((HN'.out.below (by rw [← HW1.out]; exact below_drewN (below_drewN (Below.refl _ w) _) _) fun _ _ _ h => h).more (by rw [← HW1.out]; exact Nat.le_refl _)))
      have HDW : Hid (∀ z, ∃ m, w1.drewN z = w.drewN m) := Lib.hid fun z => ⟨nq + z, by rw [← HW1.out, World.drewN_drewN]⟩
      by_cases hnn : ns = ns'
      · have HR : Hid (res = fitsL its ts) := Lib.hid (HV.out.trans (by rw [decide_eq_true hnn]; exact Bool.true_and _))
        have HLN : Hid (its.length = ts.length) := Lib.hid (by rw [← (right_six HRX.out).1, ← (typed_six HTY.out).1, hnn])
        rw [decide_eq_true hnn] at HSE
        clear hnn HV
        go_upto_region 12 with (fail)
        revert HW1
        clear HDW
        obtain ⟨n1, hn1⟩ : ∃ n1, nq = n1 := ⟨_, rfl⟩
        rw [hn1]
        clear hn1 nq
        intro HW1
        go_quiet ((go_at_call 67; exact Calls.quiet_of (HSE.out _)))
        obtain ⟨w2, hw2⟩ : ∃ w2, w1.drewN nq = w2 := ⟨_, rfl⟩
        have HW2 : Hid (w.drewN (n1 + nq) = w2) := Lib.hid (by rw [← hw2, ← HW1.out, World.drewN_drewN])
        have g5 : w2.cell? ⟨p, o + 5, none⟩ = some (.slice A its.length c) := by rw [← hw2]; exact c5
        rw [hw2]
        clear hw2 HW1 c0 c4 c5 f1 f2 HSE
        go_wp2
        clear g5
        go_loopg [61] its.length (fun g x u => ∃ j m : Nat, j + g = its.length ∧ x = .int .i64 j ∧ u = w.drewN m ∧ fitsL (its.drop j) (ts.drop j) = res)
        case atStart => exact ⟨0, _, by omega, rfl, (by first | exact HW1.out.symm | exact HW2.out.symm), HR.out.symm⟩
        case round =>
          obtain ⟨j, m, hj, rfl, rfl, hres⟩ := hrel
          have HR2 := Lib.hid hres
          clear hres
          cases gk with
          | zero =>
            obtain rfl : j = its.length := by omega
            have hge : ¬ ((its.length : Int) < (its.length : Int)) := by omega
            have HVE := Lib.hid (HR2.out.symm.trans fitsL_end)
            go_wp2
            go_ret
            exact ⟨ret_bool HVE.out.symm, _, rfl⟩
          | succ g =>
            have hlt : (j : Int) < (its.length : Int) := by omega
            obtain ⟨x, hx⟩ : ∃ x, its[j]? = some x := ⟨_, List.getElem?_eq_getElem (by omega)⟩
            obtain ⟨b, o', rfl, hbl, hc⟩ := HA.out (by omega)
            obtain ⟨ks, hks, hvx⟩ := hc j x hx
            have hjt : j < ts.length := HLN.out ▸ (by omega : j < its.length)
            have hlt1 : (j : Int) < (ts.length : Int) := by omega
            obtain ⟨y, hy⟩ : ∃ y, ts[j]? = some y := ⟨_, List.getElem?_eq_getElem hjt⟩
            obtain ⟨b', o'', rfl, hbl', hc'⟩ := HA'.out (by omega)
            obtain ⟨ks', hks', hvy⟩ := hc' j y hy
            have HVS := Lib.hid (HR2.out.symm.trans (fitsL_step hx hy))
            obtain ⟨wm, hwm⟩ : ∃ wm, w.drewN m = wm := ⟨_, rfl⟩
            have HBM : Hid (Below w.heap.size w wm) := Lib.hid (by rw [← hwm]; exact below_drewN (Below.refl _ w) m)
            have HDM : Hid (∀ q, ∃ m', wm.drewN q = w.drewN m') := Lib.hid fun q => ⟨m + q, by rw [← hwm, World.drewN_drewN]⟩
            have c5 : wm.cell? ⟨p, o + 5, none⟩ = some (.slice (some ⟨b, o', none⟩) its.length c) := by rw [← hwm]; exact D5.out
            have f2 : wm.cell? ⟨q, r + 2, none⟩ = some (.slice (some ⟨b', o'', none⟩) ts.length c') := by rw [← hwm]; exact E2.out
            have HS := Lib.hid (fun nq => IH.out x (List.mem_of_getElem? hx) y (d + 1) (e + 1) ks ks' b (o' + j * 6) b' (o'' + j * 3) (wm.drewN nq) ((right_six HRX.out).2 x (List.mem_of_getElem? hx)) ((typed_six HTY.out).2 y (List.mem_of_getElem? hy)) (rangeAt_below hks (below_drewN HBM.out nq) hbl) (rangeAt_below hks' (below_drewN HBM.out nq) hbl') (hvx.next (below_drewN HBM.out nq)) (hvy.next (below_drewN HBM.out nq)))
            rw [hwm]
            clear hc hks hvx hx hwm hc' hks' hvy hy
            generalize fitsV x y = rx at *
            cases rx with
            | true =>
              have HV2 := Lib.hid (HVS.out.trans (Bool.true_and _))
              clear HVS
              go_upto_region 17 with (fail)
              go_quiet ((go_at_call 43; exact Calls.quiet_of (HS.out _)))
              obtain ⟨m', hm'⟩ := HDM.out nq
              rw [hm']
              go_wp2
              go_roundg g
              case measure => omega
              case rel => exact ⟨j + 1, _, by omega, by go_num, rfl, HV2.out.symm⟩
            | false =>
              have HV2 : Hid (res = false) := Lib.hid (HVS.out.trans (Bool.false_and _))
              clear HVS
              go_upto_region 17 with (fail)
              go_quiet ((go_at_call 43; exact Calls.quiet_of (HS.out _)))
              obtain ⟨m', hm'⟩ := HDM.out nq
              rw [hm']
              go_wp2
              go_ret
              exact ⟨ret_bool HV2.out.symm, _, rfl⟩
      · have HR : Hid (res = false) := Lib.hid (HV.out.trans (by rw [decide_eq_false hnn]; exact Bool.false_and _))
        rw [decide_eq_false hnn] at HSE
        clear hnn HV
        go_upto_region 12 with (fail)
        revert HW1
        clear HDW
        obtain ⟨n1, hn1⟩ : ∃ n1, nq = n1 := ⟨_, rfl⟩
        rw [hn1]
        clear hn1 nq
        intro HW1
        go_quiet ((go_at_call 67; exact Calls.quiet_of (HSE.out _)))
        go_wp2
        go_ret
        exact ⟨ret_bool HR.out.symm, _, (by rw [← HW1.out]; exact World.drewN_drewN ..)⟩
    have HR : Hid (res = true) := Lib.hid (HO2.out.trans (if_neg k6))
    have s5 : (k == 5) = false := by simpa using k5
    have s6 : (k == 6) = false := by simpa using k6
    clear HO2 k5 k6
    go_enter Tryz.func43, Tryz.ntmps43
    go_wp2
    go_quiet (fail)
    obtain ⟨w1, hw1⟩ : ∃ w1, w.drewN nq = w1 := ⟨_, rfl⟩
    have c0 : w1.cell? ⟨p, o, none⟩ = some (.int .i64 k) := by rw [← hw1]; exact d0
    have c4 : w1.cell? ⟨p, o + 4, none⟩ = some vn := by rw [← hw1]; exact D4.out
    have c5 : w1.cell? ⟨p, o + 5, none⟩ = some (.slice A its.length c) := by rw [← hw1]; exact D5.out
    have f1 : w1.cell? ⟨q, r + 1, none⟩ = some vn' := by rw [← hw1]; exact E1.out
    have f2 : w1.cell? ⟨q, r + 2, none⟩ = some (.slice A' ts.length c') := by rw [← hw1]; exact E2.out
    have HW1 := Lib.hid hw1
    rw [hw1]
    clear hw1 d0 e0
    go_wp2
    go_ret
    exact ⟨ret_bool HR.out.symm, _, HW1.out.symm⟩
end Go.Proofs.YtieciegfloldhaaGreatDoor
