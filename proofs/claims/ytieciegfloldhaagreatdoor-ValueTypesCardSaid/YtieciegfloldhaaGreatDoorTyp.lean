/- value.typeParts, value.typed, value.TypeRight. -/
import Derived.Test.YtieciegfloldhaaGreatDoorVRight
namespace Go.Proofs.YtieciegfloldhaaGreatDoor
open Go Go.RowKit
set_option linter.unusedVariables false
set_option linter.unusedSimpArgs false

theorem TypAt.next {w w' : World} {cs : List Value} {t : TT} (h : TypAt w w.heap.size cs t) (hb : Below w.heap.size w w') : TypAt w' w'.heap.size cs t := (h.under hb).more hb.size
theorem typs_at {w : World} {v : Value} {l : List TT} (h : SlAt w w.heap.size 3 (TypAt w w.heap.size) v l) : ∃ A c, v = .slice A l.length c ∧ l.length ≤ 9223372036854775807 ∧
    (0 < l.length → ∃ b o, A = some ⟨b, o, none⟩ ∧ b < w.heap.size ∧ ∀ (i : Nat) x, l[i]? = some x → ∃ cs : List Value, w.rangeAt b (o + i * 3) cs ∧ TypAt w w.heap.size cs x) := by
  obtain ⟨h0, A, c, h1, h2⟩ := h
  refine ⟨A, c, h1, h0, fun hp => ?_⟩
  obtain ⟨b, o, h3, h4, h5⟩ := h2 hp
  refine ⟨b, o, h3, h4, fun i x hx => ?_⟩
  obtain ⟨cs, _, h7, h8⟩ := h5 i x hx
  exact ⟨cs, h7, h8⟩
theorem typ_one {w : World} {B : Nat} {cs : List Value} {t : TT} (h : TypAt w B cs t) : cs.length = 3 ∧ ∀ u ∈ cs, u.oneCell' = true := by
  cases t with
  | mk k ns its =>
    have h9 := h.one
    obtain ⟨vn, vi, rfl, _, h1, _, h2⟩ := h.inv
    exact ⟨rfl, h9⟩
mutual
def cntT : TT → Nat → Nat
  | .mk _ _ its, n => cntTL its (n + 1)
def cntTL : List TT → Nat → Nat
  | [], n => n
  | a :: l, n => if 500 ≤ n then n else cntTL l (cntT a n)
end
theorem cntTL_le : ∀ (l : List TT) (n : Nat), (∀ x ∈ l, ∀ m, m < 500 → cntT x m ≤ 500) → n ≤ 500 → cntTL l n ≤ 500
  | [], n, _, h => by rw [cntTL]; exact h
  | a :: l, n, h, hn => by
    rw [cntTL]
    split
    · exact hn
    · exact cntTL_le l _ (fun x hx => h x (List.mem_cons_of_mem _ hx)) (h a (List.mem_cons_self ..) n (by omega))
theorem cntT_le (t : TT) : ∀ m, m < 500 → cntT t m ≤ 500 := by
  induction t using TT.ind with
  | h k ns its ih => exact fun m hm => by rw [cntT]; exact cntTL_le its _ ih (by omega)
theorem cntTL_step {l : List TT} {k m : Nat} {x : TT} (h : l[k]? = some x) : cntTL (l.drop k) m = if 500 ≤ m then m else cntTL (l.drop (k + 1)) (cntT x m) := by
  rw [drop_at h, cntTL]
theorem cntTL_end {l : List TT} {m : Nat} : cntTL (l.drop l.length) m = m := by
  rw [List.drop_eq_nil_of_le (Nat.le_refl _), cntTL]
mutual
def typedT : TT → Nat → Bool
  | .mk k ns its, d =>
    if 12 < d then false
    else if k = 5 then (its.length == 1) && ((ns.length == 0) && typedL its (d + 1))
    else if k = 6 then (ns.length == its.length) && (riseB none ns && typedL its (d + 1))
    else if k = 1 ∨ k = 2 ∨ k = 3 ∨ k = 4 ∨ k = 7 then (ns.length == 0) && (its.length == 0)
    else false
def typedL : List TT → Nat → Bool
  | [], _ => true
  | a :: l, d => typedT a d && typedL l d
end
theorem typedL_step {l : List TT} {k d : Nat} {x : TT} (h : l[k]? = some x) : typedL (l.drop k) d = (typedT x d && typedL (l.drop (k + 1)) d) := by
  rw [drop_at h, typedL]
theorem typedL_end {l : List TT} {d : Nat} : typedL (l.drop l.length) d = true := by
  rw [List.drop_eq_nil_of_le (Nat.le_refl _), typedL]
theorem typedL_one {l : List TT} {d : Nat} {x : TT} (hl : l.length = 1) (h : l[0]? = some x) : typedL l d = typedT x d := by
  match l, hl with
  | [y], _ => obtain rfl : y = x := by simpa using h
              simp [typedL]
set_option maxHeartbeats 1000000 in
set_option maxRecDepth 100000 in
theorem typeParts_any : ∀ (t : TT) (m : Nat) (cs : List Value) (p o : Nat) (w : World), m < 500 → w.rangeAt p o cs → TypAt w w.heap.size cs t →
    Calls Tryz.prog 40 #[.pointer (some ⟨p, o, none⟩), .int .i64 m] w fun e w' => e = .returned (.int .i64 (cntT t m : Nat)) ∧ w' = w := by
  intro t
  induction t using TT.ind with
  | h k ns its ih =>
    intro m cs p o w hm hr hv
    have IH := Lib.hid ih
    obtain ⟨vn, vi, rfl, _, _, _, hi⟩ := hv.inv
    obtain ⟨A, c, rfl, hil, hA⟩ := typs_at hi
    have HA := Lib.hid hA
    have d2 := hr 2 _ rfl
    have HS := Lib.hid (fun k m x => cntTL_step (l := its) (k := k) (m := m) (x := x))
    have HE := Lib.hid (fun m => cntTL_end (l := its) (m := m))
    have HLE := Lib.hid (fun x m hm => cntT_le x m hm)
    have H0 : Hid (cntTL (its.drop 0) (m + 1) = cntT (.mk k ns its) m) := Lib.hid (by rw [cntT]; rfl)
    have hm2 : (m : Int) < 500 := by omega
    clear ih hi hA hr hv
    generalize cntT (.mk k ns its) m = res at *
    go_enter Tryz.func40, Tryz.ntmps40
    go_wp2
    go_loopg [1, 13] its.length (fun q n x u => ∃ (j m : Nat), j + q = its.length ∧ x = .int .i64 j ∧ n = .int .i64 m ∧ m ≤ 500 ∧ u = w ∧ cntTL (its.drop j) m = res)
    case atStart => exact ⟨0, m + 1, by omega, rfl, by go_num, by omega, rfl, H0.out⟩
    case round =>
      obtain ⟨j, m, hj, rfl, rfl, hm5, rfl, hres⟩ := hrel
      have HR := Lib.hid hres
      clear hres
      cases gk with
      | zero =>
        obtain rfl : j = its.length := by omega
        have hge : ¬ ((its.length : Int) < (its.length : Int)) := by omega
        have HV := Lib.hid (HR.out.symm.trans (HE.out m))
        go_wp2
        go_ret
        exact ⟨by rw [HV.out]; rfl, rfl⟩
      | succ q =>
        have hlt : (j : Int) < (its.length : Int) := by omega
        obtain ⟨x, hx⟩ : ∃ x, its[j]? = some x := ⟨_, List.getElem?_eq_getElem (by omega)⟩
        obtain ⟨b, o', rfl, hbl, hc⟩ := HA.out (by omega)
        obtain ⟨ks, hks, hvx⟩ := hc j x hx
        have HV := Lib.hid (HR.out.symm.trans (HS.out j m x hx))
        by_cases h5 : 500 ≤ m
        · have HV2 := Lib.hid (HV.out.trans (if_pos h5))
          have t1 : (500 : Int) ≤ (m : Int) := by omega
          clear hc hks hvx hx HV
          go_wp2
          go_ret
          exact ⟨by rw [HV2.out]; rfl, rfl⟩
        · have HV2 := Lib.hid (HV.out.trans (if_neg h5))
          have t1 : ¬ ((500 : Int) ≤ (m : Int)) := by omega
          have HC := Lib.hid (IH.out x (List.mem_of_getElem? hx) m ks b (o' + j * 3) wr (by omega) hks hvx)
          have hle := HLE.out x m (by omega)
          clear hc hks hvx hx HV h5
          go_wp2_with (go_at_call 40; refine HC.out.mono ?_; rintro e z ⟨rfl, rfl⟩)
          go_roundg q
          case measure => omega
          case rel => exact ⟨j + 1, _, by omega, by go_num, rfl, hle, rfl, HV2.out.symm⟩
set_option maxHeartbeats 4000000 in
set_option maxRecDepth 100000 in
theorem typed_any : ∀ (t : TT) (d : Nat) (cs : List Value) (p o : Nat) (w : World), d ≤ 13 → p < w.heap.size → w.rangeAt p o cs → TypAt w w.heap.size cs t →
    Calls Tryz.prog 41 #[.pointer (some ⟨p, o, none⟩), .int .i64 d] w fun e w' => e = .returned (.bool (typedT t d)) ∧ Below w.heap.size w w' := by
  intro t
  induction t using TT.ind with
  | h k ns its ih =>
    intro d cs p o w hd hp hr hv
    have IH := Lib.hid ih
    obtain ⟨vn, vi, rfl, _, hn, _, hi⟩ := hv.inv
    obtain ⟨_, NA, nc, rfl, _⟩ := id hn
    obtain ⟨A, c, rfl, hil, hA⟩ := typs_at hi
    have hnl := hn.1
    have HN := Lib.hid hn
    have HA := Lib.hid hA
    have HRG := Lib.hid hr
    have HP := Lib.hid hp
    have d0 : w.cell? ⟨p, o, none⟩ = some (.int .i64 k) := hr 0 _ rfl
    have d1 := hr 1 _ rfl
    have d2 := hr 2 _ rfl
    have HO : Hid (typedT (.mk k ns its) d = if 12 < d then false
      else if k = 5 then (its.length == 1) && ((ns.length == 0) && typedL its (d + 1))
      else if k = 6 then (ns.length == its.length) && (riseB none ns && typedL its (d + 1))
      else if k = 1 ∨ k = 2 ∨ k = 3 ∨ k = 4 ∨ k = 7 then (ns.length == 0) && (its.length == 0)
      else false) := Lib.hid (by rw [typedT])
    generalize hres : typedT (.mk k ns its) d = res at *
    clear ih hr hv hn hi hA hp hres
    by_cases hdeep : 12 < d
    · have HV := Lib.hid (HO.out.trans (if_pos hdeep))
      have t1 : (12 : Int) < (d : Int) := by omega
      clear HO hdeep
      go_enter Tryz.func41, Tryz.ntmps41
      go_wp2
      go_ret
      exact ⟨ret_bool HV.out.symm, Below.refl _ w⟩
    have t1 : ¬ ((12 : Int) < (d : Int)) := by omega
    have HO1 := Lib.hid (HO.out.trans (if_neg hdeep))
    clear HO
    by_cases k5 : k = 5
    · subst k5
      have HV := Lib.hid (HO1.out.trans (if_pos rfl))
      clear HO1
      by_cases hm0 : ns.length = 0
      · have m1 : ((ns.length : Int) == 0) = true := by rw [hm0]; rfl
        have m1' : (ns.length == 0) = true := by rw [hm0]; rfl
        by_cases hi1 : its.length = 1
        · have j1 : ((its.length : Int) == 1) = true := by rw [hi1]; rfl
          have j1' : (its.length == 1) = true := by rw [hi1]; rfl
          obtain ⟨x, hx⟩ : ∃ x, its[0]? = some x := ⟨_, List.getElem?_eq_getElem (by omega)⟩
          obtain ⟨b, o', rfl, hbl, hc⟩ := HA.out (by omega)
          obtain ⟨ks, hks, hvx⟩ := hc 0 x hx
          have hks' : w.rangeAt b o' ks := by simpa using hks
          have HC := Lib.hid (IH.out x (List.mem_of_getElem? hx) (d + 1) ks b o' w (by omega) hbl hks' hvx)
          have hd1 : ((d + 1 : Nat) : Int) = (d : Int) + 1 := by omega
          rw [hd1] at HC
          have HR : Hid (res = typedT x (d + 1)) := Lib.hid (by rw [HV.out, typedL_one hi1 hx]; simp [m1', j1'])
          have hlt1 : (0 : Int) < (its.length : Int) := by omega
          clear hc hks hks' hvx hx hd1 hi1 hm0
          generalize typedT x (d + 1) = rx at *
          go_enter Tryz.func41, Tryz.ntmps41
          go_wp2_with (go_at_call 41; refine HC.out.mono ?_; rintro e z ⟨rfl, hbz⟩; have HB3 := Lib.hid hbz; clear hbz)
          go_ret
          exact ⟨ret_bool HR.out.symm, HB3.out⟩
        · have j1 : ((its.length : Int) == 1) = false := by rw [beq_eq_false_iff_ne]; omega
          have j1' : (its.length == 1) = false := by simpa using hi1
          clear hi1 hm0
          have HR : Hid (res = false) := Lib.hid (by rw [HV.out]; simp [m1', j1'])
          go_enter Tryz.func41, Tryz.ntmps41
          go_wp2
          go_ret
          exact ⟨ret_bool HR.out.symm, Below.refl _ w⟩
      · have m1 : ((ns.length : Int) == 0) = false := by rw [beq_eq_false_iff_ne]; omega
        have m1' : (ns.length == 0) = false := by simpa using hm0
        clear hm0
        have HR : Hid (res = false) := Lib.hid (by rw [HV.out]; simp [m1'])
        go_enter Tryz.func41, Tryz.ntmps41
        go_wp2
        go_ret
        exact ⟨ret_bool HR.out.symm, Below.refl _ w⟩
    have HO2 := Lib.hid (HO1.out.trans (if_neg k5))
    clear HO1
    by_cases k6 : k = 6
    · subst k6
      have HV := Lib.hid (HO2.out.trans (if_pos rfl))
      clear HO2
      have HRI := Lib.hid (fun z (hz : Below w.heap.size w z) => rising_any (.slice NA ns.length nc) ns z ((HN.out.below hz fun _ _ _ h => h).more hz.size))
      by_cases hlen : ns.length = its.length
      · have HV2 := Lib.hid (HV.out.trans (by rw [show (ns.length == its.length) = true from by rw [hlen]; exact beq_self_eq_true _, Bool.true_and]))
        have t2 : ((ns.length : Int) != (its.length : Int)) = false := by rw [hlen]; exact bne_self_eq_false _
        clear HV hlen
        generalize riseB none ns = rb at *
        cases rb with
        | false =>
          have HV3 : Hid (res = false) := Lib.hid (HV2.out.trans (Bool.false_and _))
          clear HV2
          go_enter Tryz.func41, Tryz.ntmps41
          go_upto_region 13 with (fail)
          clear d0 d1 d2
          refine wp_region_ord [(0, true), (1, true), (2, true), (3, true), (4, true), (5, true), (6, true), (7, true), (8, true), (9, true), (10, true), (11, true), (12, true), (13, true), (14, true), (15, true), (16, false), (17, true), (18, true)]
            (fun z => Below w.heap.size w z) (by kernel_rfl) (by kernel_rfl) (by kernel_rfl) rfl (by intro c a d v w h; cases d <;> exact h) ?_
          have hs : Below w.heap.size w w.drew := (Below.refl _ w).drew
          refine ord_move (some 60) (.pointer (some ⟨p, o, none⟩)) _ _ rfl rfl rfl (by first | exact wanted_none rfl | exact wanted_if rfl rfl rfl rfl) hs rfl ?_
          go_frame
          refine ord_load (some 61) (.pointer (some ⟨p, o, none⟩)) _ rfl rfl (by first | exact wanted_none rfl | exact wanted_if rfl rfl rfl rfl) hs (fun z hz => by go_simp) ?_
          go_frame
          refine ord_load (some 62) (.pointer (some ⟨p, o + 1, none⟩)) _ rfl rfl (by first | exact wanted_none rfl | exact wanted_if rfl rfl rfl rfl) hs (fun z hz => by go_simp) ?_
          go_frame
          refine ord_load (some 63) (.slice NA ns.length nc) _ rfl rfl (by first | exact wanted_none rfl | exact wanted_if rfl rfl rfl rfl) hs (fun z hz => by have dd := (hz.cell (p := ⟨p, o + 1, none⟩) HP.out).trans (HRG.out 1 _ rfl); go_simp) ?_
          go_frame
          refine ord_load (some 64) (.int .i64 ns.length) _ rfl rfl (by first | exact wanted_none rfl | exact wanted_if rfl rfl rfl rfl) hs (fun z hz => by go_simp) ?_
          go_frame
          refine ord_move (some 65) (.pointer (some ⟨p, o, none⟩)) _ _ rfl rfl rfl (by first | exact wanted_none rfl | exact wanted_if rfl rfl rfl rfl) hs rfl ?_
          go_frame
          refine ord_load (some 66) (.pointer (some ⟨p, o, none⟩)) _ rfl rfl (by first | exact wanted_none rfl | exact wanted_if rfl rfl rfl rfl) hs (fun z hz => by go_simp) ?_
          go_frame
          refine ord_load (some 67) (.pointer (some ⟨p, o + 2, none⟩)) _ rfl rfl (by first | exact wanted_none rfl | exact wanted_if rfl rfl rfl rfl) hs (fun z hz => by go_simp) ?_
          go_frame
          refine ord_load (some 68) (.slice A its.length c) _ rfl rfl (by first | exact wanted_none rfl | exact wanted_if rfl rfl rfl rfl) hs (fun z hz => by have dd := (hz.cell (p := ⟨p, o + 2, none⟩) HP.out).trans (HRG.out 2 _ rfl); go_simp) ?_
          go_frame
          refine ord_load (some 69) (.int .i64 its.length) _ rfl rfl (by first | exact wanted_none rfl | exact wanted_if rfl rfl rfl rfl) hs (fun z hz => by go_simp) ?_
          go_frame
          refine ord_load (some 70) (.bool false) _ rfl rfl (by first | exact wanted_none rfl | exact wanted_if rfl rfl rfl rfl) hs (fun z hz => by go_simp) ?_
          go_frame
          refine ord_move (some 71) (.bool false) _ _ rfl rfl rfl (by first | exact wanted_none rfl | exact wanted_if rfl rfl rfl rfl) hs rfl ?_
          go_frame
          refine ord_move (some 72) (.pointer (some ⟨p, o, none⟩)) _ _ rfl rfl rfl (by first | exact wanted_none rfl | exact wanted_if rfl rfl rfl rfl) hs rfl ?_
          go_frame
          refine ord_load (some 73) (.pointer (some ⟨p, o, none⟩)) _ rfl rfl (by first | exact wanted_none rfl | exact wanted_if rfl rfl rfl rfl) hs (fun z hz => by go_simp) ?_
          go_frame
          refine ord_load (some 74) (.pointer (some ⟨p, o + 1, none⟩)) _ rfl rfl (by first | exact wanted_none rfl | exact wanted_if rfl rfl rfl rfl) hs (fun z hz => by go_simp) ?_
          go_frame
          refine ord_load (some 75) (.slice NA ns.length nc) _ rfl rfl (by first | exact wanted_none rfl | exact wanted_if rfl rfl rfl rfl) hs (fun z hz => by have dd := (hz.cell (p := ⟨p, o + 1, none⟩) HP.out).trans (HRG.out 1 _ rfl); go_simp) ?_
          go_frame
          refine ord_to (some 76) 60 Tryz.func60 (by kernel_rfl) (by kernel_rfl) [.slice NA ns.length nc] _ _ _ rfl rfl rfl (by first | exact wanted_none rfl | exact wanted_if rfl rfl rfl rfl) rfl ?_
          refine (HRI.out _ hs).mono ?_
          rintro e z1 ⟨rfl, hb1⟩
          have hs2 : Below w.heap.size w z1 := hs.trans (hb1.mono hs.size)
          refine ⟨.bool false, rfl, hs2, ?_⟩
          clear hb1
          go_frame
          refine ord_load (some 77) (.bool true) _ rfl rfl (by first | exact wanted_none rfl | exact wanted_if rfl rfl rfl rfl) hs2 (fun z hz => by go_simp) ?_
          go_frame
          refine ord_pick (some 78) (.bool true) _ _ _ _ false rfl rfl rfl rfl (by first | exact wanted_none rfl | exact wanted_if rfl rfl rfl rfl) hs2 rfl ?_
          go_frame
          refine ord_end ?_
          have HB2 := Lib.hid hs2
          clear hs hs2
          go_wp2
          go_ret
          exact ⟨ret_bool HV3.out.symm, HB2.out⟩
        | true =>
          have HV9 : Hid (res = typedL its (d + 1)) := Lib.hid (HV2.out.trans (Bool.true_and _))
          clear HV2
          go_enter Tryz.func41, Tryz.ntmps41
          go_upto_region 13 with (fail)
          clear d0 d1 d2
          refine wp_region_ord [(0, true), (1, true), (2, true), (3, true), (4, true), (5, true), (6, true), (7, true), (8, true), (9, true), (10, true), (11, true), (12, true), (13, true), (14, true), (15, true), (16, false), (17, true), (18, true)]
            (fun z => Below w.heap.size w z) (by kernel_rfl) (by kernel_rfl) (by kernel_rfl) rfl (by intro c a d v w h; cases d <;> exact h) ?_
          have hs : Below w.heap.size w w.drew := (Below.refl _ w).drew
          refine ord_move (some 60) (.pointer (some ⟨p, o, none⟩)) _ _ rfl rfl rfl (by first | exact wanted_none rfl | exact wanted_if rfl rfl rfl rfl) hs rfl ?_
          go_frame
          refine ord_load (some 61) (.pointer (some ⟨p, o, none⟩)) _ rfl rfl (by first | exact wanted_none rfl | exact wanted_if rfl rfl rfl rfl) hs (fun z hz => by go_simp) ?_
          go_frame
          refine ord_load (some 62) (.pointer (some ⟨p, o + 1, none⟩)) _ rfl rfl (by first | exact wanted_none rfl | exact wanted_if rfl rfl rfl rfl) hs (fun z hz => by go_simp) ?_
          go_frame
          refine ord_load (some 63) (.slice NA ns.length nc) _ rfl rfl (by first | exact wanted_none rfl | exact wanted_if rfl rfl rfl rfl) hs (fun z hz => by have dd := (hz.cell (p := ⟨p, o + 1, none⟩) HP.out).trans (HRG.out 1 _ rfl); go_simp) ?_
          go_frame
          refine ord_load (some 64) (.int .i64 ns.length) _ rfl rfl (by first | exact wanted_none rfl | exact wanted_if rfl rfl rfl rfl) hs (fun z hz => by go_simp) ?_
          go_frame
          refine ord_move (some 65) (.pointer (some ⟨p, o, none⟩)) _ _ rfl rfl rfl (by first | exact wanted_none rfl | exact wanted_if rfl rfl rfl rfl) hs rfl ?_
          go_frame
          refine ord_load (some 66) (.pointer (some ⟨p, o, none⟩)) _ rfl rfl (by first | exact wanted_none rfl | exact wanted_if rfl rfl rfl rfl) hs (fun z hz => by go_simp) ?_
          go_frame
          refine ord_load (some 67) (.pointer (some ⟨p, o + 2, none⟩)) _ rfl rfl (by first | exact wanted_none rfl | exact wanted_if rfl rfl rfl rfl) hs (fun z hz => by go_simp) ?_
          go_frame
          refine ord_load (some 68) (.slice A its.length c) _ rfl rfl (by first | exact wanted_none rfl | exact wanted_if rfl rfl rfl rfl) hs (fun z hz => by have dd := (hz.cell (p := ⟨p, o + 2, none⟩) HP.out).trans (HRG.out 2 _ rfl); go_simp) ?_
          go_frame
          refine ord_load (some 69) (.int .i64 its.length) _ rfl rfl (by first | exact wanted_none rfl | exact wanted_if rfl rfl rfl rfl) hs (fun z hz => by go_simp) ?_
          go_frame
          refine ord_load (some 70) (.bool false) _ rfl rfl (by first | exact wanted_none rfl | exact wanted_if rfl rfl rfl rfl) hs (fun z hz => by go_simp) ?_
          go_frame
          refine ord_move (some 71) (.bool false) _ _ rfl rfl rfl (by first | exact wanted_none rfl | exact wanted_if rfl rfl rfl rfl) hs rfl ?_
          go_frame
          refine ord_move (some 72) (.pointer (some ⟨p, o, none⟩)) _ _ rfl rfl rfl (by first | exact wanted_none rfl | exact wanted_if rfl rfl rfl rfl) hs rfl ?_
          go_frame
          refine ord_load (some 73) (.pointer (some ⟨p, o, none⟩)) _ rfl rfl (by first | exact wanted_none rfl | exact wanted_if rfl rfl rfl rfl) hs (fun z hz => by go_simp) ?_
          go_frame
          refine ord_load (some 74) (.pointer (some ⟨p, o + 1, none⟩)) _ rfl rfl (by first | exact wanted_none rfl | exact wanted_if rfl rfl rfl rfl) hs (fun z hz => by go_simp) ?_
          go_frame
          refine ord_load (some 75) (.slice NA ns.length nc) _ rfl rfl (by first | exact wanted_none rfl | exact wanted_if rfl rfl rfl rfl) hs (fun z hz => by have dd := (hz.cell (p := ⟨p, o + 1, none⟩) HP.out).trans (HRG.out 1 _ rfl); go_simp) ?_
          go_frame
          refine ord_to (some 76) 60 Tryz.func60 (by kernel_rfl) (by kernel_rfl) [.slice NA ns.length nc] _ _ _ rfl rfl rfl (by first | exact wanted_none rfl | exact wanted_if rfl rfl rfl rfl) rfl ?_
          refine (HRI.out _ hs).mono ?_
          rintro e z1 ⟨rfl, hb1⟩
          have hs2 : Below w.heap.size w z1 := hs.trans (hb1.mono hs.size)
          refine ⟨.bool true, rfl, hs2, ?_⟩
          clear hb1
          go_frame
          refine ord_load (some 77) (.bool false) _ rfl rfl (by first | exact wanted_none rfl | exact wanted_if rfl rfl rfl rfl) hs2 (fun z hz => by go_simp) ?_
          go_frame
          refine ord_pick (some 78) (.bool false) _ _ _ _ false rfl rfl rfl rfl (by first | exact wanted_none rfl | exact wanted_if rfl rfl rfl rfl) hs2 rfl ?_
          go_frame
          refine ord_end ?_
          have HB2 := Lib.hid hs2
          clear hs hs2
          have e2 := (HB2.out.cell (p := ⟨p, o + 2, none⟩) HP.out).trans (HRG.out 2 _ rfl)
          go_wp2
          clear e2
          go_loopg [84] its.length (fun q x u => ∃ j : Nat, j + q = its.length ∧ x = .int .i64 j ∧ Below w.heap.size w u ∧ typedL (its.drop j) (d + 1) = res)
          case atStart => exact ⟨0, by omega, rfl, HB2.out, HV9.out.symm⟩
          case round =>
            obtain ⟨j, hj, rfl, hb, hres⟩ := hrel
            have HR := Lib.hid hres
            have HBK := Lib.hid hb
            clear hres hb
            cases gk with
            | zero =>
              obtain rfl : j = its.length := by omega
              have hge : ¬ ((its.length : Int) < (its.length : Int)) := by omega
              have HVE := Lib.hid (HR.out.symm.trans typedL_end)
              go_wp2
              go_ret
              exact ⟨ret_bool HVE.out.symm, HBK.out⟩
            | succ q =>
              have hlt : (j : Int) < (its.length : Int) := by omega
              obtain ⟨x, hx⟩ : ∃ x, its[j]? = some x := ⟨_, List.getElem?_eq_getElem (by omega)⟩
              obtain ⟨b, o', rfl, hbl, hc⟩ := HA.out (by omega)
              obtain ⟨ks, hks, hvx⟩ := hc j x hx
              have HVS := Lib.hid (HR.out.symm.trans (typedL_step hx))
              have dd2 := (HBK.out.cell (p := ⟨p, o + 2, none⟩) HP.out).trans (HRG.out 2 _ rfl)
              have HC := Lib.hid (IH.out x (List.mem_of_getElem? hx) (d + 1) ks b (o' + j * 3) wr (by omega) (Nat.lt_of_lt_of_le hbl HBK.out.size) (rangeAt_below hks HBK.out hbl) (hvx.next HBK.out))
              have hd1 : ((d + 1 : Nat) : Int) = (d : Int) + 1 := by omega
              rw [hd1] at HC
              clear hc hks hvx hx hd1
              generalize typedT x (d + 1) = rx at *
              cases rx with
              | true =>
                have HV2 := Lib.hid (HVS.out.trans (Bool.true_and _))
                clear HVS
                go_wp2_with (go_at_call 41; refine HC.out.mono ?_; rintro e z ⟨rfl, hbz⟩; have HB3 := Lib.hid hbz; clear hbz)
                go_roundg q
                case measure => omega
                case rel => exact ⟨j + 1, by omega, by go_num, HBK.out.trans (HB3.out.mono HBK.out.size), HV2.out.symm⟩
              | false =>
                have HV2 : Hid (res = false) := Lib.hid (HVS.out.trans (Bool.false_and _))
                clear HVS
                go_wp2_with (go_at_call 41; refine HC.out.mono ?_; rintro e z ⟨rfl, hbz⟩; have HB3 := Lib.hid hbz; clear hbz)
                go_ret
                exact ⟨ret_bool HV2.out.symm, HBK.out.trans (HB3.out.mono HBK.out.size)⟩
      · have HV2 : Hid (res = false) := Lib.hid (HV.out.trans (by rw [beq_eq_false_iff_ne.2 hlen]; exact Bool.false_and _))
        have t2 : ((ns.length : Int) != (its.length : Int)) = true := by rw [bne_iff_ne]; omega
        clear HV hlen
        go_enter Tryz.func41, Tryz.ntmps41
        go_wp2
        go_quiet (fail)
        go_wp2
        go_ret
        exact ⟨ret_bool HV2.out.symm, below_drewN (Below.refl _ w) _⟩
    have HO3 := Lib.hid (HO2.out.trans (if_neg k6))
    clear HO2
    by_cases k1 : k = 1
    · subst k1
      have HV := Lib.hid (HO3.out.trans (if_pos (by decide)))
      clear HO3
      by_cases hm0 : ns.length = 0
      · have m1 : ((ns.length : Int) == 0) = true := by rw [hm0]; rfl
        have m1' : (ns.length == 0) = true := by rw [hm0]; rfl
        clear hm0
        by_cases hi0 : its.length = 0
        · have i1 : ((its.length : Int) == 0) = true := by rw [hi0]; rfl
          have i1' : (its.length == 0) = true := by rw [hi0]; rfl
          clear hi0
          have HR : Hid (res = true) := Lib.hid (by rw [HV.out]; simp [m1', i1'])
          go_enter Tryz.func41, Tryz.ntmps41
          go_wp2
          go_ret
          exact ⟨ret_bool HR.out.symm, Below.refl _ w⟩
        · have i1 : ((its.length : Int) == 0) = false := by rw [beq_eq_false_iff_ne]; omega
          have i1' : (its.length == 0) = false := by simpa using hi0
          clear hi0
          have HR : Hid (res = false) := Lib.hid (by rw [HV.out]; simp [m1', i1'])
          go_enter Tryz.func41, Tryz.ntmps41
          go_wp2
          go_ret
          exact ⟨ret_bool HR.out.symm, Below.refl _ w⟩
      · have m1 : ((ns.length : Int) == 0) = false := by rw [beq_eq_false_iff_ne]; omega
        have m1' : (ns.length == 0) = false := by simpa using hm0
        clear hm0
        have HR : Hid (res = false) := Lib.hid (by rw [HV.out]; simp [m1'])
        go_enter Tryz.func41, Tryz.ntmps41
        go_wp2
        go_ret
        exact ⟨ret_bool HR.out.symm, Below.refl _ w⟩
    by_cases k2 : k = 2
    · subst k2
      have HV := Lib.hid (HO3.out.trans (if_pos (by decide)))
      clear HO3
      by_cases hm0 : ns.length = 0
      · have m1 : ((ns.length : Int) == 0) = true := by rw [hm0]; rfl
        have m1' : (ns.length == 0) = true := by rw [hm0]; rfl
        clear hm0
        by_cases hi0 : its.length = 0
        · have i1 : ((its.length : Int) == 0) = true := by rw [hi0]; rfl
          have i1' : (its.length == 0) = true := by rw [hi0]; rfl
          clear hi0
          have HR : Hid (res = true) := Lib.hid (by rw [HV.out]; simp [m1', i1'])
          go_enter Tryz.func41, Tryz.ntmps41
          go_wp2
          go_ret
          exact ⟨ret_bool HR.out.symm, Below.refl _ w⟩
        · have i1 : ((its.length : Int) == 0) = false := by rw [beq_eq_false_iff_ne]; omega
          have i1' : (its.length == 0) = false := by simpa using hi0
          clear hi0
          have HR : Hid (res = false) := Lib.hid (by rw [HV.out]; simp [m1', i1'])
          go_enter Tryz.func41, Tryz.ntmps41
          go_wp2
          go_ret
          exact ⟨ret_bool HR.out.symm, Below.refl _ w⟩
      · have m1 : ((ns.length : Int) == 0) = false := by rw [beq_eq_false_iff_ne]; omega
        have m1' : (ns.length == 0) = false := by simpa using hm0
        clear hm0
        have HR : Hid (res = false) := Lib.hid (by rw [HV.out]; simp [m1'])
        go_enter Tryz.func41, Tryz.ntmps41
        go_wp2
        go_ret
        exact ⟨ret_bool HR.out.symm, Below.refl _ w⟩
    by_cases k3 : k = 3
    · subst k3
      have HV := Lib.hid (HO3.out.trans (if_pos (by decide)))
      clear HO3
      by_cases hm0 : ns.length = 0
      · have m1 : ((ns.length : Int) == 0) = true := by rw [hm0]; rfl
        have m1' : (ns.length == 0) = true := by rw [hm0]; rfl
        clear hm0
        by_cases hi0 : its.length = 0
        · have i1 : ((its.length : Int) == 0) = true := by rw [hi0]; rfl
          have i1' : (its.length == 0) = true := by rw [hi0]; rfl
          clear hi0
          have HR : Hid (res = true) := Lib.hid (by rw [HV.out]; simp [m1', i1'])
          go_enter Tryz.func41, Tryz.ntmps41
          go_wp2
          go_ret
          exact ⟨ret_bool HR.out.symm, Below.refl _ w⟩
        · have i1 : ((its.length : Int) == 0) = false := by rw [beq_eq_false_iff_ne]; omega
          have i1' : (its.length == 0) = false := by simpa using hi0
          clear hi0
          have HR : Hid (res = false) := Lib.hid (by rw [HV.out]; simp [m1', i1'])
          go_enter Tryz.func41, Tryz.ntmps41
          go_wp2
          go_ret
          exact ⟨ret_bool HR.out.symm, Below.refl _ w⟩
      · have m1 : ((ns.length : Int) == 0) = false := by rw [beq_eq_false_iff_ne]; omega
        have m1' : (ns.length == 0) = false := by simpa using hm0
        clear hm0
        have HR : Hid (res = false) := Lib.hid (by rw [HV.out]; simp [m1'])
        go_enter Tryz.func41, Tryz.ntmps41
        go_wp2
        go_ret
        exact ⟨ret_bool HR.out.symm, Below.refl _ w⟩
    by_cases k4 : k = 4
    · subst k4
      have HV := Lib.hid (HO3.out.trans (if_pos (by decide)))
      clear HO3
      by_cases hm0 : ns.length = 0
      · have m1 : ((ns.length : Int) == 0) = true := by rw [hm0]; rfl
        have m1' : (ns.length == 0) = true := by rw [hm0]; rfl
        clear hm0
        by_cases hi0 : its.length = 0
        · have i1 : ((its.length : Int) == 0) = true := by rw [hi0]; rfl
          have i1' : (its.length == 0) = true := by rw [hi0]; rfl
          clear hi0
          have HR : Hid (res = true) := Lib.hid (by rw [HV.out]; simp [m1', i1'])
          go_enter Tryz.func41, Tryz.ntmps41
          go_wp2
          go_ret
          exact ⟨ret_bool HR.out.symm, Below.refl _ w⟩
        · have i1 : ((its.length : Int) == 0) = false := by rw [beq_eq_false_iff_ne]; omega
          have i1' : (its.length == 0) = false := by simpa using hi0
          clear hi0
          have HR : Hid (res = false) := Lib.hid (by rw [HV.out]; simp [m1', i1'])
          go_enter Tryz.func41, Tryz.ntmps41
          go_wp2
          go_ret
          exact ⟨ret_bool HR.out.symm, Below.refl _ w⟩
      · have m1 : ((ns.length : Int) == 0) = false := by rw [beq_eq_false_iff_ne]; omega
        have m1' : (ns.length == 0) = false := by simpa using hm0
        clear hm0
        have HR : Hid (res = false) := Lib.hid (by rw [HV.out]; simp [m1'])
        go_enter Tryz.func41, Tryz.ntmps41
        go_wp2
        go_ret
        exact ⟨ret_bool HR.out.symm, Below.refl _ w⟩
    by_cases k7 : k = 7
    · subst k7
      have HV := Lib.hid (HO3.out.trans (if_pos (by decide)))
      clear HO3
      by_cases hm0 : ns.length = 0
      · have m1 : ((ns.length : Int) == 0) = true := by rw [hm0]; rfl
        have m1' : (ns.length == 0) = true := by rw [hm0]; rfl
        clear hm0
        by_cases hi0 : its.length = 0
        · have i1 : ((its.length : Int) == 0) = true := by rw [hi0]; rfl
          have i1' : (its.length == 0) = true := by rw [hi0]; rfl
          clear hi0
          have HR : Hid (res = true) := Lib.hid (by rw [HV.out]; simp [m1', i1'])
          go_enter Tryz.func41, Tryz.ntmps41
          go_wp2
          go_ret
          exact ⟨ret_bool HR.out.symm, Below.refl _ w⟩
        · have i1 : ((its.length : Int) == 0) = false := by rw [beq_eq_false_iff_ne]; omega
          have i1' : (its.length == 0) = false := by simpa using hi0
          clear hi0
          have HR : Hid (res = false) := Lib.hid (by rw [HV.out]; simp [m1', i1'])
          go_enter Tryz.func41, Tryz.ntmps41
          go_wp2
          go_ret
          exact ⟨ret_bool HR.out.symm, Below.refl _ w⟩
      · have m1 : ((ns.length : Int) == 0) = false := by rw [beq_eq_false_iff_ne]; omega
        have m1' : (ns.length == 0) = false := by simpa using hm0
        clear hm0
        have HR : Hid (res = false) := Lib.hid (by rw [HV.out]; simp [m1'])
        go_enter Tryz.func41, Tryz.ntmps41
        go_wp2
        go_ret
        exact ⟨ret_bool HR.out.symm, Below.refl _ w⟩
    have HR := Lib.hid (HO3.out.trans (if_neg (by omega)))
    have s1 : (k == 1) = false := by simpa using k1
    have s2 : (k == 2) = false := by simpa using k2
    have s3 : (k == 3) = false := by simpa using k3
    have s4 : (k == 4) = false := by simpa using k4
    have s5 : (k == 5) = false := by simpa using k5
    have s6 : (k == 6) = false := by simpa using k6
    have s7 : (k == 7) = false := by simpa using k7
    clear HO3 k1 k2 k3 k4 k5 k6 k7
    go_enter Tryz.func41, Tryz.ntmps41
    go_wp2
    go_ret
    exact ⟨ret_bool HR.out.symm, Below.refl _ w⟩
set_option maxHeartbeats 1000000 in
theorem typeRight_any (t : TT) (cs : List Value) (w : World) (hv : TypAt w w.heap.size cs t) : Calls Tryz.prog 14 #[.agg ⟨cs⟩] w fun e w' => e = .returned (.bool (decide (cntT t 0 ≤ 200) && typedT t 1)) ∧ Below w.heap.size w w' := by
  have HB1 := Lib.hid (box_below w (.cells ⟨cs⟩ 36))
  have HS1 := Lib.hid (box_size w (.cells ⟨cs⟩ 36))
  have HR1 := Lib.hid (range_box w cs 36)
  have HV := Lib.hid (hv.next HB1.out)
  clear hv
  go_enter Tryz.func14, Tryz.ntmps14
  go_upto_region 1 with (fail)
  generalize w.alloc (.cells ⟨cs⟩ 36) = W at *
  have HP := Lib.hid (typeParts_any t 0 cs w.heap.size 0 W (by decide) HR1.out HV.out)
  have HT := Lib.hid (typed_any t 1 cs w.heap.size 0 W (by decide) HS1.out HR1.out HV.out)
  by_cases hc : cntT t 0 ≤ 200
  · have t1 : ((cntT t 0 : Nat) : Int) ≤ 200 := by omega
    have HD : Hid ((decide (cntT t 0 ≤ 200) && typedT t 1) = typedT t 1) := Lib.hid (by rw [decide_eq_true hc]; exact Bool.true_and _)
    go_wp2_with (first | (go_at_call 40; refine HP.out.mono ?_; rintro e z ⟨rfl, hzw⟩; obtain rfl := hzw) | (go_at_call 41; refine HT.out.mono ?_; rintro e z2 ⟨rfl, hbz⟩; have HB3 := Lib.hid hbz; clear hbz))
    go_ret
    exact ⟨ret_bool HD.out.symm, HB1.out.trans (HB3.out.mono HB1.out.size)⟩
  · have t1 : ¬ (((cntT t 0 : Nat) : Int) ≤ 200) := by omega
    have HD : Hid ((decide (cntT t 0 ≤ 200) && typedT t 1) = false) := Lib.hid (by rw [decide_eq_false hc]; exact Bool.false_and _)
    go_wp2_with (go_at_call 40; refine HP.out.mono ?_; rintro e z ⟨rfl, hzw⟩; obtain rfl := hzw)
    go_ret
    first | exact ⟨ret_bool HD.out.symm, HB1.out⟩ | exact ⟨rfl, HB1.out⟩
end Go.Proofs.YtieciegfloldhaaGreatDoor
