/- The document's types: ref04.TDepth, tcount, TParts, TSmall, tright, TypeRight. -/
import Derived.Test.YtieciegfloldhaaGreatDoorRRight
import Derived.Test.YtieciegfloldhaaGreatDoorTyp
namespace Go.Proofs.YtieciegfloldhaaGreatDoor
open Go Go.RowKit
set_option linter.unusedVariables false
set_option linter.unusedSimpArgs false

set_option maxHeartbeats 1000000 in
theorem tdepth : ∀ (x : TT) (far : Nat) (cs : List Value) (w : World), far ≤ 40 → TypAt w w.heap.size cs x → Calls Tryz.prog 38 #[.agg ⟨cs⟩, .int .i64 far] w (SomeInt w) := by
  intro x
  induction x using TT.ind with
  | h k ns its ih =>
    intro far cs w hfar hv
    obtain ⟨vn, vi, rfl, _, _, _, hi⟩ := hv.inv
    obtain ⟨A, c, rfl, hil, hA⟩ := typs_at hi
    have HA := Lib.hid hA
    have IH := Lib.hid ih
    clear hA hv ih hi
    go_enter Tryz.func38, Tryz.ntmps38
    go_upto_region 1 with (fail)
    have hb0 := box_below w (.cells ⟨[.int .i64 k, vn, .slice A its.length c]⟩ 36)
    have hz0 := box_size w (.cells ⟨[.int .i64 k, vn, .slice A its.length c]⟩ 36)
    have c5 := cell_box w ⟨[.int .i64 k, vn, .slice A its.length c]⟩ 36 2
    generalize w.alloc (.cells ⟨[.int .i64 k, vn, .slice A its.length c]⟩ 36) = W at *
    have HB := Lib.hid hb0
    have C5 := Lib.hid c5
    have HSZ := Lib.hid hz0
    clear hb0 c5 hz0
    go_wp2
    go_loopg [5, 6] its.length (fun g m i wr => ∃ (j : Nat) (x : Int), j + g = its.length ∧ i = .int .i64 j ∧ m = .int .i64 x ∧ Below W.heap.size W wr)
    case atStart => exact ⟨0, 0, by omega, rfl, rfl, Below.refl _ _⟩
    case round =>
      obtain ⟨j, x, hj, rfl, rfl, hb⟩ := hrel
      have HB1 := Lib.hid hb
      have d5 := (hb.cell (p := ⟨w.heap.size, 2, none⟩) HSZ.out).trans C5.out
      clear hb
      simp only [List.getElem?_toArray, List.getElem?_cons_succ, List.getElem?_cons_zero] at d5
      cases gk with
      | zero =>
        have hge : ¬ ((j : Int) < (its.length : Int)) := by omega
        go_wp2
        go_ret
        exact ⟨_, rfl, HB.out.trans (HB1.out.mono HB.out.size)⟩
      | succ g =>
        have hlt : (j : Int) < (its.length : Int) := by omega
        by_cases h0 : far = 0
        · subst h0
          go_wp2
          go_ret
          exact ⟨_, rfl, HB.out.trans (HB1.out.mono HB.out.size)⟩
        · have hpos : (0 : Int) < (far : Int) := by omega
          obtain ⟨y, hy⟩ : ∃ y, its[j]? = some y := ⟨_, List.getElem?_eq_getElem (by omega)⟩
          obtain ⟨b, o, rfl, hbb, hc⟩ := HA.out (by omega)
          obtain ⟨cs, hr, hR⟩ := hc j y hy
          have hB2 := HB.out.trans (HB1.out.mono HB.out.size)
          have HR := Lib.hid (rangeAt_below hr hB2 hbb)
          have HC := Lib.hid (IH.out y (List.mem_of_getElem? hy) (far - 1) cs wr (by omega) (hR.next hB2))
          have HCL := Lib.hid (typ_one hR)
          have hf1 : ((far - 1 : Nat) : Int) = (far : Int) - 1 := by omega
          clear hc hr hR hB2 hy h0
          rw [hf1] at HC
          clear hf1
          go_wp2_with (first | ((with_reducible refine wl_sload 36 _ rfl ?hwa b (o + j * 3) cs _ rfl HR.out Tryz.underlying36 rfl ?hia ?_); (case hwa => (first | exact wanted_none rfl | exact wanted_if rfl rfl rfl rfl)); (case hia => rw [HCL.out.1]; kernel_rfl)) | (go_at_call 38; refine HC.out.mono ?_; rintro e w' ⟨z, rfl, hb⟩; have HB2 := Lib.hid hb; clear hb))
          all_goals
            go_roundg g
            case measure => omega
            case rel => exact ⟨j + 1, _, by omega, by go_num, rfl, HB1.out.trans (HB2.out.mono HB1.out.size)⟩
set_option maxHeartbeats 1000000 in
set_option maxRecDepth 100000 in
theorem tcount_any : ∀ (t : TT) (m : Nat) (cs : List Value) (w : World), m < 500 → TypAt w w.heap.size cs t →
    Calls Tryz.prog 66 #[.agg ⟨cs⟩, .int .i64 m] w fun e w' => e = .returned (.int .i64 (cntT t m : Nat)) ∧ Below w.heap.size w w' := by
  intro t
  induction t using TT.ind with
  | h k ns its ih =>
    intro m cs w hm hv
    have IH := Lib.hid ih
    obtain ⟨vn, vi, rfl, _, _, _, hi⟩ := hv.inv
    obtain ⟨A, c, rfl, hil, hA⟩ := typs_at hi
    have HA := Lib.hid hA
    have HS := Lib.hid (fun k m x => cntTL_step (l := its) (k := k) (m := m) (x := x))
    have HE := Lib.hid (fun m => cntTL_end (l := its) (m := m))
    have HLE := Lib.hid (fun x m hm => cntT_le x m hm)
    have HCE : Hid (∀ k m, 500 ≤ m → cntTL (its.drop k) m = m) := Lib.hid (fun k m h => by
      cases its.drop k with
      | nil => rw [cntTL]
      | cons a l => rw [cntTL, if_pos h])
    have H0 : Hid (cntTL (its.drop 0) (m + 1) = cntT (.mk k ns its) m) := Lib.hid (by rw [cntT]; rfl)
    clear ih hi hA hv
    generalize cntT (.mk k ns its) m = res at *
    go_enter Tryz.func66, Tryz.ntmps66
    go_upto_region 1 with (fail)
    have hb0 := box_below w (.cells ⟨[.int .i64 k, vn, .slice A its.length c]⟩ 36)
    have hz0 := box_size w (.cells ⟨[.int .i64 k, vn, .slice A its.length c]⟩ 36)
    have c5 := cell_box w ⟨[.int .i64 k, vn, .slice A its.length c]⟩ 36 2
    generalize w.alloc (.cells ⟨[.int .i64 k, vn, .slice A its.length c]⟩ 36) = W at *
    have HB := Lib.hid hb0
    have C5 := Lib.hid c5
    have HSZ := Lib.hid hz0
    clear hb0 c5 hz0
    have hm2 : (m : Int) < 500 := by omega
    go_wp2
    go_loopg [1, 5] its.length (fun g u i wr => ∃ (j m : Nat), j + g = its.length ∧ i = .int .i64 j ∧ u = .int .i64 m ∧ m ≤ 500 ∧ Below W.heap.size W wr ∧ cntTL (its.drop j) m = res)
    case atStart => exact ⟨0, m + 1, by omega, rfl, by go_num, by omega, Below.refl _ _, H0.out⟩
    case round =>
      obtain ⟨j, m, hj, rfl, rfl, hm5, hb, hres⟩ := hrel
      have HB1 := Lib.hid hb
      have HR := Lib.hid hres
      have d5 := (hb.cell (p := ⟨w.heap.size, 2, none⟩) HSZ.out).trans C5.out
      clear hb hres
      simp only [List.getElem?_toArray, List.getElem?_cons_succ, List.getElem?_cons_zero] at d5
      have hm5' : (m : Int) ≤ 500 := by omega
      cases gk with
      | zero =>
        obtain rfl : j = its.length := by omega
        have hge : ¬ ((its.length : Int) < (its.length : Int)) := by omega
        have HV := Lib.hid (HR.out.symm.trans (HE.out m))
        go_wp2
        go_ret
        exact ⟨by rw [HV.out]; go_num, HB.out.trans (HB1.out.mono HB.out.size)⟩
      | succ g =>
        have hlt : (j : Int) < (its.length : Int) := by omega
        by_cases h0 : m < 500
        · obtain ⟨y, hy⟩ : ∃ y, its[j]? = some y := ⟨_, List.getElem?_eq_getElem (by omega)⟩
          obtain ⟨b, o, rfl, hbb, hc⟩ := HA.out (by omega)
          obtain ⟨cs, hr, hR⟩ := hc j y hy
          have hB2 := HB.out.trans (HB1.out.mono HB.out.size)
          have HV := Lib.hid (HR.out.symm.trans (HS.out j m y hy))
          have HV2 := Lib.hid (HV.out.trans (if_neg (by omega)))
          have HR1 := Lib.hid (rangeAt_below hr hB2 hbb)
          have HC := Lib.hid (IH.out y (List.mem_of_getElem? hy) m cs wr h0 (hR.next hB2))
          have HCL := Lib.hid (typ_one hR)
          have hle := HLE.out y m h0
          have h0' : (m : Int) < 500 := by omega
          clear hc hr hR hB2 hy HV h0
          go_wp2_with (first | ((with_reducible refine wl_sload 36 _ rfl ?hwa b (o + j * 3) cs _ rfl HR1.out Tryz.underlying36 rfl ?hia ?_); (case hwa => (first | exact wanted_none rfl | exact wanted_if rfl rfl rfl rfl)); (case hia => rw [HCL.out.1]; kernel_rfl)) | (go_at_call 66; refine HC.out.mono ?_; rintro e w' ⟨rfl, hb⟩; have HB2 := Lib.hid hb; clear hb))
          go_roundg g
          case measure => omega
          case rel => exact ⟨j + 1, _, by omega, by go_num, rfl, hle, HB1.out.trans (HB2.out.mono HB1.out.size), HV2.out.symm⟩
        · have HV := Lib.hid (HR.out.symm.trans (HCE.out j m (by omega)))
          have h0' : ¬ ((m : Int) < 500) := by omega
          have hm500 : m = 500 := by omega
          go_wp2
          all_goals
            go_ret
            exact ⟨by rw [HV.out, hm500]; rfl, HB.out.trans (HB1.out.mono HB.out.size)⟩
set_option maxHeartbeats 1000000 in
theorem tparts_any (t : TT) (cs : List Value) (w : World) (hv : TypAt w w.heap.size cs t) : Calls Tryz.prog 39 #[.agg ⟨cs⟩] w fun e w' => e = .returned (.int .i64 (cntT t 0 : Nat)) ∧ Below w.heap.size w w' := by
  have HCL := Lib.hid (typ_one hv)
  have HV := Lib.hid hv
  clear hv
  go_enter Tryz.func39, Tryz.ntmps39
  go_upto_region 1 with (fail)
  have HB := Lib.hid (box_below w (.cells ⟨cs⟩ 36))
  have HR := Lib.hid (range_box w cs 36)
  generalize w.alloc (.cells ⟨cs⟩ 36) = W at *
  have HC := Lib.hid (tcount_any t 0 cs W (by omega) (HV.out.next HB.out))
  go_wp2_with (first | ((with_reducible refine wl_sload 36 _ rfl ?hwa w.heap.size 0 cs _ rfl HR.out Tryz.underlying36 rfl ?hia ?_); (case hwa => (first | exact wanted_none rfl | exact wanted_if rfl rfl rfl rfl)); (case hia => rw [HCL.out.1]; kernel_rfl)) | (go_at_call 66; refine HC.out.mono ?_; rintro e w' ⟨rfl, hb⟩; have HB2 := Lib.hid hb; clear hb))
  go_ret
  exact ⟨rfl, HB.out.trans (HB2.out.mono HB.out.size)⟩
set_option maxHeartbeats 1000000 in
theorem tsmall (x : TT) (cs : List Value) (w : World) (hv : TypAt w w.heap.size cs x) : Calls Tryz.prog 13 #[.agg ⟨cs⟩] w (SomeBool w) := by
  have HCL := Lib.hid (typ_one hv)
  have HV := Lib.hid hv
  clear hv
  go_enter Tryz.func13, Tryz.ntmps13
  go_upto_region 1 with (fail)
  have HB := Lib.hid (box_below w (.cells ⟨cs⟩ 36))
  have HR := Lib.hid (range_box w cs 36)
  have HSZ := Lib.hid (box_size w (.cells ⟨cs⟩ 36))
  generalize w.alloc (.cells ⟨cs⟩ 36) = W at *
  have HC := Lib.hid (tdepth x 40 cs W (by omega) (HV.out.next HB.out))
  go_wp2_with (first | ((with_reducible refine wl_sload 36 _ rfl ?hwa w.heap.size 0 cs _ rfl HR.out Tryz.underlying36 rfl ?hia ?_); (case hwa => (first | exact wanted_none rfl | exact wanted_if rfl rfl rfl rfl)); (case hia => rw [HCL.out.1]; kernel_rfl)) | (go_at_call 38; fail))
  refine HC.out.mono ?_
  rintro e w2 ⟨z, rfl, hb⟩
  have HB2 := Lib.hid (HB.out.trans (hb.mono HB.out.size))
  have HR2 := Lib.hid (rangeAt_below HR.out hb HSZ.out)
  have HC2 := Lib.hid (tparts_any x cs w2 (HV.out.next HB2.out))
  clear hb HC
  by_cases hz : z ≤ 30
  · go_wp2_with (first | ((with_reducible refine wl_sload 36 _ rfl ?hwc w.heap.size 0 cs _ rfl HR2.out Tryz.underlying36 rfl ?hic ?_); (case hwc => (first | exact wanted_none rfl | exact wanted_if rfl rfl rfl rfl)); (case hic => rw [HCL.out.1]; kernel_rfl)) | (go_at_call 39; refine HC2.out.mono ?_; rintro e w' ⟨rfl, hb⟩; have HB3 := Lib.hid hb; clear hb))
    all_goals
      go_ret
      exact ⟨_, rfl, HB2.out.trans (HB3.out.mono HB2.out.size)⟩
  · go_wp2
    all_goals
      go_ret
      exact ⟨_, rfl, HB2.out⟩
set_option maxHeartbeats 8000000 in
set_option maxRecDepth 100000 in
theorem tright_any : ∀ (t : TT) (far d : Nat) (cs : List Value) (w : World), far + d = 13 → TypAt w w.heap.size cs t →
    Calls Tryz.prog 42 #[.agg ⟨cs⟩, .int .i64 far] w fun e w' => e = .returned (.bool (typedT t d)) ∧ Below w.heap.size w w' := by
  intro t
  induction t using TT.ind with
  | h k ns its ih =>
    intro far d cs w hfd hv
    have IH := Lib.hid ih
    obtain ⟨vn, vi, rfl, _, hn, _, hi⟩ := hv.inv
    obtain ⟨_, NA, nc, rfl, _⟩ := id hn
    obtain ⟨A, c, rfl, hil, hA⟩ := typs_at hi
    have hnl := hn.1
    have HN := Lib.hid hn
    have HA := Lib.hid hA
    have hf13 : far ≤ 13 := by omega
    have hfd' : d = 13 - far := by omega
    have HO : Hid (typedT (.mk k ns its) d = if 12 < d then false
      else if k = 5 then (its.length == 1) && ((ns.length == 0) && typedL its (d + 1))
      else if k = 6 then (ns.length == its.length) && (riseB none ns && typedL its (d + 1))
      else if k = 1 ∨ k = 2 ∨ k = 3 ∨ k = 4 ∨ k = 7 then (ns.length == 0) && (its.length == 0)
      else false) := Lib.hid (by rw [typedT])
    generalize hres : typedT (.mk k ns its) d = res at *
    have HW := Lib.hid (box_below w (.cells ⟨[.int .i64 k, .slice NA ns.length nc, .slice A its.length c]⟩ 36))
    have HSZ := Lib.hid (box_size w (.cells ⟨[.int .i64 k, .slice NA ns.length nc, .slice A its.length c]⟩ 36))
    have HRG := Lib.hid (range_box w [.int .i64 k, .slice NA ns.length nc, .slice A its.length c] 36)
    clear ih hv hn hi hA hres
    by_cases hdeep : far = 0
    · subst hdeep
      have HR : Hid (res = false) := Lib.hid (HO.out.trans (if_pos (by omega)))
      have t1 : ((0 : Nat) : Int) < 1 := by omega
      clear HO
      (try clear hi0); (try clear hm0); (try clear hi1)
      go_enter Tryz.func42, Tryz.ntmps42
      go_upto_region 1 with (fail)
      generalize w.alloc (.cells ⟨[.int .i64 k, .slice NA ns.length nc, .slice A its.length c]⟩ 36) = W at *
      have d0 : W.cell? ⟨w.heap.size, 0, none⟩ = some (.int .i64 k) := by have := HRG.out 0 _ rfl; simpa using this
      have d1 : W.cell? ⟨w.heap.size, 1, none⟩ = some (.slice NA ns.length nc) := by have := HRG.out 1 _ rfl; simpa using this
      have d2 : W.cell? ⟨w.heap.size, 2, none⟩ = some (.slice A its.length c) := by have := HRG.out 2 _ rfl; simpa using this
      go_wp2
      go_ret
      exact ⟨ret_bool HR.out.symm, HW.out⟩
    have t1 : ¬ ((far : Int) < 1) := by omega
    have HO1 := Lib.hid (HO.out.trans (if_neg (by omega)))
    clear HO
    by_cases k5 : k = 5
    · subst k5
      have HV := Lib.hid (HO1.out.trans (if_pos rfl))
      clear HO1
      by_cases hi1 : its.length = 1
      · have j1 : ((its.length : Int) == 1) = true := by rw [hi1]; rfl
        have j1' : (its.length == 1) = true := by rw [hi1]; rfl
        have j2 : ((its.length : Int) != 1) = false := by rw [hi1]; rfl
        by_cases hm0 : ns.length = 0
        · have m1 : ((ns.length : Int) == 0) = true := by rw [hm0]; rfl
          have m1' : (ns.length == 0) = true := by rw [hm0]; rfl
          have m2 : ((ns.length : Int) != 0) = false := by rw [hm0]; rfl
          have HM0 := Lib.hid hm0
          have HI1 := Lib.hid hi1
          have HR : Hid (res = typedL its (d + 1)) := Lib.hid (by rw [HV.out]; simp [m1', j1'])
          clear m1 m1' m2 j1 j1' j2
          (try clear hi0); (try clear hm0); (try clear hi1)
          go_enter Tryz.func42, Tryz.ntmps42
          go_upto_region 1 with (fail)
          generalize w.alloc (.cells ⟨[.int .i64 5, .slice NA ns.length nc, .slice A its.length c]⟩ 36) = W at *
          have d0 : W.cell? ⟨w.heap.size, 0, none⟩ = some (.int .i64 5) := by have := HRG.out 0 _ rfl; simpa using this
          have d1 : W.cell? ⟨w.heap.size, 1, none⟩ = some (.slice NA ns.length nc) := by have := HRG.out 1 _ rfl; simpa using this
          have d2 : W.cell? ⟨w.heap.size, 2, none⟩ = some (.slice A its.length c) := by have := HRG.out 2 _ rfl; simpa using this
          have D5 := Lib.hid d2
          have hm0 := HM0.out
          rw [hm0] at d1
          have hi1 := HI1.out
          rw [hi1] at d2
          clear hm0 hi1
          go_wp2
          clear d2
          go_loopg [5] its.length (fun q x u => ∃ j : Nat, j + q = its.length ∧ x = .int .i64 j ∧ Below W.heap.size W u ∧ typedL (its.drop j) (d + 1) = res)
          case atStart => exact ⟨0, by omega, rfl, Below.refl _ _, HR.out.symm⟩
          case round =>
            obtain ⟨j, hj, rfl, hb, hres⟩ := hrel
            have HR2 := Lib.hid hres
            have HBK := Lib.hid hb
            have d5' := (hb.cell (p := ⟨w.heap.size, 2, none⟩) HSZ.out).trans D5.out
            clear hres hb
            cases gk with
            | zero =>
              obtain rfl : j = its.length := by omega
              have hge : ¬ ((its.length : Int) < (its.length : Int)) := by omega
              have HVE := Lib.hid (HR2.out.symm.trans typedL_end)
              go_wp2
              go_ret
              exact ⟨ret_bool HVE.out.symm, HW.out.trans (HBK.out.mono HW.out.size)⟩
            | succ q =>
              have hlt : (j : Int) < (its.length : Int) := by omega
              obtain ⟨x, hx⟩ : ∃ x, its[j]? = some x := ⟨_, List.getElem?_eq_getElem (by omega)⟩
              obtain ⟨b, o', rfl, hbl, hc⟩ := HA.out (by omega)
              obtain ⟨ks, hks, hvx⟩ := hc j x hx
              have HVS := Lib.hid (HR2.out.symm.trans (typedL_step hx))
              have HBT := Lib.hid (HW.out.trans (HBK.out.mono HW.out.size))
              have HKS := Lib.hid (rangeAt_below hks HBT.out hbl)
              have HKL := Lib.hid (typ_one hvx)
              have HC := Lib.hid (IH.out x (List.mem_of_getElem? hx) (far - 1) (d + 1) ks wr (by omega) (hvx.next HBT.out))
              have hd1 : ((far - 1 : Nat) : Int) = (far : Int) - 1 := by omega
              rw [hd1] at HC
              clear hc hks hvx hx hd1
              generalize typedT x (d + 1) = rx at *
              cases rx with
              | true =>
                have HV2 := Lib.hid (HVS.out.trans (Bool.true_and _))
                clear HVS
                go_wp2_with (first | ((with_reducible refine wl_sload 36 _ rfl ?hwa b (o' + j * 3) ks _ rfl HKS.out Tryz.underlying36 rfl ?hia ?_); (case hwa => (first | exact wanted_none rfl | exact wanted_if rfl rfl rfl rfl)); (case hia => rw [HKL.out.1]; kernel_rfl)) | (go_at_call 42; refine HC.out.mono ?_; rintro e z ⟨rfl, hbz⟩; have HB3 := Lib.hid hbz; clear hbz))
                go_roundg q
                case measure => omega
                case rel => exact ⟨j + 1, by omega, by go_num, HBK.out.trans (HB3.out.mono HBK.out.size), HV2.out.symm⟩
              | false =>
                have HV2 : Hid (res = false) := Lib.hid (HVS.out.trans (Bool.false_and _))
                clear HVS
                go_wp2_with (first | ((with_reducible refine wl_sload 36 _ rfl ?hwa b (o' + j * 3) ks _ rfl HKS.out Tryz.underlying36 rfl ?hia ?_); (case hwa => (first | exact wanted_none rfl | exact wanted_if rfl rfl rfl rfl)); (case hia => rw [HKL.out.1]; kernel_rfl)) | (go_at_call 42; refine HC.out.mono ?_; rintro e z ⟨rfl, hbz⟩; have HB3 := Lib.hid hbz; clear hbz))
                go_ret
                exact ⟨ret_bool HV2.out.symm, HBT.out.trans (HB3.out.mono HBT.out.size)⟩
        · have m1 : ((ns.length : Int) == 0) = false := by rw [beq_eq_false_iff_ne]; omega
          have m1' : (ns.length == 0) = false := by simpa using hm0
          have m2 : ((ns.length : Int) != 0) = true := by rw [bne_iff_ne]; omega
          have HR : Hid (res = false) := Lib.hid (by rw [HV.out]; simp [m1', j1'])
          (try clear hi0); (try clear hm0); (try clear hi1)
          go_enter Tryz.func42, Tryz.ntmps42
          go_upto_region 1 with (fail)
          generalize w.alloc (.cells ⟨[.int .i64 5, .slice NA ns.length nc, .slice A its.length c]⟩ 36) = W at *
          have d0 : W.cell? ⟨w.heap.size, 0, none⟩ = some (.int .i64 5) := by have := HRG.out 0 _ rfl; simpa using this
          have d1 : W.cell? ⟨w.heap.size, 1, none⟩ = some (.slice NA ns.length nc) := by have := HRG.out 1 _ rfl; simpa using this
          have d2 : W.cell? ⟨w.heap.size, 2, none⟩ = some (.slice A its.length c) := by have := HRG.out 2 _ rfl; simpa using this
          go_wp2
          go_ret
          exact ⟨ret_bool HR.out.symm, HW.out⟩
      · have j1' : (its.length == 1) = false := by simpa using hi1
        have j2 : ((its.length : Int) != 1) = true := by rw [bne_iff_ne]; omega
        have HR : Hid (res = false) := Lib.hid (by rw [HV.out]; simp [j1'])
        (try clear hi0); (try clear hm0); (try clear hi1)
        go_enter Tryz.func42, Tryz.ntmps42
        go_upto_region 1 with (fail)
        generalize w.alloc (.cells ⟨[.int .i64 5, .slice NA ns.length nc, .slice A its.length c]⟩ 36) = W at *
        have d0 : W.cell? ⟨w.heap.size, 0, none⟩ = some (.int .i64 5) := by have := HRG.out 0 _ rfl; simpa using this
        have d1 : W.cell? ⟨w.heap.size, 1, none⟩ = some (.slice NA ns.length nc) := by have := HRG.out 1 _ rfl; simpa using this
        have d2 : W.cell? ⟨w.heap.size, 2, none⟩ = some (.slice A its.length c) := by have := HRG.out 2 _ rfl; simpa using this
        go_wp2
        go_ret
        exact ⟨ret_bool HR.out.symm, HW.out⟩
    have HO2 := Lib.hid (HO1.out.trans (if_neg k5))
    clear HO1
    by_cases k6 : k = 6
    · subst k6
      have HV := Lib.hid (HO2.out.trans (if_pos rfl))
      clear HO2
      have HNS := Lib.hid (fun z (hz : Below w.heap.size w z) => rnames_any (.slice NA ns.length nc) ns its.length z ((HN.out.below hz fun _ _ _ h => h).more hz.size))
      cases hnm : (riseB none ns && (ns.length == its.length)) with
      | true =>
        have hq := hnm
        rw [Bool.and_eq_true] at hq
        obtain ⟨q1, q2⟩ := hq
        rw [hnm] at HNS
        have HR : Hid (res = typedL its (d + 1)) := Lib.hid (by rw [HV.out, q1, q2]; simp)
        clear q1 q2
        (try clear hi0); (try clear hm0); (try clear hi1)
        go_enter Tryz.func42, Tryz.ntmps42
        go_upto_region 1 with (fail)
        generalize w.alloc (.cells ⟨[.int .i64 6, .slice NA ns.length nc, .slice A its.length c]⟩ 36) = W at *
        have d0 : W.cell? ⟨w.heap.size, 0, none⟩ = some (.int .i64 6) := by have := HRG.out 0 _ rfl; simpa using this
        have d1 : W.cell? ⟨w.heap.size, 1, none⟩ = some (.slice NA ns.length nc) := by have := HRG.out 1 _ rfl; simpa using this
        have d2 : W.cell? ⟨w.heap.size, 2, none⟩ = some (.slice A its.length c) := by have := HRG.out 2 _ rfl; simpa using this
        have D5 := Lib.hid d2
        go_wp2_with (go_at_call 62; refine (HNS.out _ HW.out).mono ?_; rintro e z2 ⟨rfl, hbz⟩; have HB4 := Lib.hid hbz; clear hbz)
        clear d2
        go_loopg [5] its.length (fun q x u => ∃ j : Nat, j + q = its.length ∧ x = .int .i64 j ∧ Below W.heap.size W u ∧ typedL (its.drop j) (d + 1) = res)
        case atStart => exact ⟨0, by omega, rfl, HB4.out, HR.out.symm⟩
        case round =>
          obtain ⟨j, hj, rfl, hb, hres⟩ := hrel
          have HR2 := Lib.hid hres
          have HBK := Lib.hid hb
          have d5' := (hb.cell (p := ⟨w.heap.size, 2, none⟩) HSZ.out).trans D5.out
          clear hres hb
          cases gk with
          | zero =>
            obtain rfl : j = its.length := by omega
            have hge : ¬ ((its.length : Int) < (its.length : Int)) := by omega
            have HVE := Lib.hid (HR2.out.symm.trans typedL_end)
            go_wp2
            go_ret
            exact ⟨ret_bool HVE.out.symm, HW.out.trans (HBK.out.mono HW.out.size)⟩
          | succ q =>
            have hlt : (j : Int) < (its.length : Int) := by omega
            obtain ⟨x, hx⟩ : ∃ x, its[j]? = some x := ⟨_, List.getElem?_eq_getElem (by omega)⟩
            obtain ⟨b, o', rfl, hbl, hc⟩ := HA.out (by omega)
            obtain ⟨ks, hks, hvx⟩ := hc j x hx
            have HVS := Lib.hid (HR2.out.symm.trans (typedL_step hx))
            have HBT := Lib.hid (HW.out.trans (HBK.out.mono HW.out.size))
            have HKS := Lib.hid (rangeAt_below hks HBT.out hbl)
            have HKL := Lib.hid (typ_one hvx)
            have HC := Lib.hid (IH.out x (List.mem_of_getElem? hx) (far - 1) (d + 1) ks wr (by omega) (hvx.next HBT.out))
            have hd1 : ((far - 1 : Nat) : Int) = (far : Int) - 1 := by omega
            rw [hd1] at HC
            clear hc hks hvx hx hd1
            generalize typedT x (d + 1) = rx at *
            cases rx with
            | true =>
              have HV2 := Lib.hid (HVS.out.trans (Bool.true_and _))
              clear HVS
              go_wp2_with (first | ((with_reducible refine wl_sload 36 _ rfl ?hwa b (o' + j * 3) ks _ rfl HKS.out Tryz.underlying36 rfl ?hia ?_); (case hwa => (first | exact wanted_none rfl | exact wanted_if rfl rfl rfl rfl)); (case hia => rw [HKL.out.1]; kernel_rfl)) | (go_at_call 42; refine HC.out.mono ?_; rintro e z ⟨rfl, hbz⟩; have HB3 := Lib.hid hbz; clear hbz))
              go_roundg q
              case measure => omega
              case rel => exact ⟨j + 1, by omega, by go_num, HBK.out.trans (HB3.out.mono HBK.out.size), HV2.out.symm⟩
            | false =>
              have HV2 : Hid (res = false) := Lib.hid (HVS.out.trans (Bool.false_and _))
              clear HVS
              go_wp2_with (first | ((with_reducible refine wl_sload 36 _ rfl ?hwa b (o' + j * 3) ks _ rfl HKS.out Tryz.underlying36 rfl ?hia ?_); (case hwa => (first | exact wanted_none rfl | exact wanted_if rfl rfl rfl rfl)); (case hia => rw [HKL.out.1]; kernel_rfl)) | (go_at_call 42; refine HC.out.mono ?_; rintro e z ⟨rfl, hbz⟩; have HB3 := Lib.hid hbz; clear hbz))
              go_ret
              exact ⟨ret_bool HV2.out.symm, HBT.out.trans (HB3.out.mono HBT.out.size)⟩
      | false =>
        rw [hnm] at HNS
        have HR : Hid (res = false) := Lib.hid (by
          rw [HV.out]
          cases h1 : riseB none ns with
          | false => simp
          | true => rw [h1, Bool.true_and] at hnm; rw [hnm]; simp)
        (try clear hi0); (try clear hm0); (try clear hi1)
        go_enter Tryz.func42, Tryz.ntmps42
        go_upto_region 1 with (fail)
        generalize w.alloc (.cells ⟨[.int .i64 6, .slice NA ns.length nc, .slice A its.length c]⟩ 36) = W at *
        have d0 : W.cell? ⟨w.heap.size, 0, none⟩ = some (.int .i64 6) := by have := HRG.out 0 _ rfl; simpa using this
        have d1 : W.cell? ⟨w.heap.size, 1, none⟩ = some (.slice NA ns.length nc) := by have := HRG.out 1 _ rfl; simpa using this
        have d2 : W.cell? ⟨w.heap.size, 2, none⟩ = some (.slice A its.length c) := by have := HRG.out 2 _ rfl; simpa using this
        go_wp2_with (go_at_call 62; refine (HNS.out _ HW.out).mono ?_; rintro e z2 ⟨rfl, hbz⟩; have HB4 := Lib.hid hbz; clear hbz)
        go_ret
        exact ⟨ret_bool HR.out.symm, HW.out.trans (HB4.out.mono HW.out.size)⟩
    have HO3 := Lib.hid (HO2.out.trans (if_neg k6))
    clear HO2
    by_cases k1 : k = 1
    · subst k1
      have HV := Lib.hid (HO3.out.trans (if_pos (by decide)))
      clear HO3
      by_cases hi0 : its.length = 0
      · have i1 : ((its.length : Int) == 0) = true := by rw [hi0]; rfl
        have i1' : (its.length == 0) = true := by rw [hi0]; rfl
        by_cases hm0 : ns.length = 0
        · have m1 : ((ns.length : Int) == 0) = true := by rw [hm0]; rfl
          have m1' : (ns.length == 0) = true := by rw [hm0]; rfl
          have m2 : ((ns.length : Int) != 0) = false := by rw [hm0]; rfl
          have HR : Hid (res = true) := Lib.hid (by rw [HV.out]; simp [m1', i1'])
          (try clear hi0); (try clear hm0); (try clear hi1)
          go_enter Tryz.func42, Tryz.ntmps42
          go_upto_region 1 with (fail)
          generalize w.alloc (.cells ⟨[.int .i64 1, .slice NA ns.length nc, .slice A its.length c]⟩ 36) = W at *
          have d0 : W.cell? ⟨w.heap.size, 0, none⟩ = some (.int .i64 1) := by have := HRG.out 0 _ rfl; simpa using this
          have d1 : W.cell? ⟨w.heap.size, 1, none⟩ = some (.slice NA ns.length nc) := by have := HRG.out 1 _ rfl; simpa using this
          have d2 : W.cell? ⟨w.heap.size, 2, none⟩ = some (.slice A its.length c) := by have := HRG.out 2 _ rfl; simpa using this
          go_wp2
          go_ret
          exact ⟨ret_bool HR.out.symm, HW.out⟩
        · have m1 : ((ns.length : Int) == 0) = false := by rw [beq_eq_false_iff_ne]; omega
          have m1' : (ns.length == 0) = false := by simpa using hm0
          have m2 : ((ns.length : Int) != 0) = true := by rw [bne_iff_ne]; omega
          have HR : Hid (res = false) := Lib.hid (by rw [HV.out]; simp [m1', i1'])
          (try clear hi0); (try clear hm0); (try clear hi1)
          go_enter Tryz.func42, Tryz.ntmps42
          go_upto_region 1 with (fail)
          generalize w.alloc (.cells ⟨[.int .i64 1, .slice NA ns.length nc, .slice A its.length c]⟩ 36) = W at *
          have d0 : W.cell? ⟨w.heap.size, 0, none⟩ = some (.int .i64 1) := by have := HRG.out 0 _ rfl; simpa using this
          have d1 : W.cell? ⟨w.heap.size, 1, none⟩ = some (.slice NA ns.length nc) := by have := HRG.out 1 _ rfl; simpa using this
          have d2 : W.cell? ⟨w.heap.size, 2, none⟩ = some (.slice A its.length c) := by have := HRG.out 2 _ rfl; simpa using this
          go_wp2
          go_ret
          exact ⟨ret_bool HR.out.symm, HW.out⟩
      · have i1 : ((its.length : Int) == 0) = false := by rw [beq_eq_false_iff_ne]; omega
        have i1' : (its.length == 0) = false := by simpa using hi0
        have HR : Hid (res = false) := Lib.hid (by rw [HV.out]; simp [i1'])
        (try clear hi0); (try clear hm0); (try clear hi1)
        go_enter Tryz.func42, Tryz.ntmps42
        go_upto_region 1 with (fail)
        generalize w.alloc (.cells ⟨[.int .i64 1, .slice NA ns.length nc, .slice A its.length c]⟩ 36) = W at *
        have d0 : W.cell? ⟨w.heap.size, 0, none⟩ = some (.int .i64 1) := by have := HRG.out 0 _ rfl; simpa using this
        have d1 : W.cell? ⟨w.heap.size, 1, none⟩ = some (.slice NA ns.length nc) := by have := HRG.out 1 _ rfl; simpa using this
        have d2 : W.cell? ⟨w.heap.size, 2, none⟩ = some (.slice A its.length c) := by have := HRG.out 2 _ rfl; simpa using this
        go_wp2
        go_ret
        exact ⟨ret_bool HR.out.symm, HW.out⟩
    by_cases k2 : k = 2
    · subst k2
      have HV := Lib.hid (HO3.out.trans (if_pos (by decide)))
      clear HO3
      by_cases hi0 : its.length = 0
      · have i1 : ((its.length : Int) == 0) = true := by rw [hi0]; rfl
        have i1' : (its.length == 0) = true := by rw [hi0]; rfl
        by_cases hm0 : ns.length = 0
        · have m1 : ((ns.length : Int) == 0) = true := by rw [hm0]; rfl
          have m1' : (ns.length == 0) = true := by rw [hm0]; rfl
          have m2 : ((ns.length : Int) != 0) = false := by rw [hm0]; rfl
          have HR : Hid (res = true) := Lib.hid (by rw [HV.out]; simp [m1', i1'])
          (try clear hi0); (try clear hm0); (try clear hi1)
          go_enter Tryz.func42, Tryz.ntmps42
          go_upto_region 1 with (fail)
          generalize w.alloc (.cells ⟨[.int .i64 2, .slice NA ns.length nc, .slice A its.length c]⟩ 36) = W at *
          have d0 : W.cell? ⟨w.heap.size, 0, none⟩ = some (.int .i64 2) := by have := HRG.out 0 _ rfl; simpa using this
          have d1 : W.cell? ⟨w.heap.size, 1, none⟩ = some (.slice NA ns.length nc) := by have := HRG.out 1 _ rfl; simpa using this
          have d2 : W.cell? ⟨w.heap.size, 2, none⟩ = some (.slice A its.length c) := by have := HRG.out 2 _ rfl; simpa using this
          go_wp2
          go_ret
          exact ⟨ret_bool HR.out.symm, HW.out⟩
        · have m1 : ((ns.length : Int) == 0) = false := by rw [beq_eq_false_iff_ne]; omega
          have m1' : (ns.length == 0) = false := by simpa using hm0
          have m2 : ((ns.length : Int) != 0) = true := by rw [bne_iff_ne]; omega
          have HR : Hid (res = false) := Lib.hid (by rw [HV.out]; simp [m1', i1'])
          (try clear hi0); (try clear hm0); (try clear hi1)
          go_enter Tryz.func42, Tryz.ntmps42
          go_upto_region 1 with (fail)
          generalize w.alloc (.cells ⟨[.int .i64 2, .slice NA ns.length nc, .slice A its.length c]⟩ 36) = W at *
          have d0 : W.cell? ⟨w.heap.size, 0, none⟩ = some (.int .i64 2) := by have := HRG.out 0 _ rfl; simpa using this
          have d1 : W.cell? ⟨w.heap.size, 1, none⟩ = some (.slice NA ns.length nc) := by have := HRG.out 1 _ rfl; simpa using this
          have d2 : W.cell? ⟨w.heap.size, 2, none⟩ = some (.slice A its.length c) := by have := HRG.out 2 _ rfl; simpa using this
          go_wp2
          go_ret
          exact ⟨ret_bool HR.out.symm, HW.out⟩
      · have i1 : ((its.length : Int) == 0) = false := by rw [beq_eq_false_iff_ne]; omega
        have i1' : (its.length == 0) = false := by simpa using hi0
        have HR : Hid (res = false) := Lib.hid (by rw [HV.out]; simp [i1'])
        (try clear hi0); (try clear hm0); (try clear hi1)
        go_enter Tryz.func42, Tryz.ntmps42
        go_upto_region 1 with (fail)
        generalize w.alloc (.cells ⟨[.int .i64 2, .slice NA ns.length nc, .slice A its.length c]⟩ 36) = W at *
        have d0 : W.cell? ⟨w.heap.size, 0, none⟩ = some (.int .i64 2) := by have := HRG.out 0 _ rfl; simpa using this
        have d1 : W.cell? ⟨w.heap.size, 1, none⟩ = some (.slice NA ns.length nc) := by have := HRG.out 1 _ rfl; simpa using this
        have d2 : W.cell? ⟨w.heap.size, 2, none⟩ = some (.slice A its.length c) := by have := HRG.out 2 _ rfl; simpa using this
        go_wp2
        go_ret
        exact ⟨ret_bool HR.out.symm, HW.out⟩
    by_cases k3 : k = 3
    · subst k3
      have HV := Lib.hid (HO3.out.trans (if_pos (by decide)))
      clear HO3
      by_cases hi0 : its.length = 0
      · have i1 : ((its.length : Int) == 0) = true := by rw [hi0]; rfl
        have i1' : (its.length == 0) = true := by rw [hi0]; rfl
        by_cases hm0 : ns.length = 0
        · have m1 : ((ns.length : Int) == 0) = true := by rw [hm0]; rfl
          have m1' : (ns.length == 0) = true := by rw [hm0]; rfl
          have m2 : ((ns.length : Int) != 0) = false := by rw [hm0]; rfl
          have HR : Hid (res = true) := Lib.hid (by rw [HV.out]; simp [m1', i1'])
          (try clear hi0); (try clear hm0); (try clear hi1)
          go_enter Tryz.func42, Tryz.ntmps42
          go_upto_region 1 with (fail)
          generalize w.alloc (.cells ⟨[.int .i64 3, .slice NA ns.length nc, .slice A its.length c]⟩ 36) = W at *
          have d0 : W.cell? ⟨w.heap.size, 0, none⟩ = some (.int .i64 3) := by have := HRG.out 0 _ rfl; simpa using this
          have d1 : W.cell? ⟨w.heap.size, 1, none⟩ = some (.slice NA ns.length nc) := by have := HRG.out 1 _ rfl; simpa using this
          have d2 : W.cell? ⟨w.heap.size, 2, none⟩ = some (.slice A its.length c) := by have := HRG.out 2 _ rfl; simpa using this
          go_wp2
          go_ret
          exact ⟨ret_bool HR.out.symm, HW.out⟩
        · have m1 : ((ns.length : Int) == 0) = false := by rw [beq_eq_false_iff_ne]; omega
          have m1' : (ns.length == 0) = false := by simpa using hm0
          have m2 : ((ns.length : Int) != 0) = true := by rw [bne_iff_ne]; omega
          have HR : Hid (res = false) := Lib.hid (by rw [HV.out]; simp [m1', i1'])
          (try clear hi0); (try clear hm0); (try clear hi1)
          go_enter Tryz.func42, Tryz.ntmps42
          go_upto_region 1 with (fail)
          generalize w.alloc (.cells ⟨[.int .i64 3, .slice NA ns.length nc, .slice A its.length c]⟩ 36) = W at *
          have d0 : W.cell? ⟨w.heap.size, 0, none⟩ = some (.int .i64 3) := by have := HRG.out 0 _ rfl; simpa using this
          have d1 : W.cell? ⟨w.heap.size, 1, none⟩ = some (.slice NA ns.length nc) := by have := HRG.out 1 _ rfl; simpa using this
          have d2 : W.cell? ⟨w.heap.size, 2, none⟩ = some (.slice A its.length c) := by have := HRG.out 2 _ rfl; simpa using this
          go_wp2
          go_ret
          exact ⟨ret_bool HR.out.symm, HW.out⟩
      · have i1 : ((its.length : Int) == 0) = false := by rw [beq_eq_false_iff_ne]; omega
        have i1' : (its.length == 0) = false := by simpa using hi0
        have HR : Hid (res = false) := Lib.hid (by rw [HV.out]; simp [i1'])
        (try clear hi0); (try clear hm0); (try clear hi1)
        go_enter Tryz.func42, Tryz.ntmps42
        go_upto_region 1 with (fail)
        generalize w.alloc (.cells ⟨[.int .i64 3, .slice NA ns.length nc, .slice A its.length c]⟩ 36) = W at *
        have d0 : W.cell? ⟨w.heap.size, 0, none⟩ = some (.int .i64 3) := by have := HRG.out 0 _ rfl; simpa using this
        have d1 : W.cell? ⟨w.heap.size, 1, none⟩ = some (.slice NA ns.length nc) := by have := HRG.out 1 _ rfl; simpa using this
        have d2 : W.cell? ⟨w.heap.size, 2, none⟩ = some (.slice A its.length c) := by have := HRG.out 2 _ rfl; simpa using this
        go_wp2
        go_ret
        exact ⟨ret_bool HR.out.symm, HW.out⟩
    by_cases k4 : k = 4
    · subst k4
      have HV := Lib.hid (HO3.out.trans (if_pos (by decide)))
      clear HO3
      by_cases hi0 : its.length = 0
      · have i1 : ((its.length : Int) == 0) = true := by rw [hi0]; rfl
        have i1' : (its.length == 0) = true := by rw [hi0]; rfl
        by_cases hm0 : ns.length = 0
        · have m1 : ((ns.length : Int) == 0) = true := by rw [hm0]; rfl
          have m1' : (ns.length == 0) = true := by rw [hm0]; rfl
          have m2 : ((ns.length : Int) != 0) = false := by rw [hm0]; rfl
          have HR : Hid (res = true) := Lib.hid (by rw [HV.out]; simp [m1', i1'])
          (try clear hi0); (try clear hm0); (try clear hi1)
          go_enter Tryz.func42, Tryz.ntmps42
          go_upto_region 1 with (fail)
          generalize w.alloc (.cells ⟨[.int .i64 4, .slice NA ns.length nc, .slice A its.length c]⟩ 36) = W at *
          have d0 : W.cell? ⟨w.heap.size, 0, none⟩ = some (.int .i64 4) := by have := HRG.out 0 _ rfl; simpa using this
          have d1 : W.cell? ⟨w.heap.size, 1, none⟩ = some (.slice NA ns.length nc) := by have := HRG.out 1 _ rfl; simpa using this
          have d2 : W.cell? ⟨w.heap.size, 2, none⟩ = some (.slice A its.length c) := by have := HRG.out 2 _ rfl; simpa using this
          go_wp2
          go_ret
          exact ⟨ret_bool HR.out.symm, HW.out⟩
        · have m1 : ((ns.length : Int) == 0) = false := by rw [beq_eq_false_iff_ne]; omega
          have m1' : (ns.length == 0) = false := by simpa using hm0
          have m2 : ((ns.length : Int) != 0) = true := by rw [bne_iff_ne]; omega
          have HR : Hid (res = false) := Lib.hid (by rw [HV.out]; simp [m1', i1'])
          (try clear hi0); (try clear hm0); (try clear hi1)
          go_enter Tryz.func42, Tryz.ntmps42
          go_upto_region 1 with (fail)
          generalize w.alloc (.cells ⟨[.int .i64 4, .slice NA ns.length nc, .slice A its.length c]⟩ 36) = W at *
          have d0 : W.cell? ⟨w.heap.size, 0, none⟩ = some (.int .i64 4) := by have := HRG.out 0 _ rfl; simpa using this
          have d1 : W.cell? ⟨w.heap.size, 1, none⟩ = some (.slice NA ns.length nc) := by have := HRG.out 1 _ rfl; simpa using this
          have d2 : W.cell? ⟨w.heap.size, 2, none⟩ = some (.slice A its.length c) := by have := HRG.out 2 _ rfl; simpa using this
          go_wp2
          go_ret
          exact ⟨ret_bool HR.out.symm, HW.out⟩
      · have i1 : ((its.length : Int) == 0) = false := by rw [beq_eq_false_iff_ne]; omega
        have i1' : (its.length == 0) = false := by simpa using hi0
        have HR : Hid (res = false) := Lib.hid (by rw [HV.out]; simp [i1'])
        (try clear hi0); (try clear hm0); (try clear hi1)
        go_enter Tryz.func42, Tryz.ntmps42
        go_upto_region 1 with (fail)
        generalize w.alloc (.cells ⟨[.int .i64 4, .slice NA ns.length nc, .slice A its.length c]⟩ 36) = W at *
        have d0 : W.cell? ⟨w.heap.size, 0, none⟩ = some (.int .i64 4) := by have := HRG.out 0 _ rfl; simpa using this
        have d1 : W.cell? ⟨w.heap.size, 1, none⟩ = some (.slice NA ns.length nc) := by have := HRG.out 1 _ rfl; simpa using this
        have d2 : W.cell? ⟨w.heap.size, 2, none⟩ = some (.slice A its.length c) := by have := HRG.out 2 _ rfl; simpa using this
        go_wp2
        go_ret
        exact ⟨ret_bool HR.out.symm, HW.out⟩
    by_cases k7 : k = 7
    · subst k7
      have HV := Lib.hid (HO3.out.trans (if_pos (by decide)))
      clear HO3
      by_cases hi0 : its.length = 0
      · have i1 : ((its.length : Int) == 0) = true := by rw [hi0]; rfl
        have i1' : (its.length == 0) = true := by rw [hi0]; rfl
        by_cases hm0 : ns.length = 0
        · have m1 : ((ns.length : Int) == 0) = true := by rw [hm0]; rfl
          have m1' : (ns.length == 0) = true := by rw [hm0]; rfl
          have m2 : ((ns.length : Int) != 0) = false := by rw [hm0]; rfl
          have HR : Hid (res = true) := Lib.hid (by rw [HV.out]; simp [m1', i1'])
          (try clear hi0); (try clear hm0); (try clear hi1)
          go_enter Tryz.func42, Tryz.ntmps42
          go_upto_region 1 with (fail)
          generalize w.alloc (.cells ⟨[.int .i64 7, .slice NA ns.length nc, .slice A its.length c]⟩ 36) = W at *
          have d0 : W.cell? ⟨w.heap.size, 0, none⟩ = some (.int .i64 7) := by have := HRG.out 0 _ rfl; simpa using this
          have d1 : W.cell? ⟨w.heap.size, 1, none⟩ = some (.slice NA ns.length nc) := by have := HRG.out 1 _ rfl; simpa using this
          have d2 : W.cell? ⟨w.heap.size, 2, none⟩ = some (.slice A its.length c) := by have := HRG.out 2 _ rfl; simpa using this
          go_wp2
          go_ret
          exact ⟨ret_bool HR.out.symm, HW.out⟩
        · have m1 : ((ns.length : Int) == 0) = false := by rw [beq_eq_false_iff_ne]; omega
          have m1' : (ns.length == 0) = false := by simpa using hm0
          have m2 : ((ns.length : Int) != 0) = true := by rw [bne_iff_ne]; omega
          have HR : Hid (res = false) := Lib.hid (by rw [HV.out]; simp [m1', i1'])
          (try clear hi0); (try clear hm0); (try clear hi1)
          go_enter Tryz.func42, Tryz.ntmps42
          go_upto_region 1 with (fail)
          generalize w.alloc (.cells ⟨[.int .i64 7, .slice NA ns.length nc, .slice A its.length c]⟩ 36) = W at *
          have d0 : W.cell? ⟨w.heap.size, 0, none⟩ = some (.int .i64 7) := by have := HRG.out 0 _ rfl; simpa using this
          have d1 : W.cell? ⟨w.heap.size, 1, none⟩ = some (.slice NA ns.length nc) := by have := HRG.out 1 _ rfl; simpa using this
          have d2 : W.cell? ⟨w.heap.size, 2, none⟩ = some (.slice A its.length c) := by have := HRG.out 2 _ rfl; simpa using this
          go_wp2
          go_ret
          exact ⟨ret_bool HR.out.symm, HW.out⟩
      · have i1 : ((its.length : Int) == 0) = false := by rw [beq_eq_false_iff_ne]; omega
        have i1' : (its.length == 0) = false := by simpa using hi0
        have HR : Hid (res = false) := Lib.hid (by rw [HV.out]; simp [i1'])
        (try clear hi0); (try clear hm0); (try clear hi1)
        go_enter Tryz.func42, Tryz.ntmps42
        go_upto_region 1 with (fail)
        generalize w.alloc (.cells ⟨[.int .i64 7, .slice NA ns.length nc, .slice A its.length c]⟩ 36) = W at *
        have d0 : W.cell? ⟨w.heap.size, 0, none⟩ = some (.int .i64 7) := by have := HRG.out 0 _ rfl; simpa using this
        have d1 : W.cell? ⟨w.heap.size, 1, none⟩ = some (.slice NA ns.length nc) := by have := HRG.out 1 _ rfl; simpa using this
        have d2 : W.cell? ⟨w.heap.size, 2, none⟩ = some (.slice A its.length c) := by have := HRG.out 2 _ rfl; simpa using this
        go_wp2
        go_ret
        exact ⟨ret_bool HR.out.symm, HW.out⟩
    have HR := Lib.hid (HO3.out.trans (if_neg (by omega)))
    clear HO3
    by_cases k0 : k < 1
    · have c1 : decide (k < 1) = true := decide_eq_true k0
      clear k1 k2 k3 k4 k5 k6 k7 k0
      (try clear hi0); (try clear hm0); (try clear hi1)
      go_enter Tryz.func42, Tryz.ntmps42
      go_upto_region 1 with (fail)
      generalize w.alloc (.cells ⟨[.int .i64 k, .slice NA ns.length nc, .slice A its.length c]⟩ 36) = W at *
      have d0 : W.cell? ⟨w.heap.size, 0, none⟩ = some (.int .i64 k) := by have := HRG.out 0 _ rfl; simpa using this
      have d1 : W.cell? ⟨w.heap.size, 1, none⟩ = some (.slice NA ns.length nc) := by have := HRG.out 1 _ rfl; simpa using this
      have d2 : W.cell? ⟨w.heap.size, 2, none⟩ = some (.slice A its.length c) := by have := HRG.out 2 _ rfl; simpa using this
      go_wp2
      go_ret
      exact ⟨ret_bool HR.out.symm, HW.out⟩
    · have c1 : decide (k < 1) = false := decide_eq_false k0
      have c2 : decide (7 < k) = true := decide_eq_true (by omega)
      clear k1 k2 k3 k4 k5 k6 k7 k0
      (try clear hi0); (try clear hm0); (try clear hi1)
      go_enter Tryz.func42, Tryz.ntmps42
      go_upto_region 1 with (fail)
      generalize w.alloc (.cells ⟨[.int .i64 k, .slice NA ns.length nc, .slice A its.length c]⟩ 36) = W at *
      have d0 : W.cell? ⟨w.heap.size, 0, none⟩ = some (.int .i64 k) := by have := HRG.out 0 _ rfl; simpa using this
      have d1 : W.cell? ⟨w.heap.size, 1, none⟩ = some (.slice NA ns.length nc) := by have := HRG.out 1 _ rfl; simpa using this
      have d2 : W.cell? ⟨w.heap.size, 2, none⟩ = some (.slice A its.length c) := by have := HRG.out 2 _ rfl; simpa using this
      go_wp2
      go_ret
      exact ⟨ret_bool HR.out.symm, HW.out⟩
set_option maxHeartbeats 1000000 in
theorem rtypeRight_any (t : TT) (cs : List Value) (w : World) (hv : TypAt w w.heap.size cs t) : Calls Tryz.prog 15 #[.agg ⟨cs⟩] w fun e w' => e = .returned (.bool (decide (cntT t 0 ≤ 200) && typedT t 1)) ∧ Below w.heap.size w w' := by
  have HB1 := Lib.hid (box_below w (.cells ⟨cs⟩ 36))
  have HS1 := Lib.hid (box_size w (.cells ⟨cs⟩ 36))
  have HR1 := Lib.hid (range_box w cs 36)
  have HL := Lib.hid (typ_one hv)
  have HV := Lib.hid (hv.next HB1.out)
  clear hv
  go_enter Tryz.func15, Tryz.ntmps15
  go_upto_region 1 with (fail)
  generalize w.alloc (.cells ⟨cs⟩ 36) = W at *
  have HP := Lib.hid (tparts_any t cs W HV.out)
  by_cases hc : cntT t 0 ≤ 200
  · have t1 : ((cntT t 0 : Nat) : Int) ≤ 200 := by omega
    have HD : Hid ((decide (cntT t 0 ≤ 200) && typedT t 1) = typedT t 1) := Lib.hid (by rw [decide_eq_true hc]; exact Bool.true_and _)
    go_wp2_with (first | ((with_reducible refine wl_sload 36 _ rfl ?hwa w.heap.size 0 cs _ rfl HR1.out Tryz.underlying36 rfl ?hia ?_); (case hwa => (first | exact wanted_none rfl | exact wanted_if rfl rfl rfl rfl)); (case hia => rw [HL.out.1]; kernel_rfl)) | (go_at_call 39; refine HP.out.mono ?_; rintro e z ⟨rfl, hbz⟩; have HB2 := Lib.hid hbz; have HR2 := Lib.hid (rangeAt_below HR1.out hbz HS1.out); clear hbz) | ((with_reducible refine wl_sload 36 _ rfl ?hwc w.heap.size 0 cs _ rfl HR2.out Tryz.underlying36 rfl ?hic ?_); (case hwc => (first | exact wanted_none rfl | exact wanted_if rfl rfl rfl rfl)); (case hic => rw [HL.out.1]; kernel_rfl)) | (go_at_call 42; refine (tright_any t 12 1 cs _ (by decide) (HV.out.next HB2.out)).mono ?_; rintro e z2 ⟨rfl, hbz⟩; have HB3 := Lib.hid hbz; clear hbz))
    go_ret
    exact ⟨ret_bool HD.out.symm, HB1.out.trans ((HB2.out.trans (HB3.out.mono HB2.out.size)).mono HB1.out.size)⟩
  · have t1 : ¬ (((cntT t 0 : Nat) : Int) ≤ 200) := by omega
    have HD : Hid ((decide (cntT t 0 ≤ 200) && typedT t 1) = false) := Lib.hid (by rw [decide_eq_false hc]; exact Bool.false_and _)
    go_wp2_with (first | ((with_reducible refine wl_sload 36 _ rfl ?hwa w.heap.size 0 cs _ rfl HR1.out Tryz.underlying36 rfl ?hia ?_); (case hwa => (first | exact wanted_none rfl | exact wanted_if rfl rfl rfl rfl)); (case hia => rw [HL.out.1]; kernel_rfl)) | (go_at_call 39; refine HP.out.mono ?_; rintro e z ⟨rfl, hbz⟩; have HB2 := Lib.hid hbz; clear hbz))
    go_ret
    first | exact ⟨ret_bool HD.out.symm, HB1.out.trans (HB2.out.mono HB1.out.size)⟩ | exact ⟨rfl, HB1.out.trans (HB2.out.mono HB1.out.size)⟩
end Go.Proofs.YtieciegfloldhaaGreatDoor
