/- Parts of a proof: ERight. -/
import Derived.Test.YtppmkehdhpgdcaaGreatPackP32
import Derived.Test.YtppmkehdhpgdcaaGreatPackP38
namespace Go.Proofs.YtppmkehdhpgdcaaGreat
open Go Go.RowKit
set_option linter.unusedVariables false
set_option linter.unusedSimpArgs false
def kidsB (z : Int) (n : Nat) : Bool := !(z == -2) && (decide (z < 0) || ((n : Int) == z))
def noneV : VT → Bool
  | .mk k n f s ns its => noneB k n f s ns.length its.length
def valB (k : Int) (v : VT) : Bool := if k = 1 then constV v else noneV v
mutual
def rightE : ET → Nat → Bool
  | .mk k s v ns its, d => decide (d ≤ 12) && (kidsB (wantsZ k) its.length && (namedE k s ns its.length && (valB k v && rightEL its (d + 1))))
def rightEL : List ET → Nat → Bool
  | [], _ => true
  | a :: l, d => rightE a d && rightEL l d
end
theorem rightEL_step {l : List ET} {j d : Nat} {x : ET} (h : l[j]? = some x) : rightEL (l.drop j) d = (rightE x d && rightEL (l.drop (j + 1)) d) := by
  rw [edrop_at h, rightEL]
theorem rightEL_end {l : List ET} {d : Nat} : rightEL (l.drop l.length) d = true := by
  rw [List.drop_eq_nil_of_le (Nat.le_refl _), rightEL]
theorem wants_range (k : Int) : -2 ≤ wantsZ k ∧ wantsZ k ≤ 3 := by
  unfold wantsZ
  (repeat' split) <;> omega
theorem erange_sub {w : World} {p o i : Nat} {cs ds : List Value} (h : w.rangeAt p o cs) (hd : ∀ j v, ds[j]? = some v → cs[i + j]? = some v) : w.rangeAt p (o + i) ds := fun j v hv => by
  have := h (i + j) v (hd j v hv)
  rw [show o + i + j = o + (i + j) by omega]; exact this
theorem range_below2 {w w' : World} {p o : Nat} {cs : List Value} (h : w.rangeAt p o cs) (hb : Below w.heap.size w w') (hp : p < w.heap.size) : w'.rangeAt p o cs := rangeAt_below h hb hp
set_option maxHeartbeats 4000000 in
set_option maxRecDepth 100000 in
theorem right_anyE : ∀ (t : ET) (d : Nat) (cs : List Value) (p o : Nat) (w : World), d ≤ 13 → w.rangeAt p o cs → ExpAt w w.heap.size cs t →
    Calls Tryz.prog 63 #[.pointer (some ⟨p, o, none⟩), .int .i64 d] w fun e w' => e = .returned (.bool (rightE t d)) ∧ Below w.heap.size w w' := by
  intro t
  induction t using ET.ind with
  | h k s v ns its ih =>
    intro d cs p o w hd13 hr hv
    have IH := Lib.hid ih
    obtain ⟨v0, v1, v2, v3, v4, v5, vn0, vi0, rfl, _, _, hvv, hns, hil, hi⟩ := hv.inv
    obtain ⟨_, A, c, rfl, hA⟩ := hi
    obtain ⟨_, NA, nc, rfl, _⟩ := id hns
    cases v with
    | mk vk vn vf vs vns vits =>
    obtain ⟨u0, u1, hcv, _, _, hvf, _, hvns, _, hvi⟩ := hvv.inv
    obtain ⟨_, VA, vc, rfl, _⟩ := hvns
    obtain ⟨_, VD, vd, rfl, _⟩ := hvi
    simp only [List.cons.injEq, and_true] at hcv
    obtain ⟨rfl, rfl, rfl, rfl, rfl, rfl⟩ := hcv
    have hvf' := wf64 hvf
    have HA := Lib.hid hA
    have d0 : w.cell? ⟨p, o, none⟩ = some (.int .i64 k) := hr 0 _ rfl
    have d9 : w.cell? ⟨p, o + 9, none⟩ = some (.slice A its.length c) := hr 9 _ rfl
    have HPL : Hid (p < w.heap.size) := Lib.hid (cell_lt d0)
    have D0 := Lib.hid d0
    have D9 := Lib.hid d9
    have HRV : Hid (w.rangeAt p (o + 2) [.int .i64 vk, .int .i64 vn, .float .f64 vf, .string vs, .slice VA vns.length vc, .slice VD vits.length vd]) := Lib.hid (erange_sub hr (fun j x h => match j, h with | 0, h => h | 1, h => h | 2, h => h | 3, h => h | 4, h => h | 5, h => h | j + 6, h => by simp at h))
    have HNM := Lib.hid (named_any k p o s (.int .i64 vk) (.int .i64 vn) (.float .f64 vf) (.string vs) (.slice VA vns.length vc) (.slice VD vits.length vd) NA A nc its.length c ns w hr hns)
    have HKD := Lib.hid (fun w => kids_any k w)
    have HVV := Lib.hid hvv
    have HVF := Lib.hid hvf'
    have HRE : Hid (rightE (.mk k s (.mk vk vn vf vs vns vits) ns its) d = (decide (d ≤ 12) && (kidsB (wantsZ k) its.length && (namedE k s ns its.length && (valB k (.mk vk vn vf vs vns vits) && rightEL its (d + 1)))))) := Lib.hid (by rw [rightE])
    have HWR := wants_range k
    obtain ⟨zz, hz⟩ : ∃ z, wantsZ k = z := ⟨_, rfl⟩
    rw [hz] at HKD HRE HWR
    unfold maxLen at hil
    clear hr hv ih hA hns hvf hvf' hvv hz
    generalize rightE (.mk k s (.mk vk vn vf vs vns vits) ns its) d = res at *
    by_cases hd : d ≤ 12
    · have hd' : ¬ ((d : Int) > 12) := by omega
      have HD := Lib.hid hd
      by_cases hz2 : zz = -2
      · have e2 : (zz == -2) = true := by simpa using hz2
        have HR : Hid (res = false) := Lib.hid (by rw [HRE.out, (by unfold kidsB; rw [e2]; rfl : kidsB zz its.length = false)]; simp)
        go_enter Tryz.func63, Tryz.ntmps63
        go_wp2_with (go_at_call 84; refine (HKD.out _).mono ?_; rintro e z ⟨rfl, hzw⟩; rw [hzw]; clear hzw z)
        go_ret
        exact ⟨ret_bool HR.out.symm, Below.refl _ _⟩
      have e2 : (zz == -2) = false := by simpa using hz2
      by_cases hko : kidsB zz its.length = false
      · have hz0 : 0 ≤ zz ∧ ¬ (its.length : Int) = zz := by
          unfold kidsB at hko
          rw [e2] at hko
          simp at hko
          omega
        obtain ⟨hz0, hz1⟩ := hz0
        have HR : Hid (res = false) := Lib.hid (by rw [HRE.out, hko]; simp)
        go_enter Tryz.func63, Tryz.ntmps63
        go_wp2_with (go_at_call 84; refine (HKD.out _).mono ?_; rintro e z ⟨rfl, hzw⟩; rw [hzw]; clear hzw z)
        go_ret
        exact ⟨ret_bool HR.out.symm, Below.refl _ _⟩
      have hko2 : kidsB zz its.length = true := by simpa using hko
      have HKO := Lib.hid hko2
      have hzc : zz < 0 ∨ (its.length : Int) = zz := by
        unfold kidsB at hko2
        rw [e2] at hko2
        simp at hko2
        exact hko2
      clear hko hko2
      rw [HKO.out, decide_eq_true HD.out, Bool.true_and, Bool.true_and] at HRE
      cases hnm : namedE k s ns its.length with
      | false =>
        rw [hnm] at HNM HRE
        clear hnm
        rcases hzc with hz0 | hz1
        · have hz0' : ¬ (0 ≤ zz) := by omega
          clear hz0
          have HR : Hid (res = false) := Lib.hid (HRE.out.trans (Bool.false_and _))
          go_enter Tryz.func63, Tryz.ntmps63
          go_wp2_with (first | (go_at_call 84; refine (HKD.out _).mono ?_; rintro e z ⟨rfl, hzw⟩; rw [hzw]; clear hzw z) | (go_at_call 85; refine HNM.out.mono ?_; rintro e w1 ⟨rfl, hb⟩; have HB1 := Lib.hid hb; have x0 := (hb.cell (p := ⟨p, o, none⟩) HPL.out).trans D0.out; have x9 := (hb.cell (p := ⟨p, o + 9, none⟩) HPL.out).trans D9.out; clear hb))
          go_ret
          exact ⟨ret_bool HR.out.symm, HB1.out⟩
        · subst hz1
          have hz0' : 0 ≤ (its.length : Int) := by omega
          have HR : Hid (res = false) := Lib.hid (HRE.out.trans (Bool.false_and _))
          go_enter Tryz.func63, Tryz.ntmps63
          go_wp2_with (first | (go_at_call 84; refine (HKD.out _).mono ?_; rintro e z ⟨rfl, hzw⟩; rw [hzw]; clear hzw z) | (go_at_call 85; refine HNM.out.mono ?_; rintro e w1 ⟨rfl, hb⟩; have HB1 := Lib.hid hb; have x0 := (hb.cell (p := ⟨p, o, none⟩) HPL.out).trans D0.out; have x9 := (hb.cell (p := ⟨p, o + 9, none⟩) HPL.out).trans D9.out; clear hb))
          go_ret
          exact ⟨ret_bool HR.out.symm, HB1.out⟩
      | true =>
        rw [hnm, Bool.true_and] at HRE
        rw [hnm] at HNM
        clear hnm
        rcases hzc with hz0 | hz1
        · have hz0' : ¬ (0 ≤ zz) := by omega
          clear hz0
          go_enter Tryz.func63, Tryz.ntmps63
          go_upto_region 4 with (first | (go_at_call 84; refine (HKD.out _).mono ?_; rintro e z ⟨rfl, hzw⟩; rw [hzw]; clear hzw z) | (go_at_call 85; refine HNM.out.mono ?_; rintro e w1 ⟨rfl, hb⟩; have HB1 := Lib.hid hb; have x0 := (hb.cell (p := ⟨p, o, none⟩) HPL.out).trans D0.out; have x9 := (hb.cell (p := ⟨p, o + 9, none⟩) HPL.out).trans D9.out; clear hb))
          have X9 := Lib.hid x9
          have X0 := Lib.hid x0
          have HRV1 := Lib.hid (range_below2 HRV.out HB1.out HPL.out)
          clear x9
          by_cases hk1 : k = 1
          · subst hk1
            have HCC := Lib.hid (const_any (.mk vk vn vf vs vns vits) [.int .i64 vk, .int .i64 vn, .float .f64 vf, .string vs, .slice VA vns.length vc, .slice VD vits.length vd] w1 ((HVV.out.under HB1.out).more HB1.out.size))
            have hval : valB 1 (.mk vk vn vf vs vns vits) = constV (.mk vk vn vf vs vns vits) := by unfold valB; rw [if_pos rfl]
            rw [hval] at HRE
            cases hvb : constV (.mk vk vn vf vs vns vits) with
            | false =>
              have HR : Hid (res = false) := Lib.hid (HRE.out.trans (by rw [hvb]; exact Bool.false_and _))
              rw [hvb] at HCC
              clear hvb hval
              go_wp2_with (first | ((with_reducible refine wl_sload 27 _ rfl ?hwa p (o + 2) [.int .i64 vk, .int .i64 vn, .float .f64 vf, .string vs, .slice VA vns.length vc, .slice VD vits.length vd] _ rfl HRV1.out Tryz.underlying27 rfl ?hia ?_); (case hwa => (first | exact wanted_none rfl | exact wanted_if rfl rfl rfl rfl)); (case hia => kernel_rfl)) | (go_at_call 86; refine HCC.out.mono ?_; rintro e w2 ⟨rfl, hb⟩; have HB2 := Lib.hid hb; have y0 := (hb.cell (p := ⟨p, o, none⟩) (Nat.lt_of_lt_of_le HPL.out HB1.out.size)).trans X0.out; have y9 := (hb.cell (p := ⟨p, o + 9, none⟩) (Nat.lt_of_lt_of_le HPL.out HB1.out.size)).trans X9.out; clear hb))
              go_ret
              exact ⟨ret_bool HR.out.symm, HB1.out.trans (HB2.out.mono HB1.out.size)⟩
            | true =>
              have HRR : Hid (res = rightEL its (d + 1)) := Lib.hid (HRE.out.trans (by rw [hvb, Bool.true_and]))
              rw [hvb] at HCC
              clear hvb hval
              go_upto_region 7 with (first | ((with_reducible refine wl_sload 27 _ rfl ?hwa p (o + 2) [.int .i64 vk, .int .i64 vn, .float .f64 vf, .string vs, .slice VA vns.length vc, .slice VD vits.length vd] _ rfl HRV1.out Tryz.underlying27 rfl ?hia ?_); (case hwa => (first | exact wanted_none rfl | exact wanted_if rfl rfl rfl rfl)); (case hia => kernel_rfl)) | (go_at_call 86; refine HCC.out.mono ?_; rintro e w2 ⟨rfl, hb⟩; have HB2 := Lib.hid hb; have y0 := (hb.cell (p := ⟨p, o, none⟩) (Nat.lt_of_lt_of_le HPL.out HB1.out.size)).trans X0.out; have y9 := (hb.cell (p := ⟨p, o + 9, none⟩) (Nat.lt_of_lt_of_le HPL.out HB1.out.size)).trans X9.out; clear hb))
              clear y9
              go_loopg [68] its.length (fun q x u => ∃ j : Nat, j + q = its.length ∧ x = .int .i64 j ∧ Below w.heap.size w u ∧ rightEL (its.drop j) (d + 1) = res)
              case atStart => exact ⟨0, by omega, rfl, HB1.out.trans (HB2.out.mono HB1.out.size), HRR.out.symm⟩
              case round =>
                obtain ⟨j, hj, rfl, hbu, hres⟩ := hrel
                have HBU := Lib.hid hbu
                have HR := Lib.hid hres
                have u9 := (hbu.cell (p := ⟨p, o + 9, none⟩) HPL.out).trans D9.out
                clear hbu hres
                cases gk with
                | zero =>
                  obtain rfl : j = its.length := by omega
                  have hge : ¬ ((its.length : Int) < (its.length : Int)) := by omega
                  have HV := Lib.hid (HR.out.symm.trans rightEL_end)
                  go_wp2
                  go_ret
                  exact ⟨ret_bool HV.out.symm, HBU.out⟩
                | succ q =>
                  have hlt : (j : Int) < (its.length : Int) := by omega
                  obtain ⟨y, hy⟩ : ∃ y, its[j]? = some y := ⟨_, List.getElem?_eq_getElem (by omega)⟩
                  obtain ⟨b, ob, rfl, hbl, hc⟩ := HA.out (by omega)
                  obtain ⟨ks, hkl, hks, hvx⟩ := hc j y hy
                  have HV := Lib.hid (HR.out.symm.trans (rightEL_step hy))
                  have HC := Lib.hid (IH.out y (List.mem_of_getElem? hy) (d + 1) ks b (ob + j * 10) wr (by omega) (rangeAt_below hks HBU.out hbl) ((hvx.under HBU.out).more HBU.out.size))
                  clear hc hks hvx hy HR hkl hbl
                  cases hrc : rightE y (d + 1) with
                  | false =>
                    have HV2 : Hid (res = false) := Lib.hid (HV.out.trans (by rw [hrc]; exact Bool.false_and _))
                    rw [hrc] at HC
                    clear hrc
                    go_wp2_with (go_at_call 63; refine HC.out.mono ?_; rintro e w4 ⟨rfl, hb⟩; have HB4 := Lib.hid hb; clear hb)
                    go_ret
                    exact ⟨ret_bool HV2.out.symm, HBU.out.trans (HB4.out.mono HBU.out.size)⟩
                  | true =>
                    have HV2 := Lib.hid (HV.out.trans (by rw [hrc, Bool.true_and]))
                    rw [hrc] at HC
                    clear hrc
                    go_wp2_with (go_at_call 63; refine HC.out.mono ?_; rintro e w4 ⟨rfl, hb⟩; have HB4 := Lib.hid hb; clear hb)
                    go_roundg q
                    case measure => omega
                    case rel => exact ⟨j + 1, by omega, by go_num, HBU.out.trans (HB4.out.mono HBU.out.size), HV2.out.symm⟩
          · have hk1n : (k != 1) = true := by simpa using hk1
            have HCC := Lib.hid (nothing_any p (o + 2) vk vn vf vs VA VD vns.length vits.length vc vd w1 HVF.out HRV1.out)
            have hval : valB k (.mk vk vn vf vs vns vits) = noneB vk vn vf vs vns.length vits.length := by unfold valB; rw [if_neg hk1]; rfl
            rw [hval] at HRE
            have x9 := X9.out
            cases hvb : noneB vk vn vf vs vns.length vits.length with
            | false =>
              have HR : Hid (res = false) := Lib.hid (HRE.out.trans (by rw [hvb]; exact Bool.false_and _))
              rw [hvb] at HCC
              clear hvb hval
              go_wp2_with (go_at_call 87; refine HCC.out.mono ?_; rintro e w2 ⟨rfl, hzw⟩; rw [hzw]; clear hzw w2)
              go_ret
              exact ⟨ret_bool HR.out.symm, HB1.out⟩
            | true =>
              have HRR : Hid (res = rightEL its (d + 1)) := Lib.hid (HRE.out.trans (by rw [hvb, Bool.true_and]))
              rw [hvb] at HCC
              clear hvb hval
              go_upto_region 7 with (go_at_call 87; refine HCC.out.mono ?_; rintro e w2 ⟨rfl, hzw⟩; rw [hzw]; clear hzw w2)
              clear x9
              go_loopg [68] its.length (fun q x u => ∃ j : Nat, j + q = its.length ∧ x = .int .i64 j ∧ Below w.heap.size w u ∧ rightEL (its.drop j) (d + 1) = res)
              case atStart => exact ⟨0, by omega, rfl, HB1.out, HRR.out.symm⟩
              case round =>
                obtain ⟨j, hj, rfl, hbu, hres⟩ := hrel
                have HBU := Lib.hid hbu
                have HR := Lib.hid hres
                have u9 := (hbu.cell (p := ⟨p, o + 9, none⟩) HPL.out).trans D9.out
                clear hbu hres
                cases gk with
                | zero =>
                  obtain rfl : j = its.length := by omega
                  have hge : ¬ ((its.length : Int) < (its.length : Int)) := by omega
                  have HV := Lib.hid (HR.out.symm.trans rightEL_end)
                  go_wp2
                  go_ret
                  exact ⟨ret_bool HV.out.symm, HBU.out⟩
                | succ q =>
                  have hlt : (j : Int) < (its.length : Int) := by omega
                  obtain ⟨y, hy⟩ : ∃ y, its[j]? = some y := ⟨_, List.getElem?_eq_getElem (by omega)⟩
                  obtain ⟨b, ob, rfl, hbl, hc⟩ := HA.out (by omega)
                  obtain ⟨ks, hkl, hks, hvx⟩ := hc j y hy
                  have HV := Lib.hid (HR.out.symm.trans (rightEL_step hy))
                  have HC := Lib.hid (IH.out y (List.mem_of_getElem? hy) (d + 1) ks b (ob + j * 10) wr (by omega) (rangeAt_below hks HBU.out hbl) ((hvx.under HBU.out).more HBU.out.size))
                  clear hc hks hvx hy HR hkl hbl
                  cases hrc : rightE y (d + 1) with
                  | false =>
                    have HV2 : Hid (res = false) := Lib.hid (HV.out.trans (by rw [hrc]; exact Bool.false_and _))
                    rw [hrc] at HC
                    clear hrc
                    go_wp2_with (go_at_call 63; refine HC.out.mono ?_; rintro e w4 ⟨rfl, hb⟩; have HB4 := Lib.hid hb; clear hb)
                    go_ret
                    exact ⟨ret_bool HV2.out.symm, HBU.out.trans (HB4.out.mono HBU.out.size)⟩
                  | true =>
                    have HV2 := Lib.hid (HV.out.trans (by rw [hrc, Bool.true_and]))
                    rw [hrc] at HC
                    clear hrc
                    go_wp2_with (go_at_call 63; refine HC.out.mono ?_; rintro e w4 ⟨rfl, hb⟩; have HB4 := Lib.hid hb; clear hb)
                    go_roundg q
                    case measure => omega
                    case rel => exact ⟨j + 1, by omega, by go_num, HBU.out.trans (HB4.out.mono HBU.out.size), HV2.out.symm⟩
        · subst hz1
          have hz0' : 0 ≤ (its.length : Int) := by omega
          go_enter Tryz.func63, Tryz.ntmps63
          go_upto_region 4 with (first | (go_at_call 84; refine (HKD.out _).mono ?_; rintro e z ⟨rfl, hzw⟩; rw [hzw]; clear hzw z) | (go_at_call 85; refine HNM.out.mono ?_; rintro e w1 ⟨rfl, hb⟩; have HB1 := Lib.hid hb; have x0 := (hb.cell (p := ⟨p, o, none⟩) HPL.out).trans D0.out; have x9 := (hb.cell (p := ⟨p, o + 9, none⟩) HPL.out).trans D9.out; clear hb))
          have X9 := Lib.hid x9
          have X0 := Lib.hid x0
          have HRV1 := Lib.hid (range_below2 HRV.out HB1.out HPL.out)
          clear x9
          by_cases hk1 : k = 1
          · subst hk1
            have HCC := Lib.hid (const_any (.mk vk vn vf vs vns vits) [.int .i64 vk, .int .i64 vn, .float .f64 vf, .string vs, .slice VA vns.length vc, .slice VD vits.length vd] w1 ((HVV.out.under HB1.out).more HB1.out.size))
            have hval : valB 1 (.mk vk vn vf vs vns vits) = constV (.mk vk vn vf vs vns vits) := by unfold valB; rw [if_pos rfl]
            rw [hval] at HRE
            cases hvb : constV (.mk vk vn vf vs vns vits) with
            | false =>
              have HR : Hid (res = false) := Lib.hid (HRE.out.trans (by rw [hvb]; exact Bool.false_and _))
              rw [hvb] at HCC
              clear hvb hval
              go_wp2_with (first | ((with_reducible refine wl_sload 27 _ rfl ?hwa p (o + 2) [.int .i64 vk, .int .i64 vn, .float .f64 vf, .string vs, .slice VA vns.length vc, .slice VD vits.length vd] _ rfl HRV1.out Tryz.underlying27 rfl ?hia ?_); (case hwa => (first | exact wanted_none rfl | exact wanted_if rfl rfl rfl rfl)); (case hia => kernel_rfl)) | (go_at_call 86; refine HCC.out.mono ?_; rintro e w2 ⟨rfl, hb⟩; have HB2 := Lib.hid hb; have y0 := (hb.cell (p := ⟨p, o, none⟩) (Nat.lt_of_lt_of_le HPL.out HB1.out.size)).trans X0.out; have y9 := (hb.cell (p := ⟨p, o + 9, none⟩) (Nat.lt_of_lt_of_le HPL.out HB1.out.size)).trans X9.out; clear hb))
              go_ret
              exact ⟨ret_bool HR.out.symm, HB1.out.trans (HB2.out.mono HB1.out.size)⟩
            | true =>
              have HRR : Hid (res = rightEL its (d + 1)) := Lib.hid (HRE.out.trans (by rw [hvb, Bool.true_and]))
              rw [hvb] at HCC
              clear hvb hval
              go_upto_region 7 with (first | ((with_reducible refine wl_sload 27 _ rfl ?hwa p (o + 2) [.int .i64 vk, .int .i64 vn, .float .f64 vf, .string vs, .slice VA vns.length vc, .slice VD vits.length vd] _ rfl HRV1.out Tryz.underlying27 rfl ?hia ?_); (case hwa => (first | exact wanted_none rfl | exact wanted_if rfl rfl rfl rfl)); (case hia => kernel_rfl)) | (go_at_call 86; refine HCC.out.mono ?_; rintro e w2 ⟨rfl, hb⟩; have HB2 := Lib.hid hb; have y0 := (hb.cell (p := ⟨p, o, none⟩) (Nat.lt_of_lt_of_le HPL.out HB1.out.size)).trans X0.out; have y9 := (hb.cell (p := ⟨p, o + 9, none⟩) (Nat.lt_of_lt_of_le HPL.out HB1.out.size)).trans X9.out; clear hb))
              clear y9
              go_loopg [68] its.length (fun q x u => ∃ j : Nat, j + q = its.length ∧ x = .int .i64 j ∧ Below w.heap.size w u ∧ rightEL (its.drop j) (d + 1) = res)
              case atStart => exact ⟨0, by omega, rfl, HB1.out.trans (HB2.out.mono HB1.out.size), HRR.out.symm⟩
              case round =>
                obtain ⟨j, hj, rfl, hbu, hres⟩ := hrel
                have HBU := Lib.hid hbu
                have HR := Lib.hid hres
                have u9 := (hbu.cell (p := ⟨p, o + 9, none⟩) HPL.out).trans D9.out
                clear hbu hres
                cases gk with
                | zero =>
                  obtain rfl : j = its.length := by omega
                  have hge : ¬ ((its.length : Int) < (its.length : Int)) := by omega
                  have HV := Lib.hid (HR.out.symm.trans rightEL_end)
                  go_wp2
                  go_ret
                  exact ⟨ret_bool HV.out.symm, HBU.out⟩
                | succ q =>
                  have hlt : (j : Int) < (its.length : Int) := by omega
                  obtain ⟨y, hy⟩ : ∃ y, its[j]? = some y := ⟨_, List.getElem?_eq_getElem (by omega)⟩
                  obtain ⟨b, ob, rfl, hbl, hc⟩ := HA.out (by omega)
                  obtain ⟨ks, hkl, hks, hvx⟩ := hc j y hy
                  have HV := Lib.hid (HR.out.symm.trans (rightEL_step hy))
                  have HC := Lib.hid (IH.out y (List.mem_of_getElem? hy) (d + 1) ks b (ob + j * 10) wr (by omega) (rangeAt_below hks HBU.out hbl) ((hvx.under HBU.out).more HBU.out.size))
                  clear hc hks hvx hy HR hkl hbl
                  cases hrc : rightE y (d + 1) with
                  | false =>
                    have HV2 : Hid (res = false) := Lib.hid (HV.out.trans (by rw [hrc]; exact Bool.false_and _))
                    rw [hrc] at HC
                    clear hrc
                    go_wp2_with (go_at_call 63; refine HC.out.mono ?_; rintro e w4 ⟨rfl, hb⟩; have HB4 := Lib.hid hb; clear hb)
                    go_ret
                    exact ⟨ret_bool HV2.out.symm, HBU.out.trans (HB4.out.mono HBU.out.size)⟩
                  | true =>
                    have HV2 := Lib.hid (HV.out.trans (by rw [hrc, Bool.true_and]))
                    rw [hrc] at HC
                    clear hrc
                    go_wp2_with (go_at_call 63; refine HC.out.mono ?_; rintro e w4 ⟨rfl, hb⟩; have HB4 := Lib.hid hb; clear hb)
                    go_roundg q
                    case measure => omega
                    case rel => exact ⟨j + 1, by omega, by go_num, HBU.out.trans (HB4.out.mono HBU.out.size), HV2.out.symm⟩
          · have hk1n : (k != 1) = true := by simpa using hk1
            have HCC := Lib.hid (nothing_any p (o + 2) vk vn vf vs VA VD vns.length vits.length vc vd w1 HVF.out HRV1.out)
            have hval : valB k (.mk vk vn vf vs vns vits) = noneB vk vn vf vs vns.length vits.length := by unfold valB; rw [if_neg hk1]; rfl
            rw [hval] at HRE
            have x9 := X9.out
            cases hvb : noneB vk vn vf vs vns.length vits.length with
            | false =>
              have HR : Hid (res = false) := Lib.hid (HRE.out.trans (by rw [hvb]; exact Bool.false_and _))
              rw [hvb] at HCC
              clear hvb hval
              go_wp2_with (go_at_call 87; refine HCC.out.mono ?_; rintro e w2 ⟨rfl, hzw⟩; rw [hzw]; clear hzw w2)
              go_ret
              exact ⟨ret_bool HR.out.symm, HB1.out⟩
            | true =>
              have HRR : Hid (res = rightEL its (d + 1)) := Lib.hid (HRE.out.trans (by rw [hvb, Bool.true_and]))
              rw [hvb] at HCC
              clear hvb hval
              go_upto_region 7 with (go_at_call 87; refine HCC.out.mono ?_; rintro e w2 ⟨rfl, hzw⟩; rw [hzw]; clear hzw w2)
              clear x9
              go_loopg [68] its.length (fun q x u => ∃ j : Nat, j + q = its.length ∧ x = .int .i64 j ∧ Below w.heap.size w u ∧ rightEL (its.drop j) (d + 1) = res)
              case atStart => exact ⟨0, by omega, rfl, HB1.out, HRR.out.symm⟩
              case round =>
                obtain ⟨j, hj, rfl, hbu, hres⟩ := hrel
                have HBU := Lib.hid hbu
                have HR := Lib.hid hres
                have u9 := (hbu.cell (p := ⟨p, o + 9, none⟩) HPL.out).trans D9.out
                clear hbu hres
                cases gk with
                | zero =>
                  obtain rfl : j = its.length := by omega
                  have hge : ¬ ((its.length : Int) < (its.length : Int)) := by omega
                  have HV := Lib.hid (HR.out.symm.trans rightEL_end)
                  go_wp2
                  go_ret
                  exact ⟨ret_bool HV.out.symm, HBU.out⟩
                | succ q =>
                  have hlt : (j : Int) < (its.length : Int) := by omega
                  obtain ⟨y, hy⟩ : ∃ y, its[j]? = some y := ⟨_, List.getElem?_eq_getElem (by omega)⟩
                  obtain ⟨b, ob, rfl, hbl, hc⟩ := HA.out (by omega)
                  obtain ⟨ks, hkl, hks, hvx⟩ := hc j y hy
                  have HV := Lib.hid (HR.out.symm.trans (rightEL_step hy))
                  have HC := Lib.hid (IH.out y (List.mem_of_getElem? hy) (d + 1) ks b (ob + j * 10) wr (by omega) (rangeAt_below hks HBU.out hbl) ((hvx.under HBU.out).more HBU.out.size))
                  clear hc hks hvx hy HR hkl hbl
                  cases hrc : rightE y (d + 1) with
                  | false =>
                    have HV2 : Hid (res = false) := Lib.hid (HV.out.trans (by rw [hrc]; exact Bool.false_and _))
                    rw [hrc] at HC
                    clear hrc
                    go_wp2_with (go_at_call 63; refine HC.out.mono ?_; rintro e w4 ⟨rfl, hb⟩; have HB4 := Lib.hid hb; clear hb)
                    go_ret
                    exact ⟨ret_bool HV2.out.symm, HBU.out.trans (HB4.out.mono HBU.out.size)⟩
                  | true =>
                    have HV2 := Lib.hid (HV.out.trans (by rw [hrc, Bool.true_and]))
                    rw [hrc] at HC
                    clear hrc
                    go_wp2_with (go_at_call 63; refine HC.out.mono ?_; rintro e w4 ⟨rfl, hb⟩; have HB4 := Lib.hid hb; clear hb)
                    go_roundg q
                    case measure => omega
                    case rel => exact ⟨j + 1, by omega, by go_num, HBU.out.trans (HB4.out.mono HBU.out.size), HV2.out.symm⟩
    · have hd' : (d : Int) > 12 := by omega
      have HR : Hid (res = false) := Lib.hid (by rw [HRE.out, decide_eq_false hd]; simp)
      go_enter Tryz.func63, Tryz.ntmps63
      go_wp2_with (go_at_call 84; refine (HKD.out _).mono ?_; rintro e z ⟨rfl, hzw⟩; rw [hzw]; clear hzw z)
      go_ret
      exact ⟨ret_bool HR.out.symm, Below.refl _ _⟩
def rightET (t : ET) : Bool := decide (cntE t 0 ≤ 200) && rightE t 1
set_option maxHeartbeats 1000000 in
set_option maxRecDepth 100000 in
theorem prightE (t : ET) (cs : List Value) (w : World) (hv : ExpAt w w.heap.size cs t) : Calls Tryz.prog 29 #[.agg ⟨cs⟩] w fun e w' => e = .returned (.bool (rightET t)) ∧ Below w.heap.size w w' := by
  have HCL := Lib.hid (eslen hv)
  have HB := Lib.hid (box_below w (.cells ⟨cs⟩ 30))
  have HR := Lib.hid (range_box w cs 30)
  have HV := Lib.hid ((hv.under HB.out).more HB.out.size)
  have HS := Lib.hid (box_size w (.cells ⟨cs⟩ 30))
  clear hv
  go_enter Tryz.func29, Tryz.ntmps29
  go_upto_region 1 with (fail)
  generalize w.alloc (.cells ⟨cs⟩ 30) = W at *
  have HC := Lib.hid (eparts_any t cs W HV.out)
  by_cases h : cntE t 0 ≤ 200
  · have h2 : (cntE t 0 : Int) ≤ 200 := by omega
    have HT : Hid (rightET t = rightE t 1) := Lib.hid (by unfold rightET; rw [decide_eq_true h, Bool.true_and])
    clear h
    go_wp2_with (first | ((with_reducible refine wl_sload 30 _ rfl ?hwa w.heap.size 0 cs _ rfl HR.out Tryz.underlying30 rfl ?hia ?_); (case hwa => (first | exact wanted_none rfl | exact wanted_if rfl rfl rfl rfl)); (case hia => rw [HCL.out]; kernel_rfl)) | (go_at_call 62; refine HC.out.mono ?_; rintro e z ⟨rfl, hb⟩; have HB2 := Lib.hid hb; clear hb) | (go_at_call 63; refine (right_anyE t 1 cs w.heap.size 0 z (by omega) (rangeAt_below HR.out HB2.out HS.out) ((HV.out.under HB2.out).more HB2.out.size)).mono ?_; rintro e z2 ⟨rfl, hb⟩; have HB3 := Lib.hid hb; clear hb))
    go_ret
    exact ⟨ret_bool HT.out.symm, (HB.out.trans (HB2.out.mono HB.out.size)).trans (HB3.out.mono (Nat.le_trans HB.out.size HB2.out.size))⟩
  · have h2 : ¬ (cntE t 0 : Int) ≤ 200 := by omega
    have HT : Hid (rightET t = false) := Lib.hid (by unfold rightET; rw [decide_eq_false h]; rfl)
    clear h
    go_wp2_with (first | ((with_reducible refine wl_sload 30 _ rfl ?hwa w.heap.size 0 cs _ rfl HR.out Tryz.underlying30 rfl ?hia ?_); (case hwa => (first | exact wanted_none rfl | exact wanted_if rfl rfl rfl rfl)); (case hia => rw [HCL.out]; kernel_rfl)) | (go_at_call 62; refine HC.out.mono ?_; rintro e z ⟨rfl, hb⟩; have HB2 := Lib.hid hb; clear hb))
    go_ret
    exact ⟨ret_bool HT.out.symm, HB.out.trans (HB2.out.mono HB.out.size)⟩
end Go.Proofs.YtppmkehdhpgdcaaGreat
