/- Parts of a proof: Rows4, SamX, SamT. -/
import Derived.Test.YtpmjcbjdcjjplaaGreatPack4
import Derived.Test.YtpmjcbjdcjjplaaGreatPack9
import Derived.Test.YtpmjcbjdcjjplaaGreatPack13
import Derived.Test.YtpmjcbjdcjjplaaGreatPack14
import Derived.Test.YtpmjcbjdcjjplaaGreatPack17
section
namespace Go.Proofs.YtpmjcbjdcjjplaaGreat
open Go Go.RowKit
set_option linter.unusedVariables false
set_option linter.unusedSimpArgs false
theorem rtext_any (a b : ByteArray) (w : World) : Calls Tryz.prog 67 #[.string a, .string b] w fun e w' => e = .returned (.int .i64 (cmpS a b)) ∧ w' = w := by
  obtain ⟨h1, h2⟩ := less_cmp a.data.toList b.data.toList
  obtain ⟨k1, k2⟩ := less_cmp b.data.toList a.data.toList
  have h3 := compareBytes_val a.data.toList b.data.toList
  have h4 := compareBytes_anti a.data.toList b.data.toList
  rw [← toList_eq, ← toList_eq] at h1 h2 h3 k1 k2 h4
  have hc : cmpS a b = Lib.compareBytes a.toList b.toList := by unfold cmpS; rw [toList_eq, toList_eq]
  rw [hc]
  rcases h3 with h | h | h
  · rw [h]
    have t1 : Op.bytesLess a.toList b.toList = true := h1.2 h
    clear h1 h2 k1 k2 h4 hc h
    go_enter Tryz.func67, Tryz.ntmps67
    go_wp2
    go_ret
    exact ⟨rfl, rfl⟩
  · rw [h]
    have t1 : Op.bytesLess a.toList b.toList = false := by rw [Bool.eq_false_iff]; intro e; have := h1.1 e; omega
    have t2 : Op.bytesLess b.toList a.toList = false := by rw [Bool.eq_false_iff]; intro e; have := k1.1 e; omega
    have t3 : (a.toList == b.toList) = true := h2.2 h
    clear h1 h2 k1 k2 h4 hc h
    go_enter Tryz.func67, Tryz.ntmps67
    go_wp2
    go_ret
    exact ⟨rfl, rfl⟩
  · rw [h]
    have t1 : Op.bytesLess a.toList b.toList = false := by rw [Bool.eq_false_iff]; intro e; have := h1.1 e; omega
    have t2 : Op.bytesLess b.toList a.toList = true := k1.2 (by omega)
    have t3 : (a.toList == b.toList) = false := by rw [Bool.eq_false_iff]; intro e; have := h2.1 e; omega
    clear h1 h2 k1 k2 h4 hc h
    go_enter Tryz.func67, Tryz.ntmps67
    go_wp2
    go_ret
    exact ⟨rfl, rfl⟩
theorem rsign_any (a b : Int) (w : World) : Calls Tryz.prog 65 #[.int .i64 a, .int .i64 b] w fun e w' => e = .returned (.int .i64 (cmpI a b)) ∧ w' = w := by
  rcases cmpI_val a b with ⟨h, k⟩ | ⟨h, k⟩ | ⟨h, k⟩
  · rw [h]
    go_enter Tryz.func65, Tryz.ntmps65
    go_wp2
    go_ret
    exact ⟨rfl, rfl⟩
  · rw [h]
    have t1 : ¬ (a < b) := by omega
    have t2 : ¬ (b < a) := by omega
    clear k h
    go_enter Tryz.func65, Tryz.ntmps65
    go_wp2
    go_ret
    exact ⟨rfl, rfl⟩
  · rw [h]
    have t1 : ¬ (a < b) := by omega
    go_enter Tryz.func65, Tryz.ntmps65
    go_wp2
    go_ret
    exact ⟨rfl, rfl⟩
theorem listC_tail {α : Type} {f : α → α → Int} {l r : List α} {k : Nat} (hl : k ≤ l.length) (hr : k ≤ r.length) (h : k = l.length ∨ k = r.length) : listC f (l.drop k) (r.drop k) = cmpI l.length r.length := by
  unfold cmpI
  by_cases h1 : l.length < r.length
  · rw [if_pos (by omega), listC_end (by omega) (by omega)]
  · rw [if_neg (by omega)]
    by_cases h2 : r.length < l.length
    · rw [if_pos (by omega)]
      obtain ⟨x, hx⟩ : ∃ x, l[k]? = some x := ⟨_, List.getElem?_eq_getElem (by omega)⟩
      exact listC_long hx (by omega)
    · rw [if_neg (by omega), listC_both (by omega) (by omega)]
set_option maxHeartbeats 1000000 in
set_option maxRecDepth 100000 in
theorem rrows_any (u v : Value) (l r : List ByteArray) (w : World) (hu : SlAt w w.heap.size 1 StrR u l) (hv : SlAt w w.heap.size 1 StrR v r) :
    Calls Tryz.prog 68 #[u, v] w fun e w' => e = .returned (.int .i64 (listC cmpS l r)) ∧ ∃ m, w' = w.drewN m := by
  obtain ⟨_, A, ca, rfl, _⟩ := id hu
  obtain ⟨_, D, cb, rfl, _⟩ := id hv
  obtain ⟨_, hl, ha⟩ := str_at hu
  obtain ⟨_, hr, hb⟩ := str_at hv
  have HA := Lib.hid ha
  have HB := Lib.hid hb
  have HS := Lib.hid (fun k x y => listC_step (f := cmpS) (l := l) (r := r) (k := k) (x := x) (y := y))
  have HT := Lib.hid (fun k => listC_tail (f := cmpS) (l := l) (r := r) (k := k))
  have H0 : Hid (listC cmpS (l.drop 0) (r.drop 0) = listC cmpS l r) := Lib.hid rfl
  have HSG := Lib.hid (fun z => rsign_any (l.length : Int) (r.length : Int) z)
  have hl2 : (l.length : Int) ≤ 9223372036854775807 := by omega
  have hr2 : (r.length : Int) ≤ 9223372036854775807 := by omega
  clear ha hb hu hv
  generalize listC cmpS l r = res at *
  go_enter Tryz.func68, Tryz.ntmps68
  go_wp2
  go_loopg [5] l.length (fun q x u => ∃ k m : Nat, k + q = l.length ∧ k ≤ r.length ∧ x = .int .i64 k ∧ u = w.drewN m ∧ listC cmpS (l.drop k) (r.drop k) = res)
  case atStart => exact ⟨0, 0, by omega, by omega, rfl, rfl, H0.out⟩
  case round =>
    obtain ⟨k, m, hk, hkr, rfl, rfl, hres⟩ := hrel
    have HR := Lib.hid hres
    clear hres
    cases gk with
    | zero =>
      obtain rfl : k = l.length := by omega
      have hge : ¬ ((l.length : Int) < (l.length : Int)) := by omega
      have HV := Lib.hid ((HR.out).symm.trans (HT.out l.length (Nat.le_refl _) hkr (.inl rfl)))
      rw [← HV.out] at HSG
      clear HR
      go_wp2_with (go_at_call 65; refine (HSG.out _).mono ?_; rintro e z ⟨rfl, rfl⟩)
      go_ret
      exact ⟨rfl, _, rfl⟩
    | succ q =>
      have hlt : (k : Int) < (l.length : Int) := by omega
      by_cases hkr2 : k < r.length
      · have hlt2 : (k : Int) < (r.length : Int) := by omega
        obtain ⟨x, hx⟩ : ∃ x, l[k]? = some x := ⟨_, List.getElem?_eq_getElem (by omega)⟩
        obtain ⟨y, hy⟩ : ∃ y, r[k]? = some y := ⟨_, List.getElem?_eq_getElem hkr2⟩
        obtain ⟨b1, o1, rfl, _, c1⟩ := HA.out (by omega)
        obtain ⟨b2, o2, rfl, _, c2⟩ := HB.out (by omega)
        obtain ⟨wm, hwm⟩ : ∃ wm, w.drewN m = wm := ⟨_, rfl⟩
        have d1 : wm.cell? ⟨b1, o1 + k, none⟩ = some (.string x) := by rw [← hwm]; exact (c1 k x hx).1
        have d2 : wm.cell? ⟨b2, o2 + k, none⟩ = some (.string y) := by rw [← hwm]; exact (c2 k y hy).1
        have HDM : Hid (∀ q, ∃ m', wm.drewN q = w.drewN m') := Lib.hid fun q => ⟨m + q, by rw [← hwm, World.drewN_drewN]⟩
        rw [hwm]
        have HV := Lib.hid ((HR.out).symm.trans (HS.out k x y hx hy))
        have HC := Lib.hid (fun w => rtext_any x y w)
        clear c1 c2 hx hy hkr hwm
        generalize cmpS x y = cv at *
        by_cases hc : cv = 0
        · subst hc
          have HV2 := Lib.hid (HV.out.trans (if_neg (fun h => h rfl)))
          clear HV
          go_upto_region 4 with (fail)
          go_quiet ((go_at_call 67; exact Calls.quiet_of_same (HC.out _)))
          obtain ⟨m', hm'⟩ := HDM.out nq
          rw [hm']
          go_wp2
          go_roundg q
          case measure => omega
          case rel => exact ⟨k + 1, _, by omega, by omega, by go_num, rfl, HV2.out.symm⟩
        · have HV2 := Lib.hid (HV.out.trans (if_pos hc))
          have t2 : (cv != 0) = true := by simpa using hc
          clear HV hc
          go_upto_region 4 with (fail)
          go_quiet ((go_at_call 67; exact Calls.quiet_of_same (HC.out _)))
          obtain ⟨m', hm'⟩ := HDM.out nq
          rw [hm']
          go_wp2
          go_ret
          exact ⟨ret_int HV2.out.symm, _, rfl⟩
      · have HV := Lib.hid ((HR.out).symm.trans (HT.out k (by omega) hkr (.inr (by omega))))
        have hge : ¬ ((k : Int) < (r.length : Int)) := by omega
        rw [← HV.out] at HSG
        clear HR hkr hkr2
        go_wp2_with (go_at_call 65; refine (HSG.out _).mono ?_; rintro e z ⟨rfl, rfl⟩)
        go_ret
        exact ⟨rfl, _, rfl⟩
set_option maxHeartbeats 1000000 in
set_option maxRecDepth 100000 in
theorem sleq_any (u v : Value) (l r : List ByteArray) (w : World) (hu : SlAt w w.heap.size 1 StrR u l) (hv : SlAt w w.heap.size 1 StrR v r) :
    Calls Tryz.prog 62 #[u, v] w fun e w' => e = .returned (.bool (decide (l = r))) ∧ ∃ m, w' = w.drewN m := by
  obtain ⟨_, A, ca, rfl, _⟩ := id hu
  obtain ⟨_, D, cb, rfl, _⟩ := id hv
  obtain ⟨_, hl, ha⟩ := str_at hu
  obtain ⟨_, hr, hb⟩ := str_at hv
  by_cases hlen : l.length = r.length
  · by_cases h0 : l.length = 0
    · have e1 : l = [] := List.eq_nil_of_length_eq_zero h0
      have e2 : r = [] := List.eq_nil_of_length_eq_zero (by omega)
      subst e1 e2
      refine (Tryz.slices_Equal_string_empty A D ca 0 cb w (by omega)).mono ?_
      rintro e z ⟨rfl, rfl⟩
      exact ⟨by simp, 0, rfl⟩
    · have p1 : 0 < l.length := by omega
      have p2 : 0 < r.length := by omega
      obtain ⟨b1, o1, rfl, _, c1⟩ := ha p1
      obtain ⟨b2, o2, rfl, _, c2⟩ := hb p2
      refine (Tryz.slices_Equal_string b1 o1 l.length ca b2 o2 r.length cb l r w (Nat.le_refl _) (Nat.le_refl _) hl hr (fun j hj => ?_) (fun j hj => ?_)).mono ?_
      · obtain ⟨x, hx⟩ : ∃ x, l[j]? = some x := ⟨_, List.getElem?_eq_getElem hj⟩
        rw [(c1 j x hx).1]; simp [List.getD, hx]
      · obtain ⟨x, hx⟩ : ∃ x, r[j]? = some x := ⟨_, List.getElem?_eq_getElem hj⟩
        rw [(c2 j x hx).1]; simp [List.getD, hx]
      · rintro e z ⟨rfl, h⟩
        exact ⟨by rw [List.take_length, List.take_length], h⟩
  · have HR : Hid (decide (l = r) = false) := Lib.hid (decide_eq_false fun h => hlen (by rw [h]))
    have t1 : ((l.length : Int) != (r.length : Int)) = true := by rw [bne_iff_ne]; omega
    clear ha hb hu hv hlen
    go_enter Tryz.func62, Tryz.ntmps62
    go_wp2
    go_ret
    exact ⟨ret_bool HR.out.symm, 0, rfl⟩
end Go.Proofs.YtpmjcbjdcjjplaaGreat
end
section
namespace Go.Proofs.YtpmjcbjdcjjplaaGreat
open Go Go.RowKit
set_option linter.unusedVariables false
set_option linter.unusedSimpArgs false
theorem exps_at {w : World} {v : Value} {l : List ET} (h : SlAt w w.heap.size 10 (ExpAt w w.heap.size) v l) : ∃ A c, v = .slice A l.length c ∧ l.length ≤ 9223372036854775807 ∧
    (0 < l.length → ∃ b o, A = some ⟨b, o, none⟩ ∧ b < w.heap.size ∧ ∀ (i : Nat) x, l[i]? = some x → ∃ cs : List Value, w.rangeAt b (o + i * 10) cs ∧ ExpAt w w.heap.size cs x) := by
  obtain ⟨h0, A, c, h1, h2⟩ := h
  refine ⟨A, c, h1, h0, fun hp => ?_⟩
  obtain ⟨b, o, h3, h4, h5⟩ := h2 hp
  refine ⟨b, o, h3, h4, fun i x hx => ?_⟩
  obtain ⟨cs, _, h7, h8⟩ := h5 i x hx
  exact ⟨cs, h7, h8⟩
theorem exp_one {w : World} {B : Nat} {cs : List Value} {t : ET} (h : ExpAt w B cs t) : cs.length = 10 ∧ ∀ u ∈ cs, u.oneCell' = true := by
  cases t with
  | mk k s v ns its =>
    have h9 := h.one
    obtain ⟨c0, c1, c2, c3, c4, c5, vn, vi, rfl, _⟩ := h.inv
    exact ⟨rfl, h9⟩
theorem vrange {w : World} {p o i : Nat} {cs ds : List Value} (h : w.rangeAt p o cs) (hd : ∀ j v, ds[j]? = some v → cs[i + j]? = some v) : w.rangeAt p (o + i) ds := fun j v hv => by
  have := h (i + j) v (hd j v hv)
  rw [show o + i + j = o + (i + j) by omega]; exact this
set_option maxHeartbeats 4000000 in
set_option maxRecDepth 100000 in
theorem eqx_any (l r : List _) (u v : Value) (w : World) (hu : SlAt w w.heap.size 10 (ExpAt w w.heap.size) u l) (hv : SlAt w w.heap.size 10 (ExpAt w w.heap.size) v r)
    (hF : ∀ x ∈ l, ∀ y cs cs' z, ExpAt z z.heap.size cs x → ExpAt z z.heap.size cs' y → Calls Tryz.prog 51 #[.agg ⟨cs⟩, .agg ⟨cs'⟩] z fun e w' => e = .returned (.bool (sameE x y)) ∧ Below z.heap.size z w') :
    Calls Tryz.prog 50 #[u, v, .func (.func 51) #[] #[]] w fun e w' => e = .returned (.bool (sameEL l r)) ∧ Below w.heap.size w w' := by
  obtain ⟨A, ca, rfl, hl, ha⟩ := exps_at hu
  obtain ⟨D, cb, rfl, hr, hb⟩ := exps_at hv
  by_cases hlen : l.length = r.length
  case neg =>
    have HR := Lib.hid (sameEL_len hlen)
    have t1 : ((l.length : Int) != (r.length : Int)) = true := by rw [bne_iff_ne]; omega
    clear hlen ha hb hu hv hF
    go_enter Tryz.func50, Tryz.ntmps50
    go_wp2
    go_ret
    exact ⟨ret_bool HR.out.symm, Below.refl _ w⟩
  have t1 : ((l.length : Int) != (r.length : Int)) = false := by rw [hlen]; exact bne_self_eq_false _
  have HLEN := Lib.hid hlen
  have HA := Lib.hid ha
  have HB := Lib.hid hb
  have HF := Lib.hid hF
  have HS := Lib.hid (fun k x y => sameEL_at (l := l) (r := r) (k := k) (x := x) (y := y))
  have HT := Lib.hid (sameEL_end hlen)
  have H0 : Hid (sameEL (l.drop 0) (r.drop 0) = sameEL l r) := Lib.hid rfl
  have hl2 : (l.length : Int) ≤ 9223372036854775807 := by omega
  have hr2 : (r.length : Int) ≤ 9223372036854775807 := by omega
  clear ha hb hu hv hF hlen
  generalize sameEL l r = res at H0 ⊢
  go_enter Tryz.func50, Tryz.ntmps50
  go_wp2
  go_loopg [17] l.length (fun q x u => ∃ k : Nat, k + q = l.length ∧ x = .int .i64 k ∧ Below w.heap.size w u ∧ sameEL (l.drop k) (r.drop k) = res)
  case atStart => exact ⟨0, by omega, rfl, Below.refl _ _, H0.out⟩
  case round =>
    obtain ⟨k, hk, rfl, hb, hres⟩ := hrel
    have HR := Lib.hid hres
    have HBK := Lib.hid hb
    clear hres hb
    cases gk with
    | zero =>
      obtain rfl : k = l.length := by omega
      have hge : ¬ ((l.length : Int) < (l.length : Int)) := by omega
      have HV := Lib.hid ((HR.out).symm.trans HT.out)
      clear HR
      go_wp2
      go_ret
      exact ⟨ret_bool HV.out.symm, HBK.out⟩
    | succ q =>
      have hlt : (k : Int) < (l.length : Int) := by omega
      have hkr : k < r.length := by have := HLEN.out; omega
      obtain ⟨x, hx⟩ : ∃ x, l[k]? = some x := ⟨_, List.getElem?_eq_getElem (by omega)⟩
      obtain ⟨b1, o1, rfl, hb1, c1⟩ := HA.out (by omega)
      obtain ⟨cs, hcs, hvx⟩ := c1 k x hx
      have HR1 := Lib.hid (rangeAt_below hcs HBK.out hb1)
      have HVX := Lib.hid ((hvx.under HBK.out).more HBK.out.size)
      have HCL := Lib.hid (exp_one hvx)
      have HMX := Lib.hid (List.mem_of_getElem? hx)
      have HKX := Lib.hid hx
      clear c1 hcs hvx hx
      go_upto_region 6 with (first | ((with_reducible refine wl_sload 40 _ rfl ?hwl11 (b1) (o1 + k * 10) (cs) _ rfl HR1.out Tryz.underlying40 rfl ?hil11 ?_); (case hwl11 => (exact wantA rfl)); (case hil11 => rw [HCL.out.1]; kernel_rfl)) | ((with_reducible refine wl_sbox 40 _ _ rfl ?hwx12 wr ?zz12 (cs) ?hwld12 ?hz12 ?hx12 ?hy12 ?hi12 ?h112 ?_); (case hwld12 => rfl); (case hx12 => rfl); (case hy12 => rfl); (case hwx12 => (exact wantA rfl)); (case hz12 => rw [HCL.out.1]; rfl); (case hi12 => rw [HCL.out.1]; kernel_rfl); (case h112 => exact HCL.out.2); intro Z hZ; have HX := Lib.hid hZ; clear hZ))
      have HBZ := Lib.hid (HBK.out.trans (HX.out.below.mono HBK.out.size))
      have HRA := Lib.hid HX.out.range
      have HVX2 := Lib.hid ((HVX.out.under HX.out.below).more HX.out.below.size)
      obtain ⟨pa, hpa⟩ : ∃ pa, wr.heap.size = pa := ⟨_, rfl⟩
      rw [hpa] at HRA
      have HPA : Hid (pa < Z.heap.size) := Lib.hid (hpa ▸ HX.out.size)
      rw [hpa]
      clear hpa HR1 HVX HX
      obtain ⟨y, hy⟩ : ∃ y, r[k]? = some y := ⟨_, List.getElem?_eq_getElem hkr⟩
      obtain ⟨b2, o2, rfl, hb2, c2⟩ := HB.out (by omega)
      obtain ⟨cs', hcs, hvy⟩ := c2 k y hy
      have HR2 := Lib.hid (rangeAt_below hcs HBZ.out hb2)
      have HVY := Lib.hid ((hvy.under HBZ.out).more HBZ.out.size)
      have HCM := Lib.hid (exp_one hvy)
      have hlt2 : (k : Int) < (r.length : Int) := by omega
      have HV := Lib.hid ((HR.out).symm.trans (HS.out k x y HKX.out hy))
      clear c2 hcs hvy hy hkr
      go_upto_region 7 with (first | ((with_reducible refine wl_sload 40 _ rfl ?hwl13 (b2) (o2 + k * 10) (cs') _ rfl HR2.out Tryz.underlying40 rfl ?hil13 ?_); (case hwl13 => (exact wantA rfl)); (case hil13 => rw [HCM.out.1]; kernel_rfl)) | ((with_reducible refine wl_sbox 40 _ _ rfl ?hwx14 Z ?zz14 (cs') ?hwld14 ?hz14 ?hx14 ?hy14 ?hi14 ?h114 ?_); (case hwld14 => rfl); (case hx14 => rfl); (case hy14 => rfl); (case hwx14 => (exact wantA rfl)); (case hz14 => rw [HCM.out.1]; rfl); (case hi14 => rw [HCM.out.1]; kernel_rfl); (case h114 => exact HCM.out.2); intro Z2 hZ; have HX2 := Lib.hid hZ; clear hZ))
      have HBZ2 := Lib.hid (HBZ.out.trans (HX2.out.below.mono HBZ.out.size))
      have HRA2 := Lib.hid (rangeAt_below HRA.out HX2.out.below HPA.out)
      have HRB2 := Lib.hid HX2.out.range
      have HVX3 := Lib.hid ((HVX2.out.under HX2.out.below).more HX2.out.below.size)
      have HVY3 := Lib.hid ((HVY.out.under HX2.out.below).more HX2.out.below.size)
      obtain ⟨pb, hpb⟩ : ∃ pb, Z.heap.size = pb := ⟨_, rfl⟩
      rw [hpb] at HRB2
      rw [hpb]
      have HC := Lib.hid (HF.out x HMX.out y cs cs' Z2 HVX3.out HVY3.out)
      clear hpb HX2 HR2 HVX2 HVY HRA HPA HVX3 HVY3
      obtain ⟨cv, hcv⟩ : ∃ b, sameE x y = b := ⟨_, rfl⟩
      rw [hcv] at HC HV
      clear hcv
      cases cv with
      | true =>
        have HV2 : Hid (res = sameEL (l.drop (k + 1)) (r.drop (k + 1))) := Lib.hid (HV.out.trans (Bool.true_and _))
        clear HV
        go_wp2_with (first | ((with_reducible refine wl_sload 40 _ rfl ?hwl9 (pa) (0) (cs) _ rfl HRA2.out Tryz.underlying40 rfl ?hil9 ?_); (case hwl9 => (exact wantA rfl)); (case hil9 => rw [HCL.out.1]; kernel_rfl)) | ((with_reducible refine wl_sload 40 _ rfl ?hwl10 (pb) (0) (cs') _ rfl HRB2.out Tryz.underlying40 rfl ?hil10 ?_); (case hwl10 => (exact wantA rfl)); (case hil10 => rw [HCM.out.1]; kernel_rfl)) | (go_at_call 51; refine (HC.out).mono ?_; rintro e z ⟨rfl, hbz⟩; have HB3 := Lib.hid hbz; clear hbz))
        go_roundg q
        case measure => omega
        case rel => exact ⟨k + 1, by omega, by go_num, HBZ2.out.trans (HB3.out.mono HBZ2.out.size), HV2.out.symm⟩
      | false =>
        have HV2 : Hid (res = false) := Lib.hid (HV.out.trans (Bool.false_and _))
        clear HV
        go_wp2_with (first | ((with_reducible refine wl_sload 40 _ rfl ?hwl9 (pa) (0) (cs) _ rfl HRA2.out Tryz.underlying40 rfl ?hil9 ?_); (case hwl9 => (exact wantA rfl)); (case hil9 => rw [HCL.out.1]; kernel_rfl)) | ((with_reducible refine wl_sload 40 _ rfl ?hwl10 (pb) (0) (cs') _ rfl HRB2.out Tryz.underlying40 rfl ?hil10 ?_); (case hwl10 => (exact wantA rfl)); (case hil10 => rw [HCM.out.1]; kernel_rfl)) | (go_at_call 51; refine (HC.out).mono ?_; rintro e z ⟨rfl, hbz⟩; have HB3 := Lib.hid hbz; clear hbz))
        go_ret
        exact ⟨ret_bool HV2.out.symm, HBZ2.out.trans (HB3.out.mono HBZ2.out.size)⟩
set_option maxHeartbeats 4000000 in
set_option maxRecDepth 100000 in
theorem psame_any : ∀ (t t' : ET) (cs cs' : List Value) (w : World), ExpAt w w.heap.size cs t → ExpAt w w.heap.size cs' t' →
    Calls Tryz.prog 51 #[.agg ⟨cs⟩, .agg ⟨cs'⟩] w fun e w' => e = .returned (.bool (sameE t t')) ∧ Below w.heap.size w w' := by
  intro t
  induction t using ET.ind with
  | h k s v ns its ih =>
    intro t' cs cs' w hv hv'
    cases t' with
    | mk k' s' v' ns' its' =>
    obtain ⟨v0, v1, v2, v3, v4, v5, vn, vi, rfl, _, _, hvv, hns, _, hi⟩ := hv.inv
    obtain ⟨u0, u1, u2, u3, u4, u5, vn', vi', rfl, _, _, hvv', hns', _, hi'⟩ := hv'.inv
    have HO := Lib.hid (sameE_prog (k := k) (k' := k') (s := s) (s' := s') (v := v) (v' := v') (ns := ns) (ns' := ns') (its := its) (its' := its'))
    generalize sameE (.mk k s v ns its) (.mk k' s' v' ns' its') = res at HO ⊢
    have HNS := Lib.hid hns
    have HNS' := Lib.hid hns'
    have HIT := Lib.hid hi
    have HIT' := Lib.hid hi'
    have HVV := Lib.hid hvv
    have HVV' := Lib.hid hvv'
    obtain ⟨_, NA, nc, rfl, _⟩ := hns
    obtain ⟨_, NB, nd, rfl, _⟩ := hns'
    obtain ⟨_, A, c, rfl, _⟩ := hi
    obtain ⟨_, D, d, rfl, _⟩ := hi'
    have HIH := Lib.hid (fun x (hx : x ∈ its) y cs cs' z h h' => ih x hx y cs cs' z h h')
    clear ih hv hv' hvv hvv'
    have g1 := box_below w (.cells ⟨[.int .i64 k, .string s, v0, v1, v2, v3, v4, v5, .slice NA ns.length nc, .slice A its.length c]⟩ 40)
    have hA := Whole.new w [.int .i64 k, .string s, v0, v1, v2, v3, v4, v5, .slice NA ns.length nc, .slice A its.length c] 40
    go_enter Tryz.func51, Tryz.ntmps51
    go_upto_region 1 with (fail)
    have hs1 : (w.alloc (.cells ⟨[.int .i64 k, .string s, v0, v1, v2, v3, v4, v5, .slice NA ns.length nc, .slice A its.length c]⟩ 40)).heap.size = w.heap.size + 1 := by simp
    generalize w.alloc (.cells ⟨[.int .i64 k, .string s, v0, v1, v2, v3, v4, v5, .slice NA ns.length nc, .slice A its.length c]⟩ 40) = W1 at *
    have g2 := box_below W1 (.cells ⟨[.int .i64 k', .string s', u0, u1, u2, u3, u4, u5, .slice NB ns'.length nd, .slice D its'.length d]⟩ 40)
    have hB := Whole.new W1 [.int .i64 k', .string s', u0, u1, u2, u3, u4, u5, .slice NB ns'.length nd, .slice D its'.length d] 40
    generalize W1.alloc (.cells ⟨[.int .i64 k', .string s', u0, u1, u2, u3, u4, u5, .slice NB ns'.length nd, .slice D its'.length d]⟩ 40) = W at *
    rw [hs1] at hB
    (try rw [hs1])
    obtain ⟨pb, hpb⟩ : ∃ pb, w.heap.size + 1 = pb := ⟨_, rfl⟩
    rw [hpb] at hB
    rw [hpb]
    have hA2 := hA.keep (g2.block _ (by have := hA.lt; omega))
    have HBL := Lib.hid (g1.trans (g2.mono g1.size))
    have HAW := Lib.hid hA2
    have HBW := Lib.hid hB
    clear g1 g2 hA hB hA2 hs1 hpb
    have d0 : W.cell? ⟨w.heap.size, 0, none⟩ = some (.int .i64 k) := HAW.out.range 0 _ rfl
    have d1 : W.cell? ⟨w.heap.size, 1, none⟩ = some (.string s) := HAW.out.range 1 _ rfl
    have e0 : W.cell? ⟨pb, 0, none⟩ = some (.int .i64 k') := HBW.out.range 0 _ rfl
    have e1 : W.cell? ⟨pb, 1, none⟩ = some (.string s') := HBW.out.range 1 _ rfl
    have HRV : Hid (W.rangeAt w.heap.size 2 [v0, v1, v2, v3, v4, v5]) := Lib.hid (by have := vrange (i := 2) (ds := [v0, v1, v2, v3, v4, v5]) HAW.out.range (fun j v h => match j, h with | 0, h => h | 1, h => h | 2, h => h | 3, h => h | 4, h => h | 5, h => h | j + 6, h => by simp at h); simpa using this)
    have HRW : Hid (W.rangeAt pb 2 [u0, u1, u2, u3, u4, u5]) := Lib.hid (by have := vrange (i := 2) (ds := [u0, u1, u2, u3, u4, u5]) HBW.out.range (fun j v h => match j, h with | 0, h => h | 1, h => h | 2, h => h | 3, h => h | 4, h => h | 5, h => h | j + 6, h => by simp at h); simpa using this)
    cases hk : (k == k') with
    | false =>
      have HV : Hid (res = false) := Lib.hid (by rw [HO.out, hk]; rfl)
      go_wp2
      go_ret
      exact ⟨ret_bool HV.out.symm, HBL.out⟩
    | true =>
    cases hs : (s.toList == s'.toList) with
    | false =>
      have HV : Hid (res = false) := Lib.hid (by rw [HO.out, hk, hs]; rfl)
      go_wp2
      go_ret
      exact ⟨ret_bool HV.out.symm, HBL.out⟩
    | true =>
    have HSV := Lib.hid (vsame v v' [v0, v1, v2, v3, v4, v5] [u0, u1, u2, u3, u4, u5] W ((HVV.out.under HBL.out).more HBL.out.size) ((HVV'.out.under HBL.out).more HBL.out.size))
    obtain ⟨sv, hsv⟩ : ∃ b, (ordV v v' == 0) = b := ⟨_, rfl⟩
    rw [hsv] at HSV
    cases sv with
    | false =>
      have HV : Hid (res = false) := Lib.hid (by rw [HO.out, hk, hs, hsv]; rfl)
      clear hsv
      go_wp2_with (first | (first | ((with_reducible refine wl_sload 38 _ rfl ?hwl7 (w.heap.size) (2) ([v0, v1, v2, v3, v4, v5]) _ rfl HRV.out Tryz.underlying38 rfl ?hil7 ?_); (case hwl7 => (exact wantA rfl)); (case hil7 => kernel_rfl)) | ((with_reducible refine wl_sload 38 _ rfl ?hwl8 (pb) (2) ([u0, u1, u2, u3, u4, u5]) _ rfl HRW.out Tryz.underlying38 rfl ?hil8 ?_); (case hwl8 => (exact wantA rfl)); (case hil8 => kernel_rfl))) | (go_at_call 48; refine (HSV.out).mono ?_; rintro e w2 ⟨rfl, hb2⟩; have HB2 := Lib.hid hb2; clear hb2))
      go_ret
      exact ⟨ret_bool HV.out.symm, HBL.out.trans (HB2.out.mono HBL.out.size)⟩
    | true =>
    have HN : Hid (∀ z, Below W.heap.size W z → Calls Tryz.prog 62 #[.slice NA ns.length nc, .slice NB ns'.length nd] z fun e w' => e = .returned (.bool (eqN ns ns')) ∧ ∃ m, w' = z.drewN m) := Lib.hid fun z hz => by
      have h := HBL.out.trans (hz.mono HBL.out.size)
      rw [← eqN_dec]
      exact sleq_any _ _ ns ns' z ((HNS.out.below h (fun _ _ _ h => h)).more h.size) ((HNS'.out.below h (fun _ _ _ h => h)).more h.size)
    cases hn : eqN ns ns' with
    | false =>
      have HV : Hid (res = false) := Lib.hid (by rw [HO.out, hk, hs, hsv, hn]; rfl)
      rw [hn] at HN
      clear hn hsv
      go_wp2_with (first | (first | ((with_reducible refine wl_sload 38 _ rfl ?hwl7 (w.heap.size) (2) ([v0, v1, v2, v3, v4, v5]) _ rfl HRV.out Tryz.underlying38 rfl ?hil7 ?_); (case hwl7 => (exact wantA rfl)); (case hil7 => kernel_rfl)) | ((with_reducible refine wl_sload 38 _ rfl ?hwl8 (pb) (2) ([u0, u1, u2, u3, u4, u5]) _ rfl HRW.out Tryz.underlying38 rfl ?hil8 ?_); (case hwl8 => (exact wantA rfl)); (case hil8 => kernel_rfl))) | (go_at_call 48; refine (HSV.out).mono ?_; rintro e w2 ⟨rfl, hb2⟩; have HB2 := Lib.hid hb2; have d8 : w2.cell? ⟨w.heap.size, 8, none⟩ = some (.slice NA ns.length nc) := (hb2.cell (p := ⟨w.heap.size, 8, none⟩) HAW.out.lt).trans (HAW.out.range 8 _ rfl); have e8 : w2.cell? ⟨pb, 8, none⟩ = some (.slice NB ns'.length nd) := (hb2.cell (p := ⟨pb, 8, none⟩) HBW.out.lt).trans (HBW.out.range 8 _ rfl); clear hb2) | (go_at_call 62; refine ((HN.out _ HB2.out)).mono ?_; rintro e z ⟨rfl, q, rfl⟩; skip))
      go_ret
      exact ⟨ret_bool HV.out.symm, below_drewN (HBL.out.trans (HB2.out.mono HBL.out.size)) _⟩
    | true =>
      have HV : Hid (res = sameEL its its') := Lib.hid (by rw [HO.out, hk, hs, hsv, hn]; rfl)
      rw [hn] at HN
      clear hn hsv
      have HQ : Hid (∀ z, Below W.heap.size W z → Calls Tryz.prog 50 #[.slice A its.length c, .slice D its'.length d, .func (.func 51) #[] #[]] z fun e w' => e = .returned (.bool (sameEL its its')) ∧ Below z.heap.size z w') := Lib.hid fun z hz => by
        have h := HBL.out.trans (hz.mono HBL.out.size)
        exact eqx_any its its' _ _ z ((HIT.out.below h (fun _ _ _ h2 => (h2.under h).more h.size)).more h.size) ((HIT'.out.below h (fun _ _ _ h2 => (h2.under h).more h.size)).more h.size) HIH.out
      go_wp2_with (first | (first | ((with_reducible refine wl_sload 38 _ rfl ?hwl7 (w.heap.size) (2) ([v0, v1, v2, v3, v4, v5]) _ rfl HRV.out Tryz.underlying38 rfl ?hil7 ?_); (case hwl7 => (exact wantA rfl)); (case hil7 => kernel_rfl)) | ((with_reducible refine wl_sload 38 _ rfl ?hwl8 (pb) (2) ([u0, u1, u2, u3, u4, u5]) _ rfl HRW.out Tryz.underlying38 rfl ?hil8 ?_); (case hwl8 => (exact wantA rfl)); (case hil8 => kernel_rfl))) | (go_at_call 48; refine (HSV.out).mono ?_; rintro e w2 ⟨rfl, hb2⟩; have HB2 := Lib.hid hb2; have d8 : w2.cell? ⟨w.heap.size, 8, none⟩ = some (.slice NA ns.length nc) := (hb2.cell (p := ⟨w.heap.size, 8, none⟩) HAW.out.lt).trans (HAW.out.range 8 _ rfl); have e8 : w2.cell? ⟨pb, 8, none⟩ = some (.slice NB ns'.length nd) := (hb2.cell (p := ⟨pb, 8, none⟩) HBW.out.lt).trans (HBW.out.range 8 _ rfl); clear hb2) | (go_at_call 62; refine ((HN.out _ HB2.out)).mono ?_; rintro e z ⟨rfl, q, rfl⟩; have d9 : (w2.drewN q).cell? ⟨w.heap.size, 9, none⟩ = some (.slice A its.length c) := (HB2.out.cell (p := ⟨w.heap.size, 9, none⟩) HAW.out.lt).trans (HAW.out.range 9 _ rfl); have e9 : (w2.drewN q).cell? ⟨pb, 9, none⟩ = some (.slice D its'.length d) := (HB2.out.cell (p := ⟨pb, 9, none⟩) HBW.out.lt).trans (HBW.out.range 9 _ rfl)) | (go_at_call 50; refine ((HQ.out _ (below_drewN HB2.out _))).mono ?_; rintro e z ⟨rfl, hb⟩; have HB4 := Lib.hid hb; clear hb))
      go_ret
      have hB := below_drewN (HBL.out.trans (HB2.out.mono HBL.out.size)) q
      exact ⟨ret_bool HV.out.symm, hB.trans (HB4.out.mono hB.size)⟩
end Go.Proofs.YtpmjcbjdcjjplaaGreat
end
section
namespace Go.Proofs.YtpmjcbjdcjjplaaGreat
open Go Go.RowKit
set_option linter.unusedVariables false
set_option linter.unusedSimpArgs false
set_option maxHeartbeats 4000000 in
set_option maxRecDepth 100000 in
theorem eqt_any (l r : List _) (u v : Value) (w : World) (hu : SlAt w w.heap.size 3 (TypAt w w.heap.size) u l) (hv : SlAt w w.heap.size 3 (TypAt w w.heap.size) v r)
    (hF : ∀ x ∈ l, ∀ y cs cs' z, TypAt z z.heap.size cs x → TypAt z z.heap.size cs' y → Calls Tryz.prog 47 #[.agg ⟨cs⟩, .agg ⟨cs'⟩] z fun e w' => e = .returned (.bool (sameT x y)) ∧ Below z.heap.size z w') :
    Calls Tryz.prog 63 #[u, v, .func (.func 47) #[] #[]] w fun e w' => e = .returned (.bool (sameTL l r)) ∧ Below w.heap.size w w' := by
  obtain ⟨A, ca, rfl, hl, ha⟩ := typs_at hu
  obtain ⟨D, cb, rfl, hr, hb⟩ := typs_at hv
  by_cases hlen : l.length = r.length
  case neg =>
    have HR := Lib.hid (sameTL_len hlen)
    have t1 : ((l.length : Int) != (r.length : Int)) = true := by rw [bne_iff_ne]; omega
    clear hlen ha hb hu hv hF
    go_enter Tryz.func63, Tryz.ntmps63
    go_wp2
    go_ret
    exact ⟨ret_bool HR.out.symm, Below.refl _ w⟩
  have t1 : ((l.length : Int) != (r.length : Int)) = false := by rw [hlen]; exact bne_self_eq_false _
  have HLEN := Lib.hid hlen
  have HA := Lib.hid ha
  have HB := Lib.hid hb
  have HF := Lib.hid hF
  have HS := Lib.hid (fun k x y => sameTL_at (l := l) (r := r) (k := k) (x := x) (y := y))
  have HT := Lib.hid (sameTL_end hlen)
  have H0 : Hid (sameTL (l.drop 0) (r.drop 0) = sameTL l r) := Lib.hid rfl
  have hl2 : (l.length : Int) ≤ 9223372036854775807 := by omega
  have hr2 : (r.length : Int) ≤ 9223372036854775807 := by omega
  clear ha hb hu hv hF hlen
  generalize sameTL l r = res at H0 ⊢
  go_enter Tryz.func63, Tryz.ntmps63
  go_wp2
  go_loopg [17] l.length (fun q x u => ∃ k : Nat, k + q = l.length ∧ x = .int .i64 k ∧ Below w.heap.size w u ∧ sameTL (l.drop k) (r.drop k) = res)
  case atStart => exact ⟨0, by omega, rfl, Below.refl _ _, H0.out⟩
  case round =>
    obtain ⟨k, hk, rfl, hb, hres⟩ := hrel
    have HR := Lib.hid hres
    have HBK := Lib.hid hb
    clear hres hb
    cases gk with
    | zero =>
      obtain rfl : k = l.length := by omega
      have hge : ¬ ((l.length : Int) < (l.length : Int)) := by omega
      have HV := Lib.hid ((HR.out).symm.trans HT.out)
      clear HR
      go_wp2
      go_ret
      exact ⟨ret_bool HV.out.symm, HBK.out⟩
    | succ q =>
      have hlt : (k : Int) < (l.length : Int) := by omega
      have hkr : k < r.length := by have := HLEN.out; omega
      obtain ⟨x, hx⟩ : ∃ x, l[k]? = some x := ⟨_, List.getElem?_eq_getElem (by omega)⟩
      obtain ⟨b1, o1, rfl, hb1, c1⟩ := HA.out (by omega)
      obtain ⟨cs, hcs, hvx⟩ := c1 k x hx
      have HR1 := Lib.hid (rangeAt_below hcs HBK.out hb1)
      have HVX := Lib.hid ((hvx.under HBK.out).more HBK.out.size)
      have HCL := Lib.hid (typ_one hvx)
      have HMX := Lib.hid (List.mem_of_getElem? hx)
      have HKX := Lib.hid hx
      clear c1 hcs hvx hx
      go_upto_region 6 with (first | ((with_reducible refine wl_sload 45 _ rfl ?hwl3 (b1) (o1 + k * 3) (cs) _ rfl HR1.out Tryz.underlying45 rfl ?hil3 ?_); (case hwl3 => (exact wantA rfl)); (case hil3 => rw [HCL.out.1]; kernel_rfl)) | ((with_reducible refine wl_sbox 45 _ _ rfl ?hwx4 wr ?zz4 (cs) ?hwld4 ?hz4 ?hx4 ?hy4 ?hi4 ?h14 ?_); (case hwld4 => rfl); (case hx4 => rfl); (case hy4 => rfl); (case hwx4 => (exact wantA rfl)); (case hz4 => rw [HCL.out.1]; rfl); (case hi4 => rw [HCL.out.1]; kernel_rfl); (case h14 => exact HCL.out.2); intro Z hZ; have HX := Lib.hid hZ; clear hZ))
      have HBZ := Lib.hid (HBK.out.trans (HX.out.below.mono HBK.out.size))
      have HRA := Lib.hid HX.out.range
      have HVX2 := Lib.hid ((HVX.out.under HX.out.below).more HX.out.below.size)
      obtain ⟨pa, hpa⟩ : ∃ pa, wr.heap.size = pa := ⟨_, rfl⟩
      rw [hpa] at HRA
      have HPA : Hid (pa < Z.heap.size) := Lib.hid (hpa ▸ HX.out.size)
      rw [hpa]
      clear hpa HR1 HVX HX
      obtain ⟨y, hy⟩ : ∃ y, r[k]? = some y := ⟨_, List.getElem?_eq_getElem hkr⟩
      obtain ⟨b2, o2, rfl, hb2, c2⟩ := HB.out (by omega)
      obtain ⟨cs', hcs, hvy⟩ := c2 k y hy
      have HR2 := Lib.hid (rangeAt_below hcs HBZ.out hb2)
      have HVY := Lib.hid ((hvy.under HBZ.out).more HBZ.out.size)
      have HCM := Lib.hid (typ_one hvy)
      have hlt2 : (k : Int) < (r.length : Int) := by omega
      have HV := Lib.hid ((HR.out).symm.trans (HS.out k x y HKX.out hy))
      clear c2 hcs hvy hy hkr
      go_upto_region 7 with (first | ((with_reducible refine wl_sload 45 _ rfl ?hwl5 (b2) (o2 + k * 3) (cs') _ rfl HR2.out Tryz.underlying45 rfl ?hil5 ?_); (case hwl5 => (exact wantA rfl)); (case hil5 => rw [HCM.out.1]; kernel_rfl)) | ((with_reducible refine wl_sbox 45 _ _ rfl ?hwx6 Z ?zz6 (cs') ?hwld6 ?hz6 ?hx6 ?hy6 ?hi6 ?h16 ?_); (case hwld6 => rfl); (case hx6 => rfl); (case hy6 => rfl); (case hwx6 => (exact wantA rfl)); (case hz6 => rw [HCM.out.1]; rfl); (case hi6 => rw [HCM.out.1]; kernel_rfl); (case h16 => exact HCM.out.2); intro Z2 hZ; have HX2 := Lib.hid hZ; clear hZ))
      have HBZ2 := Lib.hid (HBZ.out.trans (HX2.out.below.mono HBZ.out.size))
      have HRA2 := Lib.hid (rangeAt_below HRA.out HX2.out.below HPA.out)
      have HRB2 := Lib.hid HX2.out.range
      have HVX3 := Lib.hid ((HVX2.out.under HX2.out.below).more HX2.out.below.size)
      have HVY3 := Lib.hid ((HVY.out.under HX2.out.below).more HX2.out.below.size)
      obtain ⟨pb, hpb⟩ : ∃ pb, Z.heap.size = pb := ⟨_, rfl⟩
      rw [hpb] at HRB2
      rw [hpb]
      have HC := Lib.hid (HF.out x HMX.out y cs cs' Z2 HVX3.out HVY3.out)
      clear hpb HX2 HR2 HVX2 HVY HRA HPA HVX3 HVY3
      obtain ⟨cv, hcv⟩ : ∃ b, sameT x y = b := ⟨_, rfl⟩
      rw [hcv] at HC HV
      clear hcv
      cases cv with
      | true =>
        have HV2 : Hid (res = sameTL (l.drop (k + 1)) (r.drop (k + 1))) := Lib.hid (HV.out.trans (Bool.true_and _))
        clear HV
        go_wp2_with (first | ((with_reducible refine wl_sload 45 _ rfl ?hwl1 (pa) (0) (cs) _ rfl HRA2.out Tryz.underlying45 rfl ?hil1 ?_); (case hwl1 => (exact wantA rfl)); (case hil1 => rw [HCL.out.1]; kernel_rfl)) | ((with_reducible refine wl_sload 45 _ rfl ?hwl2 (pb) (0) (cs') _ rfl HRB2.out Tryz.underlying45 rfl ?hil2 ?_); (case hwl2 => (exact wantA rfl)); (case hil2 => rw [HCM.out.1]; kernel_rfl)) | (go_at_call 47; refine (HC.out).mono ?_; rintro e z ⟨rfl, hbz⟩; have HB3 := Lib.hid hbz; clear hbz))
        go_roundg q
        case measure => omega
        case rel => exact ⟨k + 1, by omega, by go_num, HBZ2.out.trans (HB3.out.mono HBZ2.out.size), HV2.out.symm⟩
      | false =>
        have HV2 : Hid (res = false) := Lib.hid (HV.out.trans (Bool.false_and _))
        clear HV
        go_wp2_with (first | ((with_reducible refine wl_sload 45 _ rfl ?hwl1 (pa) (0) (cs) _ rfl HRA2.out Tryz.underlying45 rfl ?hil1 ?_); (case hwl1 => (exact wantA rfl)); (case hil1 => rw [HCL.out.1]; kernel_rfl)) | ((with_reducible refine wl_sload 45 _ rfl ?hwl2 (pb) (0) (cs') _ rfl HRB2.out Tryz.underlying45 rfl ?hil2 ?_); (case hwl2 => (exact wantA rfl)); (case hil2 => rw [HCM.out.1]; kernel_rfl)) | (go_at_call 47; refine (HC.out).mono ?_; rintro e z ⟨rfl, hbz⟩; have HB3 := Lib.hid hbz; clear hbz))
        go_ret
        exact ⟨ret_bool HV2.out.symm, HBZ2.out.trans (HB3.out.mono HBZ2.out.size)⟩
set_option maxHeartbeats 4000000 in
set_option maxRecDepth 100000 in
theorem tsame_any : ∀ (t t' : TT) (cs cs' : List Value) (w : World), TypAt w w.heap.size cs t → TypAt w w.heap.size cs' t' →
    Calls Tryz.prog 47 #[.agg ⟨cs⟩, .agg ⟨cs'⟩] w fun e w' => e = .returned (.bool (sameT t t')) ∧ Below w.heap.size w w' := by
  intro t
  induction t using TT.ind with
  | h k ns its ih =>
    intro t' cs cs' w hv hv'
    cases t' with
    | mk k' ns' its' =>
    obtain ⟨vn, vi, rfl, _, hns, _, hi⟩ := hv.inv
    obtain ⟨vn', vi', rfl, _, hns', _, hi'⟩ := hv'.inv
    have HO : Hid (sameT (.mk k ns its) (.mk k' ns' its') = ((k == k') && (eqN ns ns' && sameTL its its'))) := Lib.hid (by rw [sameT])
    generalize sameT (.mk k ns its) (.mk k' ns' its') = res at HO ⊢
    have HNS := Lib.hid hns
    have HNS' := Lib.hid hns'
    have HIT := Lib.hid hi
    have HIT' := Lib.hid hi'
    obtain ⟨_, NA, nc, rfl, _⟩ := hns
    obtain ⟨_, NB, nd, rfl, _⟩ := hns'
    obtain ⟨_, A, c, rfl, _⟩ := hi
    obtain ⟨_, D, d, rfl, _⟩ := hi'
    have HIH := Lib.hid (fun x (hx : x ∈ its) y cs cs' z h h' => ih x hx y cs cs' z h h')
    clear ih hv hv'
    have g1 := box_below w (.cells ⟨[.int .i64 k, .slice NA ns.length nc, .slice A its.length c]⟩ 45)
    have hA := Whole.new w [.int .i64 k, .slice NA ns.length nc, .slice A its.length c] 45
    go_enter Tryz.func47, Tryz.ntmps47
    go_upto_region 1 with (fail)
    have hs1 : (w.alloc (.cells ⟨[.int .i64 k, .slice NA ns.length nc, .slice A its.length c]⟩ 45)).heap.size = w.heap.size + 1 := by simp
    generalize w.alloc (.cells ⟨[.int .i64 k, .slice NA ns.length nc, .slice A its.length c]⟩ 45) = W1 at *
    have g2 := box_below W1 (.cells ⟨[.int .i64 k', .slice NB ns'.length nd, .slice D its'.length d]⟩ 45)
    have hB := Whole.new W1 [.int .i64 k', .slice NB ns'.length nd, .slice D its'.length d] 45
    generalize W1.alloc (.cells ⟨[.int .i64 k', .slice NB ns'.length nd, .slice D its'.length d]⟩ 45) = W at *
    rw [hs1] at hB
    (try rw [hs1])
    obtain ⟨pb, hpb⟩ : ∃ pb, w.heap.size + 1 = pb := ⟨_, rfl⟩
    rw [hpb] at hB
    rw [hpb]
    have hA2 := hA.keep (g2.block _ (by have := hA.lt; omega))
    have HBL := Lib.hid (g1.trans (g2.mono g1.size))
    have HAW := Lib.hid hA2
    have HBW := Lib.hid hB
    clear g1 g2 hA hB hA2 hs1 hpb
    have d0 : W.cell? ⟨w.heap.size, 0, none⟩ = some (.int .i64 k) := HAW.out.range 0 _ rfl
    have d1 : W.cell? ⟨w.heap.size, 1, none⟩ = some (.slice NA ns.length nc) := HAW.out.range 1 _ rfl
    have e0 : W.cell? ⟨pb, 0, none⟩ = some (.int .i64 k') := HBW.out.range 0 _ rfl
    have e1 : W.cell? ⟨pb, 1, none⟩ = some (.slice NB ns'.length nd) := HBW.out.range 1 _ rfl
    cases hk : (k == k') with
    | false =>
      have HV : Hid (res = false) := Lib.hid (by rw [HO.out, hk]; rfl)
      go_wp2
      go_ret
      exact ⟨ret_bool HV.out.symm, HBL.out⟩
    | true =>
    have HN := Lib.hid (sleq_any (.slice NA ns.length nc) (.slice NB ns'.length nd) ns ns' W ((HNS.out.below HBL.out (fun _ _ _ h => h)).more HBL.out.size) ((HNS'.out.below HBL.out (fun _ _ _ h => h)).more HBL.out.size))
    rw [eqN_dec] at HN
    cases hn : eqN ns ns' with
    | false =>
      have HV : Hid (res = false) := Lib.hid (by rw [HO.out, hk, hn]; rfl)
      rw [hn] at HN
      clear hn
      go_wp2_with (go_at_call 62; refine (HN.out).mono ?_; rintro e z ⟨rfl, q, rfl⟩; skip)
      go_ret
      exact ⟨ret_bool HV.out.symm, below_drewN HBL.out _⟩
    | true =>
      have HV : Hid (res = sameTL its its') := Lib.hid (by rw [HO.out, hk, hn]; rfl)
      rw [hn] at HN
      clear hn
      have HQ : Hid (∀ q, Calls Tryz.prog 63 #[.slice A its.length c, .slice D its'.length d, .func (.func 47) #[] #[]] (W.drewN q) fun e w' => e = .returned (.bool (sameTL its its')) ∧ Below (W.drewN q).heap.size (W.drewN q) w') := Lib.hid fun q => eqt_any its its' _ _ _ (by have h := below_drewN HBL.out q; exact (HIT.out.below h (fun _ _ _ h2 => (h2.under h).more h.size)).more h.size) (by have h := below_drewN HBL.out q; exact (HIT'.out.below h (fun _ _ _ h2 => (h2.under h).more h.size)).more h.size) HIH.out
      go_wp2_with (first | (go_at_call 62; refine (HN.out).mono ?_; rintro e z ⟨rfl, q, rfl⟩; have d2 : (W.drewN q).cell? ⟨w.heap.size, 2, none⟩ = some (.slice A its.length c) := HAW.out.range 2 _ rfl; have e2 : (W.drewN q).cell? ⟨pb, 2, none⟩ = some (.slice D its'.length d) := HBW.out.range 2 _ rfl) | (go_at_call 63; refine (HQ.out _).mono ?_; rintro e z ⟨rfl, hb⟩; have HB4 := Lib.hid hb; clear hb))
      go_ret
      exact ⟨ret_bool HV.out.symm, (below_drewN HBL.out _).trans (HB4.out.mono (below_drewN HBL.out _).size)⟩
end Go.Proofs.YtpmjcbjdcjjplaaGreat
end
