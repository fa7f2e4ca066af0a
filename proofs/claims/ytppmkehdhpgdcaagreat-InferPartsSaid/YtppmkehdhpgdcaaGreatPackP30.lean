/- Parts of a proof: Typ, RTyp, RSmallE, Rows4. -/
import Derived.Test.YtppmkehdhpgdcaaGreatPackP20
import Derived.Test.YtppmkehdhpgdcaaGreatPackP23
import Derived.Test.YtppmkehdhpgdcaaGreatPackP27
import Derived.Test.YtppmkehdhpgdcaaGreatPackP29
section
namespace Go.Proofs.YtppmkehdhpgdcaaGreat
open Go Go.RowKit
set_option linter.unusedVariables false
set_option linter.unusedSimpArgs false
theorem TypAt.next {w w' : World} {cs : List Value} {t : TT} (h : TypAt w w.heap.size cs t) (hb : Below w.heap.size w w') : TypAt w' w'.heap.size cs t := (h.under hb).more hb.size
theorem typs_at {w : World} {v : Value} {l : List TT} (h : SlAt w w.heap.size 3 (TypAt w w.heap.size) v l) : ∃ A c, v = .slice A l.length c ∧ l.length ≤ 9223372036854775807 ∧
    (0 < l.length → ∃ b o, A = some ⟨b, o, none⟩ ∧ b < w.heap.size ∧ ∀ (i : Nat) x, l[i]? = some x → ∃ cs : List Value, w.rangeAt b (o + i * 3) cs ∧ TypAt w w.heap.size cs x) := by
  obtain ⟨h0, A, c, h1, h2⟩ := h
  refine ⟨A, c, h1, h0, fun hp => ?_⟩
  obtain ⟨b, o, h3, h4, h5⟩ := h2 hp
  refine ⟨b, o, h3, h4, fun i x hx => ?_⟩
  obtain ⟨cs, _, h7, h8⟩ := h5 i x hx
  exact ⟨cs, h7, h8⟩
theorem typ_one {w : World} {B : Nat} {cs : List Value} {t : TT} (h : TypAt w B cs t) : cs.length = 3 ∧ ∀ u ∈ cs, u.oneCell' = true := by
  cases t with
  | mk k ns its =>
    have h9 := h.one
    obtain ⟨vn, vi, rfl, _, h1, _, h2⟩ := h.inv
    exact ⟨rfl, h9⟩
mutual
def cntT : TT → Nat → Nat
  | .mk _ _ its, n => cntTL its (n + 1)
def cntTL : List TT → Nat → Nat
  | [], n => n
  | a :: l, n => if 500 ≤ n then n else cntTL l (cntT a n)
end
theorem cntTL_le : ∀ (l : List TT) (n : Nat), (∀ x ∈ l, ∀ m, m < 500 → cntT x m ≤ 500) → n ≤ 500 → cntTL l n ≤ 500
  | [], n, _, h => by rw [cntTL]; exact h
  | a :: l, n, h, hn => by
    rw [cntTL]
    split
    · exact hn
    · exact cntTL_le l _ (fun x hx => h x (List.mem_cons_of_mem _ hx)) (h a (List.mem_cons_self ..) n (by omega))
theorem cntT_le (t : TT) : ∀ m, m < 500 → cntT t m ≤ 500 := by
  induction t using TT.ind with
  | h k ns its ih => exact fun m hm => by rw [cntT]; exact cntTL_le its _ ih (by omega)
theorem cntTL_step {l : List TT} {k m : Nat} {x : TT} (h : l[k]? = some x) : cntTL (l.drop k) m = if 500 ≤ m then m else cntTL (l.drop (k + 1)) (cntT x m) := by
  rw [drop_at h, cntTL]
theorem cntTL_end {l : List TT} {m : Nat} : cntTL (l.drop l.length) m = m := by
  rw [List.drop_eq_nil_of_le (Nat.le_refl _), cntTL]
end Go.Proofs.YtppmkehdhpgdcaaGreat
end
section
namespace Go.Proofs.YtppmkehdhpgdcaaGreat
open Go Go.RowKit
set_option linter.unusedVariables false
set_option linter.unusedSimpArgs false
set_option maxHeartbeats 1000000 in
theorem tdepth : ∀ (x : TT) (far : Nat) (cs : List Value) (w : World), far ≤ 40 → TypAt w w.heap.size cs x → Calls Tryz.prog 54 #[.agg ⟨cs⟩, .int .i64 far] w (SomeInt w) := by
  intro x
  induction x using TT.ind with
  | h k ns its ih =>
    intro far cs w hfar hv
    obtain ⟨vn, vi, rfl, _, _, _, hi⟩ := hv.inv
    obtain ⟨A, c, rfl, hil, hA⟩ := typs_at hi
    have HA := Lib.hid hA
    have IH := Lib.hid ih
    clear hA hv ih hi
    go_enter Tryz.func54, Tryz.ntmps54
    go_upto_region 1 with (fail)
    have hb0 := box_below w (.cells ⟨[.int .i64 k, vn, .slice A its.length c]⟩ 62)
    have hz0 := box_size w (.cells ⟨[.int .i64 k, vn, .slice A its.length c]⟩ 62)
    have c5 := cell_box w ⟨[.int .i64 k, vn, .slice A its.length c]⟩ 62 2
    generalize w.alloc (.cells ⟨[.int .i64 k, vn, .slice A its.length c]⟩ 62) = W at *
    have HB := Lib.hid hb0
    have C5 := Lib.hid c5
    have HSZ := Lib.hid hz0
    clear hb0 c5 hz0
    go_wp2
    go_loopg [5, 6] its.length (fun g m i wr => ∃ (j : Nat) (x : Int), j + g = its.length ∧ i = .int .i64 j ∧ m = .int .i64 x ∧ Below W.heap.size W wr)
    case atStart => exact ⟨0, 0, by omega, rfl, rfl, Below.refl _ _⟩
    case round =>
      obtain ⟨j, x, hj, rfl, rfl, hb⟩ := hrel
      have HB1 := Lib.hid hb
      have d5 := (hb.cell (p := ⟨w.heap.size, 2, none⟩) HSZ.out).trans C5.out
      clear hb
      simp only [List.getElem?_toArray, List.getElem?_cons_succ, List.getElem?_cons_zero] at d5
      cases gk with
      | zero =>
        have hge : ¬ ((j : Int) < (its.length : Int)) := by omega
        go_wp2
        go_ret
        exact ⟨_, rfl, HB.out.trans (HB1.out.mono HB.out.size)⟩
      | succ g =>
        have hlt : (j : Int) < (its.length : Int) := by omega
        by_cases h0 : far = 0
        · subst h0
          go_wp2
          go_ret
          exact ⟨_, rfl, HB.out.trans (HB1.out.mono HB.out.size)⟩
        · have hpos : (0 : Int) < (far : Int) := by omega
          obtain ⟨y, hy⟩ : ∃ y, its[j]? = some y := ⟨_, List.getElem?_eq_getElem (by omega)⟩
          obtain ⟨b, o, rfl, hbb, hc⟩ := HA.out (by omega)
          obtain ⟨cs, hr, hR⟩ := hc j y hy
          have hB2 := HB.out.trans (HB1.out.mono HB.out.size)
          have HR := Lib.hid (rangeAt_below hr hB2 hbb)
          have HC := Lib.hid (IH.out y (List.mem_of_getElem? hy) (far - 1) cs wr (by omega) (hR.next hB2))
          have HCL := Lib.hid (typ_one hR)
          have hf1 : ((far - 1 : Nat) : Int) = (far : Int) - 1 := by omega
          clear hc hr hR hB2 hy h0
          rw [hf1] at HC
          clear hf1
          go_wp2_with (first | ((with_reducible refine wl_sload 62 _ rfl ?hwa b (o + j * 3) cs _ rfl HR.out Tryz.underlying62 rfl ?hia ?_); (case hwa => (first | exact wanted_none rfl | exact wanted_if rfl rfl rfl rfl)); (case hia => rw [HCL.out.1]; kernel_rfl)) | (go_at_call 54; refine HC.out.mono ?_; rintro e w' ⟨z, rfl, hb⟩; have HB2 := Lib.hid hb; clear hb))
          all_goals
            go_roundg g
            case measure => omega
            case rel => exact ⟨j + 1, _, by omega, by go_num, rfl, HB1.out.trans (HB2.out.mono HB1.out.size)⟩
set_option maxHeartbeats 1000000 in
set_option maxRecDepth 100000 in
theorem tcount_any : ∀ (t : TT) (m : Nat) (cs : List Value) (w : World), m < 500 → TypAt w w.heap.size cs t →
    Calls Tryz.prog 78 #[.agg ⟨cs⟩, .int .i64 m] w fun e w' => e = .returned (.int .i64 (cntT t m : Nat)) ∧ Below w.heap.size w w' := by
  intro t
  induction t using TT.ind with
  | h k ns its ih =>
    intro m cs w hm hv
    have IH := Lib.hid ih
    obtain ⟨vn, vi, rfl, _, _, _, hi⟩ := hv.inv
    obtain ⟨A, c, rfl, hil, hA⟩ := typs_at hi
    have HA := Lib.hid hA
    have HS := Lib.hid (fun k m x => cntTL_step (l := its) (k := k) (m := m) (x := x))
    have HE := Lib.hid (fun m => cntTL_end (l := its) (m := m))
    have HLE := Lib.hid (fun x m hm => cntT_le x m hm)
    have HCE : Hid (∀ k m, 500 ≤ m → cntTL (its.drop k) m = m) := Lib.hid (fun k m h => by
      cases its.drop k with
      | nil => rw [cntTL]
      | cons a l => rw [cntTL, if_pos h])
    have H0 : Hid (cntTL (its.drop 0) (m + 1) = cntT (.mk k ns its) m) := Lib.hid (by rw [cntT]; rfl)
    clear ih hi hA hv
    generalize cntT (.mk k ns its) m = res at *
    go_enter Tryz.func78, Tryz.ntmps78
    go_upto_region 1 with (fail)
    have hb0 := box_below w (.cells ⟨[.int .i64 k, vn, .slice A its.length c]⟩ 62)
    have hz0 := box_size w (.cells ⟨[.int .i64 k, vn, .slice A its.length c]⟩ 62)
    have c5 := cell_box w ⟨[.int .i64 k, vn, .slice A its.length c]⟩ 62 2
    generalize w.alloc (.cells ⟨[.int .i64 k, vn, .slice A its.length c]⟩ 62) = W at *
    have HB := Lib.hid hb0
    have C5 := Lib.hid c5
    have HSZ := Lib.hid hz0
    clear hb0 c5 hz0
    have hm2 : (m : Int) < 500 := by omega
    go_wp2
    go_loopg [1, 5] its.length (fun g u i wr => ∃ (j m : Nat), j + g = its.length ∧ i = .int .i64 j ∧ u = .int .i64 m ∧ m ≤ 500 ∧ Below W.heap.size W wr ∧ cntTL (its.drop j) m = res)
    case atStart => exact ⟨0, m + 1, by omega, rfl, by go_num, by omega, Below.refl _ _, H0.out⟩
    case round =>
      obtain ⟨j, m, hj, rfl, rfl, hm5, hb, hres⟩ := hrel
      have HB1 := Lib.hid hb
      have HR := Lib.hid hres
      have d5 := (hb.cell (p := ⟨w.heap.size, 2, none⟩) HSZ.out).trans C5.out
      clear hb hres
      simp only [List.getElem?_toArray, List.getElem?_cons_succ, List.getElem?_cons_zero] at d5
      have hm5' : (m : Int) ≤ 500 := by omega
      cases gk with
      | zero =>
        obtain rfl : j = its.length := by omega
        have hge : ¬ ((its.length : Int) < (its.length : Int)) := by omega
        have HV := Lib.hid (HR.out.symm.trans (HE.out m))
        go_wp2
        go_ret
        exact ⟨by rw [HV.out]; go_num, HB.out.trans (HB1.out.mono HB.out.size)⟩
      | succ g =>
        have hlt : (j : Int) < (its.length : Int) := by omega
        by_cases h0 : m < 500
        · obtain ⟨y, hy⟩ : ∃ y, its[j]? = some y := ⟨_, List.getElem?_eq_getElem (by omega)⟩
          obtain ⟨b, o, rfl, hbb, hc⟩ := HA.out (by omega)
          obtain ⟨cs, hr, hR⟩ := hc j y hy
          have hB2 := HB.out.trans (HB1.out.mono HB.out.size)
          have HV := Lib.hid (HR.out.symm.trans (HS.out j m y hy))
          have HV2 := Lib.hid (HV.out.trans (if_neg (by omega)))
          have HR1 := Lib.hid (rangeAt_below hr hB2 hbb)
          have HC := Lib.hid (IH.out y (List.mem_of_getElem? hy) m cs wr h0 (hR.next hB2))
          have HCL := Lib.hid (typ_one hR)
          have hle := HLE.out y m h0
          have h0' : (m : Int) < 500 := by omega
          clear hc hr hR hB2 hy HV h0
          go_wp2_with (first | ((with_reducible refine wl_sload 62 _ rfl ?hwa b (o + j * 3) cs _ rfl HR1.out Tryz.underlying62 rfl ?hia ?_); (case hwa => (first | exact wanted_none rfl | exact wanted_if rfl rfl rfl rfl)); (case hia => rw [HCL.out.1]; kernel_rfl)) | (go_at_call 78; refine HC.out.mono ?_; rintro e w' ⟨rfl, hb⟩; have HB2 := Lib.hid hb; clear hb))
          go_roundg g
          case measure => omega
          case rel => exact ⟨j + 1, _, by omega, by go_num, rfl, hle, HB1.out.trans (HB2.out.mono HB1.out.size), HV2.out.symm⟩
        · have HV := Lib.hid (HR.out.symm.trans (HCE.out j m (by omega)))
          have h0' : ¬ ((m : Int) < 500) := by omega
          have hm500 : m = 500 := by omega
          go_wp2
          all_goals
            go_ret
            exact ⟨by rw [HV.out, hm500]; rfl, HB.out.trans (HB1.out.mono HB.out.size)⟩
set_option maxHeartbeats 1000000 in
theorem tparts_any (t : TT) (cs : List Value) (w : World) (hv : TypAt w w.heap.size cs t) : Calls Tryz.prog 55 #[.agg ⟨cs⟩] w fun e w' => e = .returned (.int .i64 (cntT t 0 : Nat)) ∧ Below w.heap.size w w' := by
  have HCL := Lib.hid (typ_one hv)
  have HV := Lib.hid hv
  clear hv
  go_enter Tryz.func55, Tryz.ntmps55
  go_upto_region 1 with (fail)
  have HB := Lib.hid (box_below w (.cells ⟨cs⟩ 62))
  have HR := Lib.hid (range_box w cs 62)
  generalize w.alloc (.cells ⟨cs⟩ 62) = W at *
  have HC := Lib.hid (tcount_any t 0 cs W (by omega) (HV.out.next HB.out))
  go_wp2_with (first | ((with_reducible refine wl_sload 62 _ rfl ?hwa w.heap.size 0 cs _ rfl HR.out Tryz.underlying62 rfl ?hia ?_); (case hwa => (first | exact wanted_none rfl | exact wanted_if rfl rfl rfl rfl)); (case hia => rw [HCL.out.1]; kernel_rfl)) | (go_at_call 78; refine HC.out.mono ?_; rintro e w' ⟨rfl, hb⟩; have HB2 := Lib.hid hb; clear hb))
  go_ret
  exact ⟨rfl, HB.out.trans (HB2.out.mono HB.out.size)⟩
set_option maxHeartbeats 1000000 in
theorem tsmall (x : TT) (cs : List Value) (w : World) (hv : TypAt w w.heap.size cs x) : Calls Tryz.prog 27 #[.agg ⟨cs⟩] w (SomeBool w) := by
  have HCL := Lib.hid (typ_one hv)
  have HV := Lib.hid hv
  clear hv
  go_enter Tryz.func27, Tryz.ntmps27
  go_upto_region 1 with (fail)
  have HB := Lib.hid (box_below w (.cells ⟨cs⟩ 62))
  have HR := Lib.hid (range_box w cs 62)
  have HSZ := Lib.hid (box_size w (.cells ⟨cs⟩ 62))
  generalize w.alloc (.cells ⟨cs⟩ 62) = W at *
  have HC := Lib.hid (tdepth x 40 cs W (by omega) (HV.out.next HB.out))
  go_wp2_with (first | ((with_reducible refine wl_sload 62 _ rfl ?hwa w.heap.size 0 cs _ rfl HR.out Tryz.underlying62 rfl ?hia ?_); (case hwa => (first | exact wanted_none rfl | exact wanted_if rfl rfl rfl rfl)); (case hia => rw [HCL.out.1]; kernel_rfl)) | (go_at_call 54; fail))
  refine HC.out.mono ?_
  rintro e w2 ⟨z, rfl, hb⟩
  have HB2 := Lib.hid (HB.out.trans (hb.mono HB.out.size))
  have HR2 := Lib.hid (rangeAt_below HR.out hb HSZ.out)
  have HC2 := Lib.hid (tparts_any x cs w2 (HV.out.next HB2.out))
  clear hb HC
  by_cases hz : z ≤ 30
  · go_wp2_with (first | ((with_reducible refine wl_sload 62 _ rfl ?hwc w.heap.size 0 cs _ rfl HR2.out Tryz.underlying62 rfl ?hic ?_); (case hwc => (first | exact wanted_none rfl | exact wanted_if rfl rfl rfl rfl)); (case hic => rw [HCL.out.1]; kernel_rfl)) | (go_at_call 55; refine HC2.out.mono ?_; rintro e w' ⟨rfl, hb⟩; have HB3 := Lib.hid hb; clear hb))
    all_goals
      go_ret
      exact ⟨_, rfl, HB2.out.trans (HB3.out.mono HB2.out.size)⟩
  · go_wp2
    all_goals
      go_ret
      exact ⟨_, rfl, HB2.out⟩
end Go.Proofs.YtppmkehdhpgdcaaGreat
end
section
namespace Go.Proofs.YtppmkehdhpgdcaaGreat
open Go Go.RowKit
set_option linter.unusedVariables false
set_option linter.unusedSimpArgs false
set_option maxHeartbeats 1000000 in
theorem edepth : ∀ (x : ET) (far : Nat) (cs : List Value) (w : World), far ≤ 40 → ExpAt w w.heap.size cs x → Calls Tryz.prog 24 #[.agg ⟨cs⟩, .int .i64 far] w (SomeInt w) := by
  intro x
  induction x using ET.ind with
  | h k s t ns its ih =>
    intro far cs w hfar hv
    obtain ⟨v0, v1, v2, v3, v4, v5, vn, vi, rfl, _, _, _, _, hil, hi⟩ := hv.inv
    obtain ⟨_, A, c, rfl, hA⟩ := hi
    have HA := Lib.hid hA
    have IH := Lib.hid ih
    unfold maxLen at hil
    clear hA hv ih
    go_enter Tryz.func24, Tryz.ntmps24
    go_upto_region 1 with (fail)
    have hb0 := box_below w (.cells ⟨[.int .i64 k, .string s, v0, v1, v2, v3, v4, v5, vn, .slice A its.length c]⟩ 30)
    have hz0 := box_size w (.cells ⟨[.int .i64 k, .string s, v0, v1, v2, v3, v4, v5, vn, .slice A its.length c]⟩ 30)
    have c5 := cell_box w ⟨[.int .i64 k, .string s, v0, v1, v2, v3, v4, v5, vn, .slice A its.length c]⟩ 30 9
    generalize w.alloc (.cells ⟨[.int .i64 k, .string s, v0, v1, v2, v3, v4, v5, vn, .slice A its.length c]⟩ 30) = W at *
    have HB := Lib.hid hb0
    have C5 := Lib.hid c5
    have HSZ := Lib.hid hz0
    clear hb0 c5 hz0
    go_wp2
    go_loopg [5, 6] its.length (fun g m i wr => ∃ (j : Nat) (x : Int), j + g = its.length ∧ i = .int .i64 j ∧ m = .int .i64 x ∧ Below W.heap.size W wr)
    case atStart => exact ⟨0, 0, by omega, rfl, rfl, Below.refl _ _⟩
    case round =>
      obtain ⟨j, x, hj, rfl, rfl, hb⟩ := hrel
      have HB1 := Lib.hid hb
      have d5 := (hb.cell (p := ⟨w.heap.size, 9, none⟩) HSZ.out).trans C5.out
      clear hb
      simp only [List.getElem?_toArray, List.getElem?_cons_succ, List.getElem?_cons_zero] at d5
      cases gk with
      | zero =>
        have hge : ¬ ((j : Int) < (its.length : Int)) := by omega
        go_wp2
        go_ret
        exact ⟨_, rfl, HB.out.trans (HB1.out.mono HB.out.size)⟩
      | succ g =>
        have hlt : (j : Int) < (its.length : Int) := by omega
        by_cases h0 : far = 0
        · subst h0
          go_wp2
          go_ret
          exact ⟨_, rfl, HB.out.trans (HB1.out.mono HB.out.size)⟩
        · have hpos : (0 : Int) < (far : Int) := by omega
          have hz2 : w.heap.size ≤ wr.heap.size := Nat.le_trans HB.out.size HB1.out.size
          obtain ⟨y, hy⟩ : ∃ y, its[j]? = some y := ⟨_, List.getElem?_eq_getElem (by omega)⟩
          obtain ⟨b, o, rfl, hbb, hc⟩ := HA.out (by omega)
          obtain ⟨cs, hcl, hr, hR⟩ := hc j y hy
          have hB2 := HB.out.trans (HB1.out.mono HB.out.size)
          have HR := Lib.hid (rangeAt_below hr hB2 hbb)
          have HC := Lib.hid (IH.out y (List.mem_of_getElem? hy) (far - 1) cs wr (by omega) ((hR.under hB2).more hB2.size))
          have HCL := Lib.hid hcl
          have hf1 : ((far - 1 : Nat) : Int) = (far : Int) - 1 := by omega
          clear hc hr hR hB2 hy hcl h0
          rw [hf1] at HC
          clear hf1
          go_wp2_with (first | (with_reducible refine wl_sload 30 _ rfl ?hw b (o + j * 10) cs _ rfl HR.out Tryz.underlying30 rfl ?hi ?_; (case hw => first | exact wanted_none rfl | exact wanted_if rfl rfl rfl rfl); (case hi => rw [HCL.out]; kernel_rfl)) | (go_at_call 24; refine HC.out.mono ?_; rintro e w' ⟨z, rfl, hb⟩; have HB2 := Lib.hid hb; clear hb))
          all_goals
            go_roundg g
            case measure => omega
            case rel => exact ⟨j + 1, _, by omega, by go_num, rfl, HB1.out.trans (HB2.out.mono HB1.out.size)⟩
theorem eparts_some (t : ET) (cs : List Value) (w : World) (hv : ExpAt w w.heap.size cs t) : Calls Tryz.prog 25 #[.agg ⟨cs⟩] w (SomeUpto w) :=
  (reparts_any t cs w hv).mono fun e w' ⟨h, hb⟩ => ⟨(cntE t 0 : Nat), by omega, by have := cntE_le t 0 (by omega); omega, h, hb⟩
set_option maxHeartbeats 2000000 in
theorem esmall : ∀ (x : ET) (cs : List Value) (w : World), ExpAt w w.heap.size cs x → Calls Tryz.prog 8 #[.agg ⟨cs⟩] w (SomeBool w) := by
  intro x
  induction x using ET.ind with
  | h k s t ns its ih =>
    intro cs w hv
    have HV := Lib.hid hv
    have HCL := Lib.hid (eslen hv)
    obtain ⟨v0, v1, v2, v3, v4, v5, vn, vi, hcs, _, _, ht, _, hil, hi⟩ := hv.inv
    obtain ⟨_, A, c, rfl, hA⟩ := hi
    have HA := Lib.hid hA
    have IH := Lib.hid ih
    have HT := Lib.hid ht
    have HCS := Lib.hid hcs
    unfold maxLen at hil
    clear hA hv ih ht hcs
    go_enter Tryz.func8, Tryz.ntmps8
    go_upto_region 1 with (fail)
    have HB := Lib.hid (box_below w (.cells ⟨cs⟩ 30))
    have HR := Lib.hid (range_box w cs 30)
    have HSZ := Lib.hid (box_size w (.cells ⟨cs⟩ 30))
    generalize w.alloc (.cells ⟨cs⟩ 30) = W at *
    have HR2 : Hid (∀ z : World, Below W.heap.size W z → z.rangeAt w.heap.size 0 cs ∧ z.rangeAt w.heap.size 2 [v0, v1, v2, v3, v4, v5] ∧ z.cell? ⟨w.heap.size, 9, none⟩ = some (.slice A its.length c)) := Lib.hid fun z hz => by
      have hr := rangeAt_below HR.out hz HSZ.out
      refine ⟨hr, ?_, ?_⟩
      · rw [HCS.out] at hr
        exact range_sub (p := [.int .i64 k, .string s]) (cs := [v0, v1, v2, v3, v4, v5]) (q := [vn, .slice A its.length c]) hr 2 rfl
      · rw [HCS.out] at hr
        exact range_cell hr 9 rfl
    have HC := Lib.hid (edepth (.mk k s t ns its) 40 cs W (by omega) ((HV.out.under HB.out).more HB.out.size))
    go_wp2_with (first | (with_reducible refine wl_sload 30 _ rfl ?hw w.heap.size 0 cs _ rfl HR.out Tryz.underlying30 rfl ?hi ?_; (case hw => first | exact wanted_none rfl | exact wanted_if rfl rfl rfl rfl); (case hi => rw [HCL.out]; kernel_rfl)) | (go_at_call 24; fail))
    refine HC.out.mono ?_
    rintro e w2 ⟨z, rfl, hb⟩
    have HB2 := Lib.hid hb
    have HRZ := Lib.hid (HR2.out w2 hb).1
    have HB2' := Lib.hid (HB.out.trans (hb.mono HB.out.size))
    have HC2 := Lib.hid (eparts_some (.mk k s t ns its) cs w2 ((HV.out.under HB2'.out).more HB2'.out.size))
    clear hb HC
    by_cases hz : z ≤ 30
    · have hz' : decide ((30 : Int) < z) = false := by simp; omega
      go_wp2_with (first | (with_reducible refine wl_sload 30 _ rfl ?hw w.heap.size 0 cs _ rfl HRZ.out Tryz.underlying30 rfl ?hi ?_; (case hw => first | exact wanted_none rfl | exact wanted_if rfl rfl rfl rfl); (case hi => rw [HCL.out]; kernel_rfl)) | (go_at_call 25; fail))
      refine HC2.out.mono ?_
      rintro e w3 ⟨y, hy0, hy1, rfl, hb⟩
      have HB3 := Lib.hid (HB2.out.trans (hb.mono HB2.out.size))
      have HRY := Lib.hid (HR2.out w3 HB3.out).2.1
      have HB3' := Lib.hid (HB.out.trans (HB3.out.mono HB.out.size))
      have HC3 := Lib.hid (vsmall t [v0, v1, v2, v3, v4, v5] w3 ((HT.out.under HB3'.out).more HB3'.out.size))
      clear hb HC2 HRZ HB2 HB2'
      by_cases hy : y < 500
      · have hy' : decide ((500 : Int) ≤ y) = false := by simp; omega
        go_wp2_with (first | (with_reducible refine wl_sload 27 _ rfl ?hw w.heap.size 2 [v0, v1, v2, v3, v4, v5] _ rfl HRY.out Tryz.underlying27 rfl ?hi ?_; (case hw => first | exact wanted_none rfl | exact wanted_if rfl rfl rfl rfl); (case hi => kernel_rfl)) | (go_at_call 26; fail))
        refine HC3.out.mono ?_
        rintro e w4 ⟨q, rfl, hb⟩
        have HB4 := Lib.hid (HB3.out.trans (hb.mono HB3.out.size))
        have HB4' := Lib.hid (HB.out.trans (HB4.out.mono HB.out.size))
        clear hb HC3 HRY HB3 HB3'
        cases q with
        | false =>
          go_wp2
          go_ret
          exact ⟨_, rfl, HB4'.out⟩
        | true =>
          go_wp2
          go_loopg [3] its.length (fun g i wr => ∃ j : Nat, j + g = its.length ∧ i = .int .i64 j ∧ Below W.heap.size W wr)
          case atStart => exact ⟨0, by omega, rfl, HB4.out⟩
          case round =>
            obtain ⟨j, hj, rfl, hb⟩ := hrel
            have HB5 := Lib.hid hb
            have HB5' := Lib.hid (HB.out.trans (hb.mono HB.out.size))
            have d9 := (HR2.out wr hb).2.2
            clear hb
            cases gk with
            | zero =>
              have hge : ¬ ((j : Int) < (its.length : Int)) := by omega
              go_wp2
              go_ret
              exact ⟨_, rfl, HB5'.out⟩
            | succ g =>
              have hlt : (j : Int) < (its.length : Int) := by omega
              obtain ⟨y, hy⟩ : ∃ y, its[j]? = some y := ⟨_, List.getElem?_eq_getElem (by omega)⟩
              obtain ⟨b, o, rfl, hbb, hc⟩ := HA.out (by omega)
              obtain ⟨ks, hcl, hr, hR⟩ := hc j y hy
              have HRK := Lib.hid (rangeAt_below hr HB5'.out hbb)
              have HCK := Lib.hid (IH.out y (List.mem_of_getElem? hy) ks wr ((hR.under HB5'.out).more HB5'.out.size))
              have HKL := Lib.hid hcl
              clear hc hr hR hy hcl
              go_wp2_with (first | (with_reducible refine wl_sload 30 _ rfl ?hw b (o + j * 10) ks _ rfl HRK.out Tryz.underlying30 rfl ?hi ?_; (case hw => first | exact wanted_none rfl | exact wanted_if rfl rfl rfl rfl); (case hi => rw [HKL.out]; kernel_rfl)) | (go_at_call 8; fail))
              refine HCK.out.mono ?_
              rintro e w6 ⟨q, rfl, hb⟩
              have HB6 := Lib.hid (HB5.out.trans (hb.mono HB5.out.size))
              clear hb
              cases q with
              | false =>
                go_wp2
                go_ret
                exact ⟨_, rfl, HB.out.trans (HB6.out.mono HB.out.size)⟩
              | true =>
                go_wp2
                go_roundg g
                case measure => omega
                case rel => exact ⟨j + 1, by omega, by go_num, HB6.out⟩
      · have hy' : decide ((500 : Int) ≤ y) = true := by simp; omega
        go_wp2
        go_ret
        exact ⟨_, rfl, HB3'.out⟩
    · have hz' : decide ((30 : Int) < z) = true := by simp; omega
      go_wp2
      go_ret
      exact ⟨_, rfl, HB2'.out⟩
def SomeSmall (E : List VarT) (w : World) (e : Ending) (w' : World) : Prop := ∃ b : Bool, e = .returned (.bool b) ∧ (b = true → E.length ≤ 40) ∧ Below w.heap.size w w'
set_option maxHeartbeats 2000000 in
set_option maxRecDepth 100000 in
theorem rvsmall (E : List VarT) (v : Value) (w : World) (hv : SlAt w w.heap.size 11 (VarAt w w.heap.size) v E) (hE : E.length ≤ maxLen) :
    Calls Tryz.prog 9 #[v] w (SomeSmall E w) := by
  obtain ⟨hel, EA, ec, rfl, hea⟩ := hv
  have HEB := Lib.hid hea
  unfold maxLen at hE
  clear hea hel
  go_enter Tryz.func9, Tryz.ntmps9
  go_wp2
  go_loopg [3] E.length (fun q x u => ∃ j : Nat, j + q = E.length ∧ x = .int .i64 j ∧ Below w.heap.size w u)
  case atStart => exact ⟨0, by omega, rfl, Below.refl _ _⟩
  case round =>
    obtain ⟨jj, hj, rfl, hb⟩ := hrel
    have HBK := Lib.hid hb
    clear hb
    cases gk with
    | zero =>
      obtain rfl : jj = E.length := by omega
      have hge : ¬ ((E.length : Int) < (E.length : Int)) := by omega
      by_cases h40 : (E.length : Int) ≤ 40
      · go_wp2
        go_ret
        exact ⟨_, rfl, (fun _ => by omega), HBK.out⟩
      · go_wp2
        go_ret
        exact ⟨_, rfl, nofun, HBK.out⟩
    | succ q =>
      have hlt2 : (jj : Int) < (E.length : Int) := by omega
      obtain ⟨x, he⟩ : ∃ e, E[jj]? = some e := ⟨_, List.getElem?_eq_getElem (by omega)⟩
      obtain ⟨bb, o, rfl, hbl, hc⟩ := HEB.out (by omega)
      obtain ⟨ks, hkl, hks, hva⟩ := hc jj x he
      obtain ⟨ct, ci, hce, h3, h6, hct, hci⟩ := hva.ex
      have hnm := hva.name
      unfold maxLen at hnm
      have HRG : Hid (∀ z : World, Below w.heap.size w z → z.cell? ⟨bb, o + jj * 11, none⟩ = some (.string x.name) ∧ z.rangeAt bb (o + jj * 11 + 2) ct ∧ z.rangeAt bb (o + jj * 11 + 5) ci) := Lib.hid fun z hz => by
        have hr0 := rangeAt_below hks hz hbl
        rw [hce] at hr0
        refine ⟨range_cell hr0 0 rfl, range_sub (p := [.string x.name, .int .i64 x.label]) (cs := ct) (q := ci) hr0 _ rfl, ?_⟩
        exact range_sub (p := [.string x.name, .int .i64 x.label] ++ ct) (cs := ci) (q := []) (by rw [List.append_nil]; exact hr0) _ (by simp [h3])
      have HT := Lib.hid (fun z (hz : Below w.heap.size w z) => tsmall x.type ct z ((hct.under hz).more hz.size))
      have HI := Lib.hid (fun z (hz : Below w.heap.size w z) => vsmall x.init ci z ((hci.under hz).more hz.size))
      have HL3 := Lib.hid h3
      have HL6 := Lib.hid h6
      have HC1 := Lib.hid (HT.out wr HBK.out)
      have HR1 := Lib.hid (HRG.out wr HBK.out).2.1
      clear hc he hks hva hkl hct hci hce h3 h6
      go_wp2_with (first | (with_reducible refine wl_sload 62 _ rfl ?hw bb (o + jj * 11 + 2) ct _ rfl HR1.out Tryz.underlying62 rfl ?hi ?_; (case hw => first | exact wanted_none rfl | exact wanted_if rfl rfl rfl rfl); (case hi => rw [HL3.out]; kernel_rfl)) | (go_at_call 27; fail))
      refine HC1.out.mono ?_
      rintro e w2 ⟨q1, rfl, hb⟩
      have HB2 := Lib.hid (HBK.out.trans (hb.mono HBK.out.size))
      clear hb HC1
      cases q1 with
      | false =>
        go_wp2
        go_ret
        exact ⟨_, rfl, nofun, HB2.out⟩
      | true =>
        have HC2 := Lib.hid (HI.out w2 HB2.out)
        have HR2 := Lib.hid (HRG.out w2 HB2.out).2.2
        go_wp2_with (first | (with_reducible refine wl_sload 27 _ rfl ?hw bb (o + jj * 11 + 5) ci _ rfl HR2.out Tryz.underlying27 rfl ?hi ?_; (case hw => first | exact wanted_none rfl | exact wanted_if rfl rfl rfl rfl); (case hi => rw [HL6.out]; kernel_rfl)) | (go_at_call 26; fail))
        refine HC2.out.mono ?_
        rintro e w3 ⟨q2, rfl, hb⟩
        have HB3 := Lib.hid (HB2.out.trans (hb.mono HB2.out.size))
        clear hb HC2
        cases q2 with
        | false =>
          go_wp2
          go_ret
          exact ⟨_, rfl, nofun, HB3.out⟩
        | true =>
          have c0 := (HRG.out w3 HB3.out).1
          by_cases h300 : (300 : Int) < (x.name.size : Int)
          · go_wp2
            go_ret
            exact ⟨_, rfl, nofun, HB3.out⟩
          · go_wp2
            go_roundg q
            case measure => omega
            case rel => exact ⟨jj + 1, by omega, by go_num, HB3.out⟩
end Go.Proofs.YtppmkehdhpgdcaaGreat
end
section
namespace Go.Proofs.YtppmkehdhpgdcaaGreat
open Go Go.RowKit
set_option linter.unusedVariables false
set_option linter.unusedSimpArgs false
theorem rtext_any (a b : ByteArray) (w : World) : Calls Tryz.prog 100 #[.string a, .string b] w fun e w' => e = .returned (.int .i64 (cmpS a b)) ∧ w' = w := by
  obtain ⟨h1, h2⟩ := less_cmp a.data.toList b.data.toList
  obtain ⟨k1, k2⟩ := less_cmp b.data.toList a.data.toList
  have h3 := compareBytes_val a.data.toList b.data.toList
  have h4 := compareBytes_anti a.data.toList b.data.toList
  rw [← toList_eq, ← toList_eq] at h1 h2 h3 k1 k2 h4
  have hc : cmpS a b = Lib.compareBytes a.toList b.toList := by unfold cmpS; rw [toList_eq, toList_eq]
  rw [hc]
  rcases h3 with h | h | h
  · rw [h]
    have t1 : Op.bytesLess a.toList b.toList = true := h1.2 h
    clear h1 h2 k1 k2 h4 hc h
    go_enter Tryz.func100, Tryz.ntmps100
    go_wp2
    go_ret
    exact ⟨rfl, rfl⟩
  · rw [h]
    have t1 : Op.bytesLess a.toList b.toList = false := by rw [Bool.eq_false_iff]; intro e; have := h1.1 e; omega
    have t2 : Op.bytesLess b.toList a.toList = false := by rw [Bool.eq_false_iff]; intro e; have := k1.1 e; omega
    have t3 : (a.toList == b.toList) = true := h2.2 h
    clear h1 h2 k1 k2 h4 hc h
    go_enter Tryz.func100, Tryz.ntmps100
    go_wp2
    go_ret
    exact ⟨rfl, rfl⟩
  · rw [h]
    have t1 : Op.bytesLess a.toList b.toList = false := by rw [Bool.eq_false_iff]; intro e; have := h1.1 e; omega
    have t2 : Op.bytesLess b.toList a.toList = true := k1.2 (by omega)
    have t3 : (a.toList == b.toList) = false := by rw [Bool.eq_false_iff]; intro e; have := h2.1 e; omega
    clear h1 h2 k1 k2 h4 hc h
    go_enter Tryz.func100, Tryz.ntmps100
    go_wp2
    go_ret
    exact ⟨rfl, rfl⟩
theorem rsign_any (a b : Int) (w : World) : Calls Tryz.prog 98 #[.int .i64 a, .int .i64 b] w fun e w' => e = .returned (.int .i64 (cmpI a b)) ∧ w' = w := by
  rcases cmpI_val a b with ⟨h, k⟩ | ⟨h, k⟩ | ⟨h, k⟩
  · rw [h]
    go_enter Tryz.func98, Tryz.ntmps98
    go_wp2
    go_ret
    exact ⟨rfl, rfl⟩
  · rw [h]
    have t1 : ¬ (a < b) := by omega
    have t2 : ¬ (b < a) := by omega
    clear k h
    go_enter Tryz.func98, Tryz.ntmps98
    go_wp2
    go_ret
    exact ⟨rfl, rfl⟩
  · rw [h]
    have t1 : ¬ (a < b) := by omega
    go_enter Tryz.func98, Tryz.ntmps98
    go_wp2
    go_ret
    exact ⟨rfl, rfl⟩
theorem listC_tail {α : Type} {f : α → α → Int} {l r : List α} {k : Nat} (hl : k ≤ l.length) (hr : k ≤ r.length) (h : k = l.length ∨ k = r.length) : listC f (l.drop k) (r.drop k) = cmpI l.length r.length := by
  unfold cmpI
  by_cases h1 : l.length < r.length
  · rw [if_pos (by omega), listC_end (by omega) (by omega)]
  · rw [if_neg (by omega)]
    by_cases h2 : r.length < l.length
    · rw [if_pos (by omega)]
      obtain ⟨x, hx⟩ : ∃ x, l[k]? = some x := ⟨_, List.getElem?_eq_getElem (by omega)⟩
      exact listC_long hx (by omega)
    · rw [if_neg (by omega), listC_both (by omega) (by omega)]
set_option maxHeartbeats 1000000 in
set_option maxRecDepth 100000 in
theorem rrows_any (u v : Value) (l r : List ByteArray) (w : World) (hu : SlAt w w.heap.size 1 StrR u l) (hv : SlAt w w.heap.size 1 StrR v r) :
    Calls Tryz.prog 101 #[u, v] w fun e w' => e = .returned (.int .i64 (listC cmpS l r)) ∧ ∃ m, w' = w.drewN m := by
  obtain ⟨_, A, ca, rfl, _⟩ := id hu
  obtain ⟨_, D, cb, rfl, _⟩ := id hv
  obtain ⟨_, hl, ha⟩ := str_at hu
  obtain ⟨_, hr, hb⟩ := str_at hv
  have HA := Lib.hid ha
  have HB := Lib.hid hb
  have HS := Lib.hid (fun k x y => listC_step (f := cmpS) (l := l) (r := r) (k := k) (x := x) (y := y))
  have HT := Lib.hid (fun k => listC_tail (f := cmpS) (l := l) (r := r) (k := k))
  have H0 : Hid (listC cmpS (l.drop 0) (r.drop 0) = listC cmpS l r) := Lib.hid rfl
  have HSG := Lib.hid (fun z => rsign_any (l.length : Int) (r.length : Int) z)
  have hl2 : (l.length : Int) ≤ 9223372036854775807 := by omega
  have hr2 : (r.length : Int) ≤ 9223372036854775807 := by omega
  clear ha hb hu hv
  generalize listC cmpS l r = res at *
  go_enter Tryz.func101, Tryz.ntmps101
  go_wp2
  go_loopg [5] l.length (fun q x u => ∃ k m : Nat, k + q = l.length ∧ k ≤ r.length ∧ x = .int .i64 k ∧ u = w.drewN m ∧ listC cmpS (l.drop k) (r.drop k) = res)
  case atStart => exact ⟨0, 0, by omega, by omega, rfl, rfl, H0.out⟩
  case round =>
    obtain ⟨k, m, hk, hkr, rfl, rfl, hres⟩ := hrel
    have HR := Lib.hid hres
    clear hres
    cases gk with
    | zero =>
      obtain rfl : k = l.length := by omega
      have hge : ¬ ((l.length : Int) < (l.length : Int)) := by omega
      have HV := Lib.hid ((HR.out).symm.trans (HT.out l.length (Nat.le_refl _) hkr (.inl rfl)))
      rw [← HV.out] at HSG
      clear HR
      go_wp2_with (go_at_call 98; refine (HSG.out _).mono ?_; rintro e z ⟨rfl, rfl⟩)
      go_ret
      exact ⟨rfl, _, rfl⟩
    | succ q =>
      have hlt : (k : Int) < (l.length : Int) := by omega
      by_cases hkr2 : k < r.length
      · have hlt2 : (k : Int) < (r.length : Int) := by omega
        obtain ⟨x, hx⟩ : ∃ x, l[k]? = some x := ⟨_, List.getElem?_eq_getElem (by omega)⟩
        obtain ⟨y, hy⟩ : ∃ y, r[k]? = some y := ⟨_, List.getElem?_eq_getElem hkr2⟩
        obtain ⟨b1, o1, rfl, _, c1⟩ := HA.out (by omega)
        obtain ⟨b2, o2, rfl, _, c2⟩ := HB.out (by omega)
        obtain ⟨wm, hwm⟩ : ∃ wm, w.drewN m = wm := ⟨_, rfl⟩
        have d1 : wm.cell? ⟨b1, o1 + k, none⟩ = some (.string x) := by rw [← hwm]; exact (c1 k x hx).1
        have d2 : wm.cell? ⟨b2, o2 + k, none⟩ = some (.string y) := by rw [← hwm]; exact (c2 k y hy).1
        have HDM : Hid (∀ q, ∃ m', wm.drewN q = w.drewN m') := Lib.hid fun q => ⟨m + q, by rw [← hwm, World.drewN_drewN]⟩
        rw [hwm]
        have HV := Lib.hid ((HR.out).symm.trans (HS.out k x y hx hy))
        have HC := Lib.hid (fun w => rtext_any x y w)
        clear c1 c2 hx hy hkr hwm
        generalize cmpS x y = cv at *
        by_cases hc : cv = 0
        · subst hc
          have HV2 := Lib.hid (HV.out.trans (if_neg (fun h => h rfl)))
          clear HV
          go_upto_region 4 with (fail)
          go_quiet ((go_at_call 100; exact Calls.quiet_of_same (HC.out _)))
          obtain ⟨m', hm'⟩ := HDM.out nq
          rw [hm']
          go_wp2
          go_roundg q
          case measure => omega
          case rel => exact ⟨k + 1, _, by omega, by omega, by go_num, rfl, HV2.out.symm⟩
        · have HV2 := Lib.hid (HV.out.trans (if_pos hc))
          have t2 : (cv != 0) = true := by simpa using hc
          clear HV hc
          go_upto_region 4 with (fail)
          go_quiet ((go_at_call 100; exact Calls.quiet_of_same (HC.out _)))
          obtain ⟨m', hm'⟩ := HDM.out nq
          rw [hm']
          go_wp2
          go_ret
          exact ⟨ret_int HV2.out.symm, _, rfl⟩
      · have HV := Lib.hid ((HR.out).symm.trans (HT.out k (by omega) hkr (.inr (by omega))))
        have hge : ¬ ((k : Int) < (r.length : Int)) := by omega
        rw [← HV.out] at HSG
        clear HR hkr hkr2
        go_wp2_with (go_at_call 98; refine (HSG.out _).mono ?_; rintro e z ⟨rfl, rfl⟩)
        go_ret
        exact ⟨rfl, _, rfl⟩
end Go.Proofs.YtppmkehdhpgdcaaGreat
end
