/- Parts of a proof: R03, RTyp, ESmallQ, MSmall. -/
import Derived.Test.YtpmjcbjdcjjplaaGreatPack9
import Derived.Test.YtpmjcbjdcjjplaaGreatPack12
import Derived.Test.YtpmjcbjdcjjplaaGreatPack14
section
namespace Go.Proofs.YtpmjcbjdcjjplaaGreat
open Go Go.RowKit
set_option linter.unusedVariables false
def nanR (f : Nat) : Bool := decide (18437736874454810624 < IntKind.u64.wrap ((f : Int) * 2))
set_option maxHeartbeats 1000000 in
set_option maxRecDepth 100000 in
theorem rnan_any (f : Nat) (hf : f < 2 ^ 64) (w : World) : Calls Tryz.prog 95 #[.float .f64 f] w fun e w' => e = .returned (.bool (nanR f)) ∧ w' = w := by
  have e1 : ∀ W : World, (callFunc 96 #[.float .f64 f]).run Tryz.prog W = .ok (.value (.int .u64 f)) W := fun W => by
    rw [run_callFunc_extern Tryz.func96 (by kernel_rfl) (by kernel_rfl) (by kernel_rfl) (e := Extern.MathFloatBits.float64bits) (by kernel_rfl)]
    rfl
  go_enter Tryz.func95, Tryz.ntmps95
  go_wp2
  go_ret
  exact ⟨rfl, rfl⟩
end Go.Proofs.YtpmjcbjdcjjplaaGreat
end
section
namespace Go.Proofs.YtpmjcbjdcjjplaaGreat
open Go Go.RowKit
set_option linter.unusedVariables false
set_option linter.unusedSimpArgs false
set_option maxHeartbeats 1000000 in
theorem tdepth : ∀ (x : TT) (far : Nat) (cs : List Value) (w : World), far ≤ 40 → TypAt w w.heap.size cs x → Calls Tryz.prog 41 #[.agg ⟨cs⟩, .int .i64 far] w (SomeInt w) := by
  intro x
  induction x using TT.ind with
  | h k ns its ih =>
    intro far cs w hfar hv
    obtain ⟨vn, vi, rfl, _, _, _, hi⟩ := hv.inv
    obtain ⟨A, c, rfl, hil, hA⟩ := typs_at hi
    have HA := Lib.hid hA
    have IH := Lib.hid ih
    clear hA hv ih hi
    go_enter Tryz.func41, Tryz.ntmps41
    go_upto_region 1 with (fail)
    have hb0 := box_below w (.cells ⟨[.int .i64 k, vn, .slice A its.length c]⟩ 45)
    have hz0 := box_size w (.cells ⟨[.int .i64 k, vn, .slice A its.length c]⟩ 45)
    have c5 := cell_box w ⟨[.int .i64 k, vn, .slice A its.length c]⟩ 45 2
    generalize w.alloc (.cells ⟨[.int .i64 k, vn, .slice A its.length c]⟩ 45) = W at *
    have HB := Lib.hid hb0
    have C5 := Lib.hid c5
    have HSZ := Lib.hid hz0
    clear hb0 c5 hz0
    go_wp2
    go_loopg [5, 6] its.length (fun g m i wr => ∃ (j : Nat) (x : Int), j + g = its.length ∧ i = .int .i64 j ∧ m = .int .i64 x ∧ Below W.heap.size W wr)
    case atStart => exact ⟨0, 0, by omega, rfl, rfl, Below.refl _ _⟩
    case round =>
      obtain ⟨j, x, hj, rfl, rfl, hb⟩ := hrel
      have HB1 := Lib.hid hb
      have d5 := (hb.cell (p := ⟨w.heap.size, 2, none⟩) HSZ.out).trans C5.out
      clear hb
      simp only [List.getElem?_toArray, List.getElem?_cons_succ, List.getElem?_cons_zero] at d5
      cases gk with
      | zero =>
        have hge : ¬ ((j : Int) < (its.length : Int)) := by omega
        go_wp2
        go_ret
        exact ⟨_, rfl, HB.out.trans (HB1.out.mono HB.out.size)⟩
      | succ g =>
        have hlt : (j : Int) < (its.length : Int) := by omega
        by_cases h0 : far = 0
        · subst h0
          go_wp2
          go_ret
          exact ⟨_, rfl, HB.out.trans (HB1.out.mono HB.out.size)⟩
        · have hpos : (0 : Int) < (far : Int) := by omega
          obtain ⟨y, hy⟩ : ∃ y, its[j]? = some y := ⟨_, List.getElem?_eq_getElem (by omega)⟩
          obtain ⟨b, o, rfl, hbb, hc⟩ := HA.out (by omega)
          obtain ⟨cs, hr, hR⟩ := hc j y hy
          have hB2 := HB.out.trans (HB1.out.mono HB.out.size)
          have HR := Lib.hid (rangeAt_below hr hB2 hbb)
          have HC := Lib.hid (IH.out y (List.mem_of_getElem? hy) (far - 1) cs wr (by omega) (hR.next hB2))
          have HCL := Lib.hid (typ_one hR)
          have hf1 : ((far - 1 : Nat) : Int) = (far : Int) - 1 := by omega
          clear hc hr hR hB2 hy h0
          rw [hf1] at HC
          clear hf1
          go_wp2_with (first | ((with_reducible refine wl_sload 45 _ rfl ?hwa b (o + j * 3) cs _ rfl HR.out Tryz.underlying45 rfl ?hia ?_); (case hwa => (exact wantA rfl)); (case hia => rw [HCL.out.1]; kernel_rfl)) | (go_at_call 41; refine HC.out.mono ?_; rintro e w' ⟨z, rfl, hb⟩; have HB2 := Lib.hid hb; clear hb))
          all_goals
            go_roundg g
            case measure => omega
            case rel => exact ⟨j + 1, _, by omega, by go_num, rfl, HB1.out.trans (HB2.out.mono HB1.out.size)⟩
set_option maxHeartbeats 1000000 in
set_option maxRecDepth 100000 in
theorem tcount_any : ∀ (t : TT) (m : Nat) (cs : List Value) (w : World), m < 500 → TypAt w w.heap.size cs t →
    Calls Tryz.prog 59 #[.agg ⟨cs⟩, .int .i64 m] w fun e w' => e = .returned (.int .i64 (cntT t m : Nat)) ∧ Below w.heap.size w w' := by
  intro t
  induction t using TT.ind with
  | h k ns its ih =>
    intro m cs w hm hv
    have IH := Lib.hid ih
    obtain ⟨vn, vi, rfl, _, _, _, hi⟩ := hv.inv
    obtain ⟨A, c, rfl, hil, hA⟩ := typs_at hi
    have HA := Lib.hid hA
    have HS := Lib.hid (fun k m x => cntTL_step (l := its) (k := k) (m := m) (x := x))
    have HE := Lib.hid (fun m => cntTL_end (l := its) (m := m))
    have HLE := Lib.hid (fun x m hm => cntT_le x m hm)
    have HCE : Hid (∀ k m, 500 ≤ m → cntTL (its.drop k) m = m) := Lib.hid (fun k m h => by
      cases its.drop k with
      | nil => rw [cntTL]
      | cons a l => rw [cntTL, if_pos h])
    have H0 : Hid (cntTL (its.drop 0) (m + 1) = cntT (.mk k ns its) m) := Lib.hid (by rw [cntT]; rfl)
    clear ih hi hA hv
    generalize cntT (.mk k ns its) m = res at *
    go_enter Tryz.func59, Tryz.ntmps59
    go_upto_region 1 with (fail)
    have hb0 := box_below w (.cells ⟨[.int .i64 k, vn, .slice A its.length c]⟩ 45)
    have hz0 := box_size w (.cells ⟨[.int .i64 k, vn, .slice A its.length c]⟩ 45)
    have c5 := cell_box w ⟨[.int .i64 k, vn, .slice A its.length c]⟩ 45 2
    generalize w.alloc (.cells ⟨[.int .i64 k, vn, .slice A its.length c]⟩ 45) = W at *
    have HB := Lib.hid hb0
    have C5 := Lib.hid c5
    have HSZ := Lib.hid hz0
    clear hb0 c5 hz0
    have hm2 : (m : Int) < 500 := by omega
    go_wp2
    go_loopg [1, 5] its.length (fun g u i wr => ∃ (j m : Nat), j + g = its.length ∧ i = .int .i64 j ∧ u = .int .i64 m ∧ m ≤ 500 ∧ Below W.heap.size W wr ∧ cntTL (its.drop j) m = res)
    case atStart => exact ⟨0, m + 1, by omega, rfl, by go_num, by omega, Below.refl _ _, H0.out⟩
    case round =>
      obtain ⟨j, m, hj, rfl, rfl, hm5, hb, hres⟩ := hrel
      have HB1 := Lib.hid hb
      have HR := Lib.hid hres
      have d5 := (hb.cell (p := ⟨w.heap.size, 2, none⟩) HSZ.out).trans C5.out
      clear hb hres
      simp only [List.getElem?_toArray, List.getElem?_cons_succ, List.getElem?_cons_zero] at d5
      have hm5' : (m : Int) ≤ 500 := by omega
      cases gk with
      | zero =>
        obtain rfl : j = its.length := by omega
        have hge : ¬ ((its.length : Int) < (its.length : Int)) := by omega
        have HV := Lib.hid (HR.out.symm.trans (HE.out m))
        go_wp2
        go_ret
        exact ⟨by rw [HV.out]; go_num, HB.out.trans (HB1.out.mono HB.out.size)⟩
      | succ g =>
        have hlt : (j : Int) < (its.length : Int) := by omega
        by_cases h0 : m < 500
        · obtain ⟨y, hy⟩ : ∃ y, its[j]? = some y := ⟨_, List.getElem?_eq_getElem (by omega)⟩
          obtain ⟨b, o, rfl, hbb, hc⟩ := HA.out (by omega)
          obtain ⟨cs, hr, hR⟩ := hc j y hy
          have hB2 := HB.out.trans (HB1.out.mono HB.out.size)
          have HV := Lib.hid (HR.out.symm.trans (HS.out j m y hy))
          have HV2 := Lib.hid (HV.out.trans (if_neg (by omega)))
          have HR1 := Lib.hid (rangeAt_below hr hB2 hbb)
          have HC := Lib.hid (IH.out y (List.mem_of_getElem? hy) m cs wr h0 (hR.next hB2))
          have HCL := Lib.hid (typ_one hR)
          have hle := HLE.out y m h0
          have h0' : (m : Int) < 500 := by omega
          clear hc hr hR hB2 hy HV h0
          go_wp2_with (first | ((with_reducible refine wl_sload 45 _ rfl ?hwa b (o + j * 3) cs _ rfl HR1.out Tryz.underlying45 rfl ?hia ?_); (case hwa => (exact wantA rfl)); (case hia => rw [HCL.out.1]; kernel_rfl)) | (go_at_call 59; refine HC.out.mono ?_; rintro e w' ⟨rfl, hb⟩; have HB2 := Lib.hid hb; clear hb))
          go_roundg g
          case measure => omega
          case rel => exact ⟨j + 1, _, by omega, by go_num, rfl, hle, HB1.out.trans (HB2.out.mono HB1.out.size), HV2.out.symm⟩
        · have HV := Lib.hid (HR.out.symm.trans (HCE.out j m (by omega)))
          have h0' : ¬ ((m : Int) < 500) := by omega
          have hm500 : m = 500 := by omega
          go_wp2
          all_goals
            go_ret
            exact ⟨by rw [HV.out, hm500]; rfl, HB.out.trans (HB1.out.mono HB.out.size)⟩
set_option maxHeartbeats 1000000 in
theorem tparts_any (t : TT) (cs : List Value) (w : World) (hv : TypAt w w.heap.size cs t) : Calls Tryz.prog 42 #[.agg ⟨cs⟩] w fun e w' => e = .returned (.int .i64 (cntT t 0 : Nat)) ∧ Below w.heap.size w w' := by
  have HCL := Lib.hid (typ_one hv)
  have HV := Lib.hid hv
  clear hv
  go_enter Tryz.func42, Tryz.ntmps42
  go_upto_region 1 with (fail)
  have HB := Lib.hid (box_below w (.cells ⟨cs⟩ 45))
  have HR := Lib.hid (range_box w cs 45)
  generalize w.alloc (.cells ⟨cs⟩ 45) = W at *
  have HC := Lib.hid (tcount_any t 0 cs W (by omega) (HV.out.next HB.out))
  go_wp2_with (first | ((with_reducible refine wl_sload 45 _ rfl ?hwa w.heap.size 0 cs _ rfl HR.out Tryz.underlying45 rfl ?hia ?_); (case hwa => (exact wantA rfl)); (case hia => rw [HCL.out.1]; kernel_rfl)) | (go_at_call 59; refine HC.out.mono ?_; rintro e w' ⟨rfl, hb⟩; have HB2 := Lib.hid hb; clear hb))
  go_ret
  exact ⟨rfl, HB.out.trans (HB2.out.mono HB.out.size)⟩
set_option maxHeartbeats 1000000 in
theorem tsmall (x : TT) (cs : List Value) (w : World) (hv : TypAt w w.heap.size cs x) : Calls Tryz.prog 14 #[.agg ⟨cs⟩] w (SomeBool w) := by
  have HCL := Lib.hid (typ_one hv)
  have HV := Lib.hid hv
  clear hv
  go_enter Tryz.func14, Tryz.ntmps14
  go_upto_region 1 with (fail)
  have HB := Lib.hid (box_below w (.cells ⟨cs⟩ 45))
  have HR := Lib.hid (range_box w cs 45)
  have HSZ := Lib.hid (box_size w (.cells ⟨cs⟩ 45))
  generalize w.alloc (.cells ⟨cs⟩ 45) = W at *
  have HC := Lib.hid (tdepth x 40 cs W (by omega) (HV.out.next HB.out))
  go_wp2_with (first | ((with_reducible refine wl_sload 45 _ rfl ?hwa w.heap.size 0 cs _ rfl HR.out Tryz.underlying45 rfl ?hia ?_); (case hwa => (exact wantA rfl)); (case hia => rw [HCL.out.1]; kernel_rfl)) | (go_at_call 41; fail))
  refine HC.out.mono ?_
  rintro e w2 ⟨z, rfl, hb⟩
  have HB2 := Lib.hid (HB.out.trans (hb.mono HB.out.size))
  have HR2 := Lib.hid (rangeAt_below HR.out hb HSZ.out)
  have HC2 := Lib.hid (tparts_any x cs w2 (HV.out.next HB2.out))
  clear hb HC
  by_cases hz : z ≤ 30
  · go_wp2_with (first | ((with_reducible refine wl_sload 45 _ rfl ?hwc w.heap.size 0 cs _ rfl HR2.out Tryz.underlying45 rfl ?hic ?_); (case hwc => (exact wantA rfl)); (case hic => rw [HCL.out.1]; kernel_rfl)) | (go_at_call 42; refine HC2.out.mono ?_; rintro e w' ⟨rfl, hb⟩; have HB3 := Lib.hid hb; clear hb))
    all_goals
      go_ret
      exact ⟨_, rfl, HB2.out.trans (HB3.out.mono HB2.out.size)⟩
  · go_wp2
    all_goals
      go_ret
      exact ⟨_, rfl, HB2.out⟩
end Go.Proofs.YtpmjcbjdcjjplaaGreat
end
section
namespace Go.Proofs.YtpmjcbjdcjjplaaGreat
open Go Go.RowKit
set_option linter.unusedVariables false
set_option linter.unusedSimpArgs false
set_option maxHeartbeats 1000000 in
theorem edepth : ∀ (x : ET) (far : Nat) (cs : List Value) (w : World), far ≤ 40 → ExpAt w w.heap.size cs x → Calls Tryz.prog 45 #[.agg ⟨cs⟩, .int .i64 far] w (SomeInt w) := by
  intro x
  induction x using ET.ind with
  | h k s t ns its ih =>
    intro far cs w hfar hv
    obtain ⟨v0, v1, v2, v3, v4, v5, vn, vi, rfl, _, _, _, _, hil, hi⟩ := hv.inv
    obtain ⟨_, A, c, rfl, hA⟩ := hi
    have HA := Lib.hid hA
    have IH := Lib.hid ih
    unfold maxLen at hil
    clear hA hv ih
    go_enter Tryz.func45, Tryz.ntmps45
    go_upto_region 1 with (fail)
    have hb0 := box_below w (.cells ⟨[.int .i64 k, .string s, v0, v1, v2, v3, v4, v5, vn, .slice A its.length c]⟩ 40)
    have hz0 := box_size w (.cells ⟨[.int .i64 k, .string s, v0, v1, v2, v3, v4, v5, vn, .slice A its.length c]⟩ 40)
    have c5 := cell_box w ⟨[.int .i64 k, .string s, v0, v1, v2, v3, v4, v5, vn, .slice A its.length c]⟩ 40 9
    generalize w.alloc (.cells ⟨[.int .i64 k, .string s, v0, v1, v2, v3, v4, v5, vn, .slice A its.length c]⟩ 40) = W at *
    have HB := Lib.hid hb0
    have C5 := Lib.hid c5
    have HSZ := Lib.hid hz0
    clear hb0 c5 hz0
    go_wp2
    go_loopg [5, 6] its.length (fun g m i wr => ∃ (j : Nat) (x : Int), j + g = its.length ∧ i = .int .i64 j ∧ m = .int .i64 x ∧ Below W.heap.size W wr)
    case atStart => exact ⟨0, 0, by omega, rfl, rfl, Below.refl _ _⟩
    case round =>
      obtain ⟨j, x, hj, rfl, rfl, hb⟩ := hrel
      have HB1 := Lib.hid hb
      have d5 := (hb.cell (p := ⟨w.heap.size, 9, none⟩) HSZ.out).trans C5.out
      clear hb
      simp only [List.getElem?_toArray, List.getElem?_cons_succ, List.getElem?_cons_zero] at d5
      cases gk with
      | zero =>
        have hge : ¬ ((j : Int) < (its.length : Int)) := by omega
        go_wp2
        go_ret
        exact ⟨_, rfl, HB.out.trans (HB1.out.mono HB.out.size)⟩
      | succ g =>
        have hlt : (j : Int) < (its.length : Int) := by omega
        by_cases h0 : far = 0
        · subst h0
          go_wp2
          go_ret
          exact ⟨_, rfl, HB.out.trans (HB1.out.mono HB.out.size)⟩
        · have hpos : (0 : Int) < (far : Int) := by omega
          have hz2 : w.heap.size ≤ wr.heap.size := Nat.le_trans HB.out.size HB1.out.size
          obtain ⟨y, hy⟩ : ∃ y, its[j]? = some y := ⟨_, List.getElem?_eq_getElem (by omega)⟩
          obtain ⟨b, o, rfl, hbb, hc⟩ := HA.out (by omega)
          obtain ⟨cs, hcl, hr, hR⟩ := hc j y hy
          have hB2 := HB.out.trans (HB1.out.mono HB.out.size)
          have HR := Lib.hid (rangeAt_below hr hB2 hbb)
          have HC := Lib.hid (IH.out y (List.mem_of_getElem? hy) (far - 1) cs wr (by omega) ((hR.under hB2).more hB2.size))
          have HCL := Lib.hid hcl
          have hf1 : ((far - 1 : Nat) : Int) = (far : Int) - 1 := by omega
          clear hc hr hR hB2 hy hcl h0
          rw [hf1] at HC
          clear hf1
          go_wp2_with (first | (with_reducible refine wl_sload 40 _ rfl ?hw b (o + j * 10) cs _ rfl HR.out Tryz.underlying40 rfl ?hi ?_; (case hw => exact wantA rfl); (case hi => rw [HCL.out]; kernel_rfl)) | (go_at_call 45; refine HC.out.mono ?_; rintro e w' ⟨z, rfl, hb⟩; have HB2 := Lib.hid hb; clear hb))
          all_goals
            go_roundg g
            case measure => omega
            case rel => exact ⟨j + 1, _, by omega, by go_num, rfl, HB1.out.trans (HB2.out.mono HB1.out.size)⟩
theorem eparts_some (t : ET) (cs : List Value) (w : World) (hv : ExpAt w w.heap.size cs t) : Calls Tryz.prog 46 #[.agg ⟨cs⟩] w (SomeUpto w) :=
  (reparts_any t cs w hv).mono fun e w' ⟨h, hb⟩ => ⟨(cntE t 0 : Nat), by omega, by have := cntE_le t 0 (by omega); omega, h, hb⟩
set_option maxHeartbeats 2000000 in
theorem esmall : ∀ (x : ET) (cs : List Value) (w : World), ExpAt w w.heap.size cs x → Calls Tryz.prog 16 #[.agg ⟨cs⟩] w (SomeBool w) := by
  intro x
  induction x using ET.ind with
  | h k s t ns its ih =>
    intro cs w hv
    have HV := Lib.hid hv
    have HCL := Lib.hid (eslen hv)
    obtain ⟨v0, v1, v2, v3, v4, v5, vn, vi, hcs, _, _, ht, _, hil, hi⟩ := hv.inv
    obtain ⟨_, A, c, rfl, hA⟩ := hi
    have HA := Lib.hid hA
    have IH := Lib.hid ih
    have HT := Lib.hid ht
    have HCS := Lib.hid hcs
    unfold maxLen at hil
    clear hA hv ih ht hcs
    go_enter Tryz.func16, Tryz.ntmps16
    go_upto_region 1 with (fail)
    have HB := Lib.hid (box_below w (.cells ⟨cs⟩ 40))
    have HR := Lib.hid (range_box w cs 40)
    have HSZ := Lib.hid (box_size w (.cells ⟨cs⟩ 40))
    generalize w.alloc (.cells ⟨cs⟩ 40) = W at *
    have HR2 : Hid (∀ z : World, Below W.heap.size W z → z.rangeAt w.heap.size 0 cs ∧ z.rangeAt w.heap.size 2 [v0, v1, v2, v3, v4, v5] ∧ z.cell? ⟨w.heap.size, 9, none⟩ = some (.slice A its.length c)) := Lib.hid fun z hz => by
      have hr := rangeAt_below HR.out hz HSZ.out
      refine ⟨hr, ?_, ?_⟩
      · rw [HCS.out] at hr
        exact range_sub (p := [.int .i64 k, .string s]) (cs := [v0, v1, v2, v3, v4, v5]) (q := [vn, .slice A its.length c]) hr 2 rfl
      · rw [HCS.out] at hr
        exact range_cell hr 9 rfl
    have HC := Lib.hid (edepth (.mk k s t ns its) 40 cs W (by omega) ((HV.out.under HB.out).more HB.out.size))
    go_wp2_with (first | (with_reducible refine wl_sload 40 _ rfl ?hw w.heap.size 0 cs _ rfl HR.out Tryz.underlying40 rfl ?hi ?_; (case hw => exact wantA rfl); (case hi => rw [HCL.out]; kernel_rfl)) | (go_at_call 45; fail))
    refine HC.out.mono ?_
    rintro e w2 ⟨z, rfl, hb⟩
    have HB2 := Lib.hid hb
    have HRZ := Lib.hid (HR2.out w2 hb).1
    have HB2' := Lib.hid (HB.out.trans (hb.mono HB.out.size))
    have HC2 := Lib.hid (eparts_some (.mk k s t ns its) cs w2 ((HV.out.under HB2'.out).more HB2'.out.size))
    clear hb HC
    by_cases hz : z ≤ 30
    · have hz' : decide ((30 : Int) < z) = false := by simp; omega
      go_wp2_with (first | (with_reducible refine wl_sload 40 _ rfl ?hw w.heap.size 0 cs _ rfl HRZ.out Tryz.underlying40 rfl ?hi ?_; (case hw => exact wantA rfl); (case hi => rw [HCL.out]; kernel_rfl)) | (go_at_call 46; fail))
      refine HC2.out.mono ?_
      rintro e w3 ⟨y, hy0, hy1, rfl, hb⟩
      have HB3 := Lib.hid (HB2.out.trans (hb.mono HB2.out.size))
      have HRY := Lib.hid (HR2.out w3 HB3.out).2.1
      have HB3' := Lib.hid (HB.out.trans (HB3.out.mono HB.out.size))
      have HC3 := Lib.hid (vsmall t [v0, v1, v2, v3, v4, v5] w3 ((HT.out.under HB3'.out).more HB3'.out.size))
      clear hb HC2 HRZ HB2 HB2'
      by_cases hy : y < 500
      · have hy' : decide ((500 : Int) ≤ y) = false := by simp; omega
        go_wp2_with (first | (with_reducible refine wl_sload 38 _ rfl ?hw w.heap.size 2 [v0, v1, v2, v3, v4, v5] _ rfl HRY.out Tryz.underlying38 rfl ?hi ?_; (case hw => exact wantA rfl); (case hi => kernel_rfl)) | (go_at_call 15; fail))
        refine HC3.out.mono ?_
        rintro e w4 ⟨q, rfl, hb⟩
        have HB4 := Lib.hid (HB3.out.trans (hb.mono HB3.out.size))
        have HB4' := Lib.hid (HB.out.trans (HB4.out.mono HB.out.size))
        clear hb HC3 HRY HB3 HB3'
        cases q with
        | false =>
          go_wp2
          go_ret
          exact ⟨_, rfl, HB4'.out⟩
        | true =>
          go_wp2
          go_loopg [3] its.length (fun g i wr => ∃ j : Nat, j + g = its.length ∧ i = .int .i64 j ∧ Below W.heap.size W wr)
          case atStart => exact ⟨0, by omega, rfl, HB4.out⟩
          case round =>
            obtain ⟨j, hj, rfl, hb⟩ := hrel
            have HB5 := Lib.hid hb
            have HB5' := Lib.hid (HB.out.trans (hb.mono HB.out.size))
            have d9 := (HR2.out wr hb).2.2
            clear hb
            cases gk with
            | zero =>
              have hge : ¬ ((j : Int) < (its.length : Int)) := by omega
              go_wp2
              go_ret
              exact ⟨_, rfl, HB5'.out⟩
            | succ g =>
              have hlt : (j : Int) < (its.length : Int) := by omega
              obtain ⟨y, hy⟩ : ∃ y, its[j]? = some y := ⟨_, List.getElem?_eq_getElem (by omega)⟩
              obtain ⟨b, o, rfl, hbb, hc⟩ := HA.out (by omega)
              obtain ⟨ks, hcl, hr, hR⟩ := hc j y hy
              have HRK := Lib.hid (rangeAt_below hr HB5'.out hbb)
              have HCK := Lib.hid (IH.out y (List.mem_of_getElem? hy) ks wr ((hR.under HB5'.out).more HB5'.out.size))
              have HKL := Lib.hid hcl
              clear hc hr hR hy hcl
              go_wp2_with (first | (with_reducible refine wl_sload 40 _ rfl ?hw b (o + j * 10) ks _ rfl HRK.out Tryz.underlying40 rfl ?hi ?_; (case hw => exact wantA rfl); (case hi => rw [HKL.out]; kernel_rfl)) | (go_at_call 16; fail))
              refine HCK.out.mono ?_
              rintro e w6 ⟨q, rfl, hb⟩
              have HB6 := Lib.hid (HB5.out.trans (hb.mono HB5.out.size))
              clear hb
              cases q with
              | false =>
                go_wp2
                go_ret
                exact ⟨_, rfl, HB.out.trans (HB6.out.mono HB.out.size)⟩
              | true =>
                go_wp2
                go_roundg g
                case measure => omega
                case rel => exact ⟨j + 1, by omega, by go_num, HB6.out⟩
      · have hy' : decide ((500 : Int) ≤ y) = true := by simp; omega
        go_wp2
        go_ret
        exact ⟨_, rfl, HB3'.out⟩
    · have hz' : decide ((30 : Int) < z) = true := by simp; omega
      go_wp2
      go_ret
      exact ⟨_, rfl, HB2'.out⟩
end Go.Proofs.YtpmjcbjdcjjplaaGreat
end
section
namespace Go.Proofs.YtpmjcbjdcjjplaaGreat
open Go.RowKit
set_option linter.unusedVariables false
structure SmallM (m : ModelT) : Prop where
  order : m.order.length ≤ 200
  grants : m.grants.length ≤ 200
  vars : m.vars.length ≤ 40
  msgs : m.msgs.length ≤ 40
  nodes : m.nodes.length ≤ 100
  next : ∀ (i : Nat) x, m.nodes[i]? = some x → x.next.length ≤ 40 ∧ x.conds.length ≤ 40
  name : ∀ (i : Nat) x, m.vars[i]? = some x → x.name.size ≤ 300
def SmallPost (m : ModelT) (w : World) (e : Ending) (w' : World) : Prop := ∃ b : Bool, e = .returned (.bool b) ∧ Below w.heap.size w w' ∧ (b = true → SmallM m)
theorem SmallPost.no {m : ModelT} {w w' : World} (h : Below w.heap.size w w') : SmallPost m w (.returned (.bool false)) w' := ⟨false, rfl, h, fun h => by cases h⟩
set_option maxHeartbeats 4000000 in
set_option maxRecDepth 100000 in
theorem msmall (m : ModelT) (cs : List Value) (w : World) (hv : ModelAt w w.heap.size cs m) : Calls Tryz.prog 5 #[.agg ⟨cs⟩] w (SmallPost m w) := by
  obtain ⟨⟨u1, u2, u3, u4, u5, rfl, hu1, hu2, hu3, hu4, hu5⟩, _⟩ := hv
  obtain ⟨hl1, A1, c1, rfl, _⟩ := hu1
  obtain ⟨hl2, A2, c2, rfl, _⟩ := hu2
  obtain ⟨hl3, A3, c3, rfl, ha3⟩ := hu3
  obtain ⟨hl4, A4, c4, rfl, ha4⟩ := hu4
  obtain ⟨hl5, A5, c5, rfl, ha5⟩ := hu5
  have HA3 := Lib.hid ha3
  have HA4 := Lib.hid ha4
  have HA5 := Lib.hid ha5
  clear ha3 ha4 ha5
  obtain ⟨cs, hcs⟩ : ∃ cs, cs = [Value.int .i64 m.labels, .slice A1 m.order.length c1, .slice A2 m.grants.length c2, .slice A3 m.vars.length c3, .slice A4 m.msgs.length c4, .slice A5 m.nodes.length c5] := ⟨_, rfl⟩
  rw [← hcs]
  have HCS := Lib.hid hcs
  clear hcs
  go_enter Tryz.func5, Tryz.ntmps5
  go_upto_region 1 with (fail)
  have HB := Lib.hid (box_below w (.cells ⟨cs⟩ 27))
  have HR := Lib.hid (range_box w cs 27)
  have HSZ := Lib.hid (box_size w (.cells ⟨cs⟩ 27))
  generalize w.alloc (.cells ⟨cs⟩ 27) = W at *
  rw [HCS.out] at HR
  have HF : Hid (∀ z : World, Below W.heap.size W z → z.cell? ⟨w.heap.size, 1, none⟩ = some (.slice A1 m.order.length c1) ∧ z.cell? ⟨w.heap.size, 2, none⟩ = some (.slice A2 m.grants.length c2) ∧ z.cell? ⟨w.heap.size, 3, none⟩ = some (.slice A3 m.vars.length c3) ∧
      z.cell? ⟨w.heap.size, 4, none⟩ = some (.slice A4 m.msgs.length c4) ∧ z.cell? ⟨w.heap.size, 5, none⟩ = some (.slice A5 m.nodes.length c5)) := Lib.hid fun z hz => by
    have hr := rangeAt_below HR.out hz HSZ.out
    exact ⟨range_cell hr 1 rfl, range_cell hr 2 rfl, range_cell hr 3 rfl, range_cell hr 4 rfl, range_cell hr 5 rfl⟩
  obtain ⟨d1, d2, d3, d4, d5⟩ := HF.out W (Below.refl _ _)
  have no : ∀ {z : World}, Below W.heap.size W z → SmallPost m w (.returned (.bool false)) z := fun h => SmallPost.no (HB.out.trans (h.mono HB.out.size))
  have NO : Hid (∀ z : World, Below W.heap.size W z → SmallPost m w (.returned (.bool false)) z) := Lib.hid fun z h => no h
  clear no HR HCS
  by_cases h1 : m.order.length ≤ 200
  · have t1 : decide ((200 : Int) < m.order.length) = false := by simp; omega
    by_cases h2 : m.grants.length ≤ 200
    · have t2 : decide ((200 : Int) < m.grants.length) = false := by simp; omega
      by_cases h3 : m.vars.length ≤ 40
      · have t3 : decide ((40 : Int) < m.vars.length) = false := by simp; omega
        by_cases h4 : m.msgs.length ≤ 40
        · have t4 : decide ((40 : Int) < m.msgs.length) = false := by simp; omega
          by_cases h5 : m.nodes.length ≤ 100
          · have t5 : decide ((100 : Int) < m.nodes.length) = false := by simp; omega
            have H1 := Lib.hid h1
            have H2 := Lib.hid h2
            have H3 := Lib.hid h3
            have H4 := Lib.hid h4
            have H5 := Lib.hid h5
            clear h1 h2 h3 h4 h5
            go_wp2
            clear t1 t2 t3 t4 t5 d1 d2 d3 d4 d5
            go_loopg [3] m.vars.length (fun g i wr => ∃ j : Nat, j + g = m.vars.length ∧ i = .int .i64 j ∧ Below W.heap.size W wr ∧ ∀ (q : Nat) x, q < j → m.vars[q]? = some x → x.name.size ≤ 300)
            case atStart => exact ⟨0, by omega, rfl, Below.refl _ _, fun q x hq => by omega⟩
            case round =>
              obtain ⟨j, hj, rfl, hb, hnm⟩ := hrel
              have HNM := Lib.hid hnm
              clear hnm
              have HB1 := Lib.hid hb
              have HB1' := Lib.hid (HB.out.trans (hb.mono HB.out.size))
              obtain ⟨d1, d2, d3, d4, d5⟩ := HF.out wr hb
              clear hb d1 d2 d4 d5
              cases gk with
              | succ g =>
                have hlt : (j : Int) < (m.vars.length : Int) := by omega
                have hle : (m.vars.length : Int) ≤ 40 := by have := H3.out; omega
                obtain ⟨y, hy⟩ : ∃ y, m.vars[j]? = some y := ⟨_, List.getElem?_eq_getElem (by omega)⟩
                obtain ⟨b, o, rfl, hbb, hc⟩ := HA3.out (by omega)
                obtain ⟨ks, hcl, hr, hR⟩ := hc j y hy
                have HRK := Lib.hid (rangeAt_below hr HB1'.out hbb)
                have HKL := Lib.hid hcl
                have HVA := Lib.hid ((hR.under HB1'.out).more HB1'.out.size)
                have HY := Lib.hid hy
                clear hc hr hR hy hcl
                go_upto_region 7 with (first | ((with_reducible refine wl_sload 47 _ rfl ?hw b (o + j * 11) ks _ rfl HRK.out Tryz.underlying47 rfl ?hi ?_); (case hw => exact wantA rfl); (case hi => rw [HKL.out]; kernel_rfl)) | ((with_reducible refine wl_sbox 47 _ _ rfl ?hw wr ?z7 ks ?hwld ?hz ?hx ?hy ?hi ?h1 ?_); (case hwld => rfl); (case hx => rfl); (case hy => rfl); (case hw => exact wantA rfl); (case hz => rw [HKL.out]; rfl); (case hi => rw [HKL.out]; kernel_rfl); (case h1 => exact HVA.out.one); intro Z hbx; have HX := Lib.hid hbx; clear hbx))
                have HBZ := Lib.hid (HB1.out.trans (HX.out.below.mono HB1.out.size))
                obtain ⟨⟨ct, ci, hks, hct, hci, tA, vA⟩, _, _⟩ := HVA.out
                have dn : Z.cell? ⟨wr.heap.size, 0, none⟩ = some (.string y.name) := HX.out.cell 0 (by rw [hks]; rfl)
                have HRS := Lib.hid (HX.out.sub (Below.refl _ _) [.string y.name, .int .i64 y.label] ct ci hks 2 rfl)
                have HRV := Lib.hid (fun (u : World) (hu : Below Z.heap.size Z u) => HX.out.sub hu ([.string y.name, .int .i64 y.label] ++ ct) ci [] (by rw [hks]; simp) 5 (by simp [hct]))
                have HTA := Lib.hid tA
                have HVV := Lib.hid vA
                have HCT := Lib.hid hct
                have HCI := Lib.hid hci
                clear hks hct hci tA vA
                by_cases hn : y.name.size ≤ 300
                · have tn : decide ((300 : Int) < (y.name.size : Int)) = false := by simp; omega
                  have HN := Lib.hid hn
                  clear hn
                  go_wp2_with (first | ((with_reducible refine wl_sload 45 _ rfl ?hw wr.heap.size 2 ct _ rfl HRS.out Tryz.underlying45 rfl ?hi ?_); (case hw => exact wantA rfl); (case hi => rw [HCT.out]; kernel_rfl)) | (go_at_call 14; fail))
                  refine (tsmall _ ct Z ((HTA.out.under HX.out.below).more HX.out.below.size)).mono ?_
                  rintro e z ⟨q, rfl, hb⟩
                  have HBA := Lib.hid (HBZ.out.trans (hb.mono HBZ.out.size))
                  have HZ2 := Lib.hid hb
                  clear hb
                  cases q with
                  | false =>
                    go_wp2
                    go_ret
                    exact NO.out _ (HBA.out)
                  | true =>
                    clear HRS
                    have HRS := Lib.hid (HRV.out z HZ2.out)
                    have HW2 := Lib.hid (HX.out.below.trans (HZ2.out.mono HX.out.below.size))
                    go_wp2_with (first | ((with_reducible refine wl_sload 38 _ rfl ?hw wr.heap.size 5 ci _ rfl HRS.out Tryz.underlying38 rfl ?hi ?_); (case hw => exact wantA rfl); (case hi => rw [HCI.out]; kernel_rfl)) | (go_at_call 15; fail))
                    refine (vsmall _ ci z ((HVV.out.under HW2.out).more HW2.out.size)).mono ?_
                    rintro e z ⟨q, rfl, hb⟩
                    have HBC := Lib.hid (HBA.out.trans (hb.mono HBA.out.size))
                    have HZ2 := Lib.hid hb
                    clear hb
                    cases q with
                    | false =>
                      go_wp2
                      go_ret
                      exact NO.out _ (HBC.out)
                    | true =>
                      go_wp2
                      go_roundg g
                      case measure => omega
                      case rel =>
                        refine ⟨j + 1, by omega, by go_num, HBC.out, fun q x hq hx => ?_⟩
                        by_cases e : q = j
                        · subst e
                          have e2 := Option.some.inj (hx.symm.trans HY.out)
                          subst e2
                          exact HN.out
                        · exact HNM.out q x (by omega) hx
                · have tn : decide ((300 : Int) < (y.name.size : Int)) = true := by simp; omega
                  clear hn
                  go_wp2
                  go_ret
                  exact NO.out _ HBZ.out
              | zero =>
                have hge : ¬ ((j : Int) < (m.vars.length : Int)) := by omega
                have HNA : Hid (∀ (i : Nat) x, m.vars[i]? = some x → x.name.size ≤ 300) := Lib.hid fun i x hx => HNM.out i x (by have := (List.getElem?_eq_some_iff.1 hx).1; omega) hx
                clear HNM
                go_wp2
                clear hge hj d3
                go_loopg [5] m.msgs.length (fun g i wr => ∃ j : Nat, j + g = m.msgs.length ∧ i = .int .i64 j ∧ Below W.heap.size W wr)
                case atStart => exact ⟨0, by omega, rfl, HB1.out⟩
                case round =>
                  obtain ⟨j, hj, rfl, hb⟩ := hrel
                  have HB1 := Lib.hid hb
                  have HB1' := Lib.hid (HB.out.trans (hb.mono HB.out.size))
                  obtain ⟨d1, d2, d3, d4, d5⟩ := HF.out wr hb
                  clear hb d1 d2 d3 d5
                  cases gk with
                  | succ g =>
                    have hlt : (j : Int) < (m.msgs.length : Int) := by omega
                    have hle : (m.msgs.length : Int) ≤ 40 := by have := H4.out; omega
                    obtain ⟨y, hy⟩ : ∃ y, m.msgs[j]? = some y := ⟨_, List.getElem?_eq_getElem (by omega)⟩
                    obtain ⟨b, o, rfl, hbb, hc⟩ := HA4.out (by omega)
                    obtain ⟨ks, hcl, hr, hR⟩ := hc j y hy
                    have HRK := Lib.hid (rangeAt_below hr HB1'.out hbb)
                    have HKL := Lib.hid hcl
                    have HVA := Lib.hid ((hR.under HB1'.out).more HB1'.out.size)
                    have HY := Lib.hid hy
                    clear hc hr hR hy hcl
                    go_upto_region 13 with (first | ((with_reducible refine wl_sload 58 _ rfl ?hw b (o + j * 8) ks _ rfl HRK.out Tryz.underlying58 rfl ?hi ?_); (case hw => exact wantA rfl); (case hi => rw [HKL.out]; kernel_rfl)) | ((with_reducible refine wl_sbox 58 _ _ rfl ?hw wr ?z13 ks ?hwld ?hz ?hx ?hy ?hi ?h1 ?_); (case hwld => rfl); (case hx => rfl); (case hy => rfl); (case hw => exact wantA rfl); (case hz => rw [HKL.out]; rfl); (case hi => rw [HKL.out]; kernel_rfl); (case h1 => exact HVA.out.one); intro Z hbx; have HX := Lib.hid hbx; clear hbx))
                    have HBZ := Lib.hid (HB1.out.trans (HX.out.below.mono HB1.out.size))
                    obtain ⟨⟨ct, ci, hks, hct, hci, tA, vA⟩, _, _⟩ := HVA.out
                    have dn : Z.cell? ⟨wr.heap.size, 0, none⟩ = some (.string y.name) := HX.out.cell 0 (by rw [hks]; rfl)
                    have HRS := Lib.hid (HX.out.sub (Below.refl _ _) [.string y.name, .int .i64 y.label] ct ci hks 2 rfl)
                    have HRV := Lib.hid (fun (u : World) (hu : Below Z.heap.size Z u) => HX.out.sub hu ([.string y.name, .int .i64 y.label] ++ ct) ci [] (by rw [hks]; simp) 5 (by simp [hct]))
                    have HTA := Lib.hid tA
                    have HVV := Lib.hid vA
                    have HCT := Lib.hid hct
                    have HCI := Lib.hid hci
                    clear hks hct hci tA vA
                    by_cases hn : y.name.size ≤ 300
                    · have tn : decide ((300 : Int) < (y.name.size : Int)) = false := by simp; omega
                      have HN := Lib.hid hn
                      clear hn
                      go_wp2_with (first | ((with_reducible refine wl_sload 45 _ rfl ?hw wr.heap.size 2 ct _ rfl HRS.out Tryz.underlying45 rfl ?hi ?_); (case hw => exact wantA rfl); (case hi => rw [HCT.out]; kernel_rfl)) | (go_at_call 14; fail))
                      refine (tsmall _ ct Z ((HTA.out.under HX.out.below).more HX.out.below.size)).mono ?_
                      rintro e z ⟨q, rfl, hb⟩
                      have HBA := Lib.hid (HBZ.out.trans (hb.mono HBZ.out.size))
                      have HZ2 := Lib.hid hb
                      clear hb
                      cases q with
                      | false =>
                        go_wp2
                        go_ret
                        exact NO.out _ (HBA.out)
                      | true =>
                        clear HRS
                        have HRS := Lib.hid (HRV.out z HZ2.out)
                        have HW2 := Lib.hid (HX.out.below.trans (HZ2.out.mono HX.out.below.size))
                        go_wp2_with (first | ((with_reducible refine wl_sload 45 _ rfl ?hw wr.heap.size 5 ci _ rfl HRS.out Tryz.underlying45 rfl ?hi ?_); (case hw => exact wantA rfl); (case hi => rw [HCI.out]; kernel_rfl)) | (go_at_call 14; fail))
                        refine (tsmall _ ci z ((HVV.out.under HW2.out).more HW2.out.size)).mono ?_
                        rintro e z ⟨q, rfl, hb⟩
                        have HBC := Lib.hid (HBA.out.trans (hb.mono HBA.out.size))
                        have HZ2 := Lib.hid hb
                        clear hb
                        cases q with
                        | false =>
                          go_wp2
                          go_ret
                          exact NO.out _ (HBC.out)
                        | true =>
                          go_wp2
                          go_roundg g
                          case measure => omega
                          case rel => exact ⟨j + 1, by omega, by go_num, HBC.out⟩
                    · have tn : decide ((300 : Int) < (y.name.size : Int)) = true := by simp; omega
                      clear hn
                      go_wp2
                      go_ret
                      exact NO.out _ HBZ.out
                  | zero =>
                    have hge : ¬ ((j : Int) < (m.msgs.length : Int)) := by omega
                    go_wp2
                    clear hge hj d4
                    go_loopg [7] m.nodes.length (fun g i wr => ∃ j : Nat, j + g = m.nodes.length ∧ i = .int .i64 j ∧ Below W.heap.size W wr ∧ ∀ (q : Nat) x, q < j → m.nodes[q]? = some x → x.next.length ≤ 40 ∧ x.conds.length ≤ 40)
                    case atStart => exact ⟨0, by omega, rfl, HB1.out, fun q x hq => by omega⟩
                    case round =>
                      obtain ⟨j, hj, rfl, hb, hall⟩ := hrel
                      have HB1 := Lib.hid hb
                      have HB1' := Lib.hid (HB.out.trans (hb.mono HB.out.size))
                      obtain ⟨d1, d2, d3, d4, d5⟩ := HF.out wr hb
                      clear hb d1 d2 d3 d4
                      have HALL := Lib.hid hall
                      clear hall
                      cases gk with
                      | succ g =>
                        have hlt : (j : Int) < (m.nodes.length : Int) := by omega
                        have hle : (m.nodes.length : Int) ≤ 100 := by have := H5.out; omega
                        obtain ⟨y, hy⟩ : ∃ y, m.nodes[j]? = some y := ⟨_, List.getElem?_eq_getElem (by omega)⟩
                        obtain ⟨b, o, rfl, hbb, hc⟩ := HA5.out (by omega)
                        obtain ⟨ks, hcl, hr, hR⟩ := hc j y hy
                        have HRK := Lib.hid (rangeAt_below hr HB1'.out hbb)
                        have HKL := Lib.hid hcl
                        have HVA := Lib.hid ((hR.under HB1'.out).more HB1'.out.size)
                        have HY := Lib.hid hy
                        clear hc hr hR hy hcl
                        go_upto_region 19 with (first | ((with_reducible refine wl_sload 42 _ rfl ?hw b (o + j * 29) ks _ rfl HRK.out Tryz.underlying42 rfl ?hi ?_); (case hw => exact wantA rfl); (case hi => rw [HKL.out]; kernel_rfl)) | ((with_reducible refine wl_sbox 42 _ _ rfl ?hw wr ?z19 ks ?hwld ?hz ?hx ?hy ?hi ?h1 ?_); (case hwld => rfl); (case hx => rfl); (case hy => rfl); (case hw => exact wantA rfl); (case hz => rw [HKL.out]; rfl); (case hi => rw [HKL.out]; kernel_rfl); (case h1 => exact HVA.out.one); intro Z hbx; have HX := Lib.hid hbx; clear hbx))
                        have HBZ := Lib.hid (HB1.out.trans (HX.out.below.mono HB1.out.size))
                        obtain ⟨⟨vn, vc, ce, cb, hks, hce, hcb, hnx, hcn, _, eA, bA⟩, _⟩ := HVA.out
                        obtain ⟨_, NA, nc, rfl, _⟩ := hnx
                        have HCN := Lib.hid hcn
                        obtain ⟨_, CA, cc, rfl, hca⟩ := hcn
                        have HCA := Lib.hid hca
                        have HEA := Lib.hid eA
                        have HBA := Lib.hid bA
                        have dn : Z.cell? ⟨wr.heap.size, 2, none⟩ = some (.slice NA y.next.length nc) := HX.out.cell 2 (by rw [hks]; rfl)
                        have HDC := Lib.hid (fun (u : World) (hu : Below Z.heap.size Z u) => (HX.out.cell' hu 3 (by rw [hks]; rfl) : u.cell? ⟨wr.heap.size, 3, none⟩ = some (.slice CA y.conds.length cc)))
                        have dc := HDC.out Z (Below.refl _ _)
                        have HRE := Lib.hid (fun (u : World) (hu : Below Z.heap.size Z u) => HX.out.sub hu [.int .i64 y.kind, .int .i64 y.label, .slice NA y.next.length nc, .slice CA y.conds.length cc] ce (cb ++ [.int .i64 y.var, .int .i64 y.msg, .int .i64 y.catch_, .int .i64 y.wait, .int .i64 y.from_]) (by rw [hks]; simp) 4 rfl)
                        have HRB := Lib.hid (fun (u : World) (hu : Below Z.heap.size Z u) => HX.out.sub hu ([.int .i64 y.kind, .int .i64 y.label, .slice NA y.next.length nc, .slice CA y.conds.length cc] ++ ce) cb [.int .i64 y.var, .int .i64 y.msg, .int .i64 y.catch_, .int .i64 y.wait, .int .i64 y.from_] (by rw [hks]) 14 (by simp [hce]))
                        have HCE := Lib.hid hce
                        have HCB := Lib.hid hcb
                        clear hks hce hcb eA bA hca
                        by_cases h1 : y.next.length ≤ 40
                        · have t1 : decide ((40 : Int) < (y.next.length : Int)) = false := by simp; omega
                          have HN1 := Lib.hid h1
                          clear h1
                          by_cases h2 : y.conds.length ≤ 40
                          · have t2 : decide ((40 : Int) < (y.conds.length : Int)) = false := by simp; omega
                            have HN2 := Lib.hid h2
                            clear h2
                            have HRS := Lib.hid (HRE.out Z (Below.refl _ _))
                            go_wp2_with (first | ((with_reducible refine wl_sload 40 _ rfl ?hw wr.heap.size 4 ce _ rfl HRS.out Tryz.underlying40 rfl ?hi ?_); (case hw => exact wantA rfl); (case hi => rw [HCE.out]; kernel_rfl)) | (go_at_call 16; fail))
                            refine (esmall _ ce Z ((HEA.out.under HX.out.below).more HX.out.below.size)).mono ?_
                            rintro e z ⟨q, rfl, hb⟩
                            have HBG := Lib.hid (HBZ.out.trans (hb.mono HBZ.out.size))
                            have HZ2 := Lib.hid hb
                            clear hb
                            cases q with
                            | false =>
                              go_wp2
                              go_ret
                              exact NO.out _ (HBG.out)
                            | true =>
                              clear HRS dc dn
                              have HRS := Lib.hid (HRB.out z HZ2.out)
                              have HW2 := Lib.hid (HX.out.below.trans (HZ2.out.mono HX.out.below.size))
                              have HQ1 := Lib.hid HZ2.out
                              clear HZ2
                              go_wp2_with (first | ((with_reducible refine wl_sload 40 _ rfl ?hw wr.heap.size 14 cb _ rfl HRS.out Tryz.underlying40 rfl ?hi ?_); (case hw => exact wantA rfl); (case hi => rw [HCB.out]; kernel_rfl)) | (go_at_call 16; fail))
                              refine (esmall _ cb z ((HBA.out.under HW2.out).more HW2.out.size)).mono ?_
                              rintro e z ⟨q, rfl, hb⟩
                              have HBH := Lib.hid (HBG.out.trans (hb.mono HBG.out.size))
                              have HZ2 := Lib.hid hb
                              clear hb
                              cases q with
                              | false =>
                                go_wp2
                                go_ret
                                exact NO.out _ (HBH.out)
                              | true =>
                                have HQ2 := Lib.hid (HQ1.out.trans (HZ2.out.mono HQ1.out.size))
                                clear HRS HZ2 HQ1 HW2 HRE HRB t1 t2
                                go_wp2
                                go_loopg [9] y.conds.length (fun g i u => ∃ t : Nat, t + g = y.conds.length ∧ i = .int .i64 t ∧ Below Z.heap.size Z u)
                                case atStart => exact ⟨0, by omega, rfl, HQ2.out⟩
                                case round =>
                                  obtain ⟨t, ht, rfl, hu⟩ := hrel
                                  have HU := Lib.hid hu
                                  have HU' := Lib.hid (HBZ.out.trans (hu.mono HBZ.out.size))
                                  have dc := HDC.out wr hu
                                  clear hu
                                  cases gk with
                                  | zero =>
                                    have hge : ¬ ((t : Int) < (y.conds.length : Int)) := by omega
                                    go_wp2
                                    go_roundg g
                                    case measure => omega
                                    case rel =>
                                      refine ⟨j + 1, by omega, by go_num, HU'.out, fun q x hq hx => ?_⟩
                                      by_cases e : q = j
                                      · subst e
                                        have : x = y := Option.some.inj (hx.symm.trans HY.out)
                                        subst this
                                        exact ⟨HN1.out, HN2.out⟩
                                      · exact HALL.out q x (by omega) hx
                                  | succ g2 =>
                                    have hlt2 : (t : Int) < (y.conds.length : Int) := by omega
                                    have hle2 : (y.conds.length : Int) ≤ 40 := by have := HN2.out; omega
                                    obtain ⟨x, hx⟩ : ∃ x, y.conds[t]? = some x := ⟨_, List.getElem?_eq_getElem (by omega)⟩
                                    obtain ⟨bc, oc, rfl, hbc, hcc⟩ := HCA.out (by omega)
                                    obtain ⟨es, hel, her, heR⟩ := hcc t x hx
                                    have hZU := HX.out.below.trans (HU.out.mono HX.out.below.size)
                                    have HRS := Lib.hid (rangeAt_below her hZU hbc)
                                    have HEL := Lib.hid hel
                                    have HEV := Lib.hid ((heR.under hZU).more hZU.size)
                                    clear hcc her heR hx hel hZU
                                    go_wp2_with (first | ((with_reducible refine wl_sload 40 _ rfl ?hw bc (oc + t * 10) es _ rfl HRS.out Tryz.underlying40 rfl ?hi ?_); (case hw => exact wantA rfl); (case hi => rw [HEL.out]; kernel_rfl)) | (go_at_call 16; fail))
                                    refine (esmall _ es _ HEV.out).mono ?_
                                    rintro e z2 ⟨q, rfl, hb⟩
                                    have HU2 := Lib.hid (HU.out.trans (hb.mono HU.out.size))
                                    clear hb
                                    cases q with
                                    | false =>
                                      go_wp2
                                      go_ret
                                      exact NO.out _ (HBZ.out.trans (HU2.out.mono HBZ.out.size))
                                    | true =>
                                      go_wp2
                                      go_roundg g2
                                      case measure => omega
                                      case rel => exact ⟨t + 1, by omega, by go_num, HU2.out⟩
                          · have t2 : decide ((40 : Int) < (y.conds.length : Int)) = true := by simp; omega
                            clear h2
                            go_wp2
                            go_ret
                            exact NO.out _ HBZ.out
                        · have t1 : decide ((40 : Int) < (y.next.length : Int)) = true := by simp; omega
                          clear h1
                          go_wp2
                          go_ret
                          exact NO.out _ HBZ.out
                      | zero =>
                        have hge : ¬ ((j : Int) < (m.nodes.length : Int)) := by omega
                        go_wp2
                        go_ret
                        exact ⟨true, rfl, HB1'.out, fun _ => ⟨H1.out, H2.out, H3.out, H4.out, H5.out, fun i x hx => HALL.out i x (by have := (List.getElem?_eq_some_iff.1 hx).1; omega) hx, HNA.out⟩⟩
          · have t5 : decide ((100 : Int) < m.nodes.length) = true := by simp; omega
            clear h1 h2 h3 h4 h5
            go_wp2
            go_ret
            exact NO.out _ (Below.refl _ _)
        · have t4 : decide ((40 : Int) < m.msgs.length) = true := by simp; omega
          clear h1 h2 h3 h4
          go_wp2
          go_ret
          exact NO.out _ (Below.refl _ _)
      · have t3 : decide ((40 : Int) < m.vars.length) = true := by simp; omega
        clear h1 h2 h3
        go_wp2
        go_ret
        exact NO.out _ (Below.refl _ _)
    · have t2 : decide ((200 : Int) < m.grants.length) = true := by simp; omega
      clear h1 h2
      go_wp2
      go_ret
      exact NO.out _ (Below.refl _ _)
  · have t1 : decide ((200 : Int) < m.order.length) = true := by simp; omega
    clear h1
    go_wp2
    go_ret
    exact NO.out _ (Below.refl _ _)
end Go.Proofs.YtpmjcbjdcjjplaaGreat
end
