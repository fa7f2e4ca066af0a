/- The document's Small: of expressions, of models. -/
import Derived.Test.YtlfefikhmdbbfaaGreatSmall
namespace Go.Proofs.YtlfefikhmdbbfaaGreat
open Go.RowKit
set_option linter.unusedVariables false

set_option maxHeartbeats 2000000 in
theorem esmall : ∀ (x : ET) (cs : List Value) (w : World), ExpAt w w.heap.size cs x → Calls Tryz.prog 24 #[.agg ⟨cs⟩] w (SomeBool w) := by
  intro x
  induction x using ET.ind with
  | h k s t ns its ih =>
    intro cs w hv
    have HV := Lib.hid hv
    have HCL := Lib.hid (elen hv)
    obtain ⟨v0, v1, v2, v3, v4, v5, vn, vi, hcs, _, _, ht, _, hil, hi⟩ := hv.inv
    obtain ⟨_, A, c, rfl, hA⟩ := hi
    have HA := Lib.hid hA
    have IH := Lib.hid ih
    have HT := Lib.hid ht
    have HCS := Lib.hid hcs
    unfold maxLen at hil
    clear hA hv ih ht hcs
    go_enter Tryz.func24, Tryz.ntmps24
    go_upto_region 1 with (fail)
    have HB := Lib.hid (box_below w (.cells ⟨cs⟩ 40))
    have HR := Lib.hid (range_box w cs 40)
    have HSZ := Lib.hid (box_size w (.cells ⟨cs⟩ 40))
    generalize w.alloc (.cells ⟨cs⟩ 40) = W at *
    have HR2 : Hid (∀ z : World, Below W.heap.size W z → z.rangeAt w.heap.size 0 cs ∧ z.rangeAt w.heap.size 2 [v0, v1, v2, v3, v4, v5] ∧ z.cell? ⟨w.heap.size, 9, none⟩ = some (.slice A its.length c)) := Lib.hid fun z hz => by
      have hr := rangeAt_below HR.out hz HSZ.out
      refine ⟨hr, ?_, ?_⟩
      · rw [HCS.out] at hr
        exact range_sub (p := [.int .i64 k, .string s]) (cs := [v0, v1, v2, v3, v4, v5]) (q := [vn, .slice A its.length c]) hr 2 rfl
      · rw [HCS.out] at hr
        exact range_cell hr 9 rfl
    have HC := Lib.hid (edepth (.mk k s t ns its) 40 cs W (by omega) ((HV.out.under HB.out).more HB.out.size))
    go_wp2_with (first | (with_reducible refine wl_sload 40 _ rfl ?hw w.heap.size 0 cs _ rfl HR.out Tryz.underlying40 rfl ?hi ?_; (case hw => first | exact wanted_none rfl | exact wanted_if rfl rfl rfl rfl); (case hi => rw [HCL.out]; kernel_rfl)) | (go_at_call 53; fail))
    refine HC.out.mono ?_
    rintro e w2 ⟨z, rfl, hb⟩
    have HB2 := Lib.hid hb
    have HRZ := Lib.hid (HR2.out w2 hb).1
    have HB2' := Lib.hid (HB.out.trans (hb.mono HB.out.size))
    have HC2 := Lib.hid (eparts (.mk k s t ns its) cs w2 ((HV.out.under HB2'.out).more HB2'.out.size))
    clear hb HC
    by_cases hz : z ≤ 30
    · have hz' : decide ((30 : Int) < z) = false := by simp; omega
      go_wp2_with (first | (with_reducible refine wl_sload 40 _ rfl ?hw w.heap.size 0 cs _ rfl HRZ.out Tryz.underlying40 rfl ?hi ?_; (case hw => first | exact wanted_none rfl | exact wanted_if rfl rfl rfl rfl); (case hi => rw [HCL.out]; kernel_rfl)) | (go_at_call 54; fail))
      refine HC2.out.mono ?_
      rintro e w3 ⟨y, hy0, hy1, rfl, hb⟩
      have HB3 := Lib.hid (HB2.out.trans (hb.mono HB2.out.size))
      have HRY := Lib.hid (HR2.out w3 HB3.out).2.1
      have HB3' := Lib.hid (HB.out.trans (HB3.out.mono HB.out.size))
      have HC3 := Lib.hid (vsmall t [v0, v1, v2, v3, v4, v5] w3 ((HT.out.under HB3'.out).more HB3'.out.size))
      clear hb HC2 HRZ HB2 HB2'
      by_cases hy : y < 500
      · have hy' : decide ((500 : Int) ≤ y) = false := by simp; omega
        go_wp2_with (first | (with_reducible refine wl_sload 38 _ rfl ?hw w.heap.size 2 [v0, v1, v2, v3, v4, v5] _ rfl HRY.out Tryz.underlying38 rfl ?hi ?_; (case hw => first | exact wanted_none rfl | exact wanted_if rfl rfl rfl rfl); (case hi => kernel_rfl)) | (go_at_call 23; fail))
        refine HC3.out.mono ?_
        rintro e w4 ⟨q, rfl, hb⟩
        have HB4 := Lib.hid (HB3.out.trans (hb.mono HB3.out.size))
        have HB4' := Lib.hid (HB.out.trans (HB4.out.mono HB.out.size))
        clear hb HC3 HRY HB3 HB3'
        cases q with
        | false =>
          go_wp2
          go_ret
          exact ⟨_, rfl, HB4'.out⟩
        | true =>
          go_wp2
          go_loopg [3] its.length (fun g i wr => ∃ j : Nat, j + g = its.length ∧ i = .int .i64 j ∧ Below W.heap.size W wr)
          case atStart => exact ⟨0, by omega, rfl, HB4.out⟩
          case round =>
            obtain ⟨j, hj, rfl, hb⟩ := hrel
            have HB5 := Lib.hid hb
            have HB5' := Lib.hid (HB.out.trans (hb.mono HB.out.size))
            have d9 := (HR2.out wr hb).2.2
            clear hb
            cases gk with
            | zero =>
              have hge : ¬ ((j : Int) < (its.length : Int)) := by omega
              go_wp2
              go_ret
              exact ⟨_, rfl, HB5'.out⟩
            | succ g =>
              have hlt : (j : Int) < (its.length : Int) := by omega
              obtain ⟨y, hy⟩ : ∃ y, its[j]? = some y := ⟨_, List.getElem?_eq_getElem (by omega)⟩
              obtain ⟨b, o, rfl, hbb, hc⟩ := HA.out (by omega)
              obtain ⟨ks, hcl, hr, hR⟩ := hc j y hy
              have HRK := Lib.hid (rangeAt_below hr HB5'.out hbb)
              have HCK := Lib.hid (IH.out y (List.mem_of_getElem? hy) ks wr ((hR.under HB5'.out).more HB5'.out.size))
              have HKL := Lib.hid hcl
              clear hc hr hR hy hcl
              go_wp2_with (first | (with_reducible refine wl_sload 40 _ rfl ?hw b (o + j * 10) ks _ rfl HRK.out Tryz.underlying40 rfl ?hi ?_; (case hw => first | exact wanted_none rfl | exact wanted_if rfl rfl rfl rfl); (case hi => rw [HKL.out]; kernel_rfl)) | (go_at_call 24; fail))
              refine HCK.out.mono ?_
              rintro e w6 ⟨q, rfl, hb⟩
              have HB6 := Lib.hid (HB5.out.trans (hb.mono HB5.out.size))
              clear hb
              cases q with
              | false =>
                go_wp2
                go_ret
                exact ⟨_, rfl, HB.out.trans (HB6.out.mono HB.out.size)⟩
              | true =>
                go_wp2
                go_roundg g
                case measure => omega
                case rel => exact ⟨j + 1, by omega, by go_num, HB6.out⟩
      · have hy' : decide ((500 : Int) ≤ y) = true := by simp; omega
        go_wp2
        go_ret
        exact ⟨_, rfl, HB3'.out⟩
    · have hz' : decide ((30 : Int) < z) = true := by simp; omega
      go_wp2
      go_ret
      exact ⟨_, rfl, HB2'.out⟩
end Go.Proofs.YtlfefikhmdbbfaaGreat
