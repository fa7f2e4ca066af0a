/- The sizes of values: each of the document's measures answers. -/
import Derived.Test.YtieciegfloldhaaGreatDoorWalk
namespace Go.Proofs.YtieciegfloldhaaGreatDoor
open Go.RowKit
set_option linter.unusedVariables false

def SomeUpto (w : World) (e : Ending) (w' : World) : Prop := ∃ n : Int, 0 ≤ n ∧ n ≤ 500 ∧ e = .returned (.int .i64 n) ∧ Below w.heap.size w w'

set_option maxHeartbeats 1000000 in
theorem vdepth : ∀ (x : VT) (far : Nat) (cs : List Value) (w : World), far ≤ 40 → ValAt w w.heap.size cs x → Calls Tryz.prog 28 #[.agg ⟨cs⟩, .int .i64 far] w (SomeInt w) := by
  intro x
  induction x using VT.ind with
  | h k n f s ns its ih =>
    intro far cs w hfar hv
    obtain ⟨vn, vi, rfl, _, _, _, _, _, hil, hi⟩ := hv.inv
    obtain ⟨_, A, c, rfl, hA⟩ := hi
    have HA := Lib.hid hA
    have IH := Lib.hid ih
    unfold maxLen at hil
    clear hA hv ih
    go_enter Tryz.func28, Tryz.ntmps28
    go_upto_region 1 with (fail)
    have hb0 := box_below w (.cells ⟨[.int .i64 k, .int .i64 n, .float .f64 f, .string s, vn, .slice A its.length c]⟩ 26)
    have hz0 := box_size w (.cells ⟨[.int .i64 k, .int .i64 n, .float .f64 f, .string s, vn, .slice A its.length c]⟩ 26)
    have c5 := cell_box w ⟨[.int .i64 k, .int .i64 n, .float .f64 f, .string s, vn, .slice A its.length c]⟩ 26 5
    generalize w.alloc (.cells ⟨[.int .i64 k, .int .i64 n, .float .f64 f, .string s, vn, .slice A its.length c]⟩ 26) = W at *
    have HB := Lib.hid hb0
    have C5 := Lib.hid c5
    have HSZ := Lib.hid hz0
    clear hb0 c5 hz0
    go_wp2
    go_loopg [5, 6] its.length (fun g m i wr => ∃ (j : Nat) (x : Int), j + g = its.length ∧ i = .int .i64 j ∧ m = .int .i64 x ∧ Below W.heap.size W wr)
    case atStart => exact ⟨0, 0, by omega, rfl, rfl, Below.refl _ _⟩
    case round =>
      obtain ⟨j, x, hj, rfl, rfl, hb⟩ := hrel
      have HB1 := Lib.hid hb
      have d5 := (hb.cell (p := ⟨w.heap.size, 5, none⟩) HSZ.out).trans C5.out
      clear hb
      simp only [List.getElem?_toArray, List.getElem?_cons_succ, List.getElem?_cons_zero] at d5
      cases gk with
      | zero =>
        have hge : ¬ ((j : Int) < (its.length : Int)) := by omega
        go_wp2
        go_ret
        exact ⟨_, rfl, HB.out.trans (HB1.out.mono HB.out.size)⟩
      | succ g =>
        have hlt : (j : Int) < (its.length : Int) := by omega
        by_cases h0 : far = 0
        · subst h0
          go_wp2
          go_ret
          exact ⟨_, rfl, HB.out.trans (HB1.out.mono HB.out.size)⟩
        · have hpos : (0 : Int) < (far : Int) := by omega
          have hz2 : w.heap.size ≤ wr.heap.size := Nat.le_trans HB.out.size HB1.out.size
          obtain ⟨y, hy⟩ : ∃ y, its[j]? = some y := ⟨_, List.getElem?_eq_getElem (by omega)⟩
          obtain ⟨b, o, rfl, hbb, hc⟩ := HA.out (by omega)
          obtain ⟨cs, hcl, hr, hR⟩ := hc j y hy
          have hB2 := HB.out.trans (HB1.out.mono HB.out.size)
          have HR := Lib.hid (rangeAt_below hr hB2 hbb)
          have HC := Lib.hid (IH.out y (List.mem_of_getElem? hy) (far - 1) cs wr (by omega) ((hR.under hB2).more hB2.size))
          have HCL := Lib.hid hcl
          have hf1 : ((far - 1 : Nat) : Int) = (far : Int) - 1 := by omega
          clear hc hr hR hB2 hy hcl h0
          rw [hf1] at HC
          clear hf1
          go_wp2_with (first | (with_reducible refine wl_sload 26 _ rfl ?hw b (o + j * 6) cs _ rfl HR.out Tryz.underlying26 rfl ?hi ?_; (case hw => first | exact wanted_none rfl | exact wanted_if rfl rfl rfl rfl); (case hi => rw [HCL.out]; kernel_rfl)) | (go_at_call 28; refine HC.out.mono ?_; rintro e w' ⟨z, rfl, hb⟩; have HB2 := Lib.hid hb; clear hb))
          all_goals
            go_roundg g
            case measure => omega
            case rel => exact ⟨j + 1, _, by omega, by go_num, rfl, HB1.out.trans (HB2.out.mono HB1.out.size)⟩

set_option maxHeartbeats 1000000 in
theorem vcount : ∀ (x : VT) (m : Int) (cs : List Value) (w : World), 0 ≤ m → m < 500 → ValAt w w.heap.size cs x → Calls Tryz.prog 34 #[.agg ⟨cs⟩, .int .i64 m] w (SomeUpto w) := by
  intro x
  induction x using VT.ind with
  | h k n f s ns its ih =>
    intro m cs w hm0 hm1 hv
    obtain ⟨vn, vi, rfl, _, _, _, _, _, hil, hi⟩ := hv.inv
    obtain ⟨_, A, c, rfl, hA⟩ := hi
    have HA := Lib.hid hA
    have IH := Lib.hid ih
    unfold maxLen at hil
    clear hA hv ih
    go_enter Tryz.func34, Tryz.ntmps34
    go_upto_region 1 with (fail)
    have hb0 := box_below w (.cells ⟨[.int .i64 k, .int .i64 n, .float .f64 f, .string s, vn, .slice A its.length c]⟩ 26)
    have hz0 := box_size w (.cells ⟨[.int .i64 k, .int .i64 n, .float .f64 f, .string s, vn, .slice A its.length c]⟩ 26)
    have c5 := cell_box w ⟨[.int .i64 k, .int .i64 n, .float .f64 f, .string s, vn, .slice A its.length c]⟩ 26 5
    generalize w.alloc (.cells ⟨[.int .i64 k, .int .i64 n, .float .f64 f, .string s, vn, .slice A its.length c]⟩ 26) = W at *
    have HB := Lib.hid hb0
    have C5 := Lib.hid c5
    have HSZ := Lib.hid hz0
    clear hb0 c5 hz0
    go_wp2
    go_loopg [1, 5] its.length (fun g u i wr => ∃ (j : Nat) (x : Int), j + g = its.length ∧ i = .int .i64 j ∧ u = .int .i64 x ∧ 0 ≤ x ∧ x ≤ 500 ∧ Below W.heap.size W wr)
    case atStart => exact ⟨0, m + 1, by omega, rfl, rfl, by omega, by omega, Below.refl _ _⟩
    case round =>
      obtain ⟨j, x, hj, rfl, rfl, hx0, hx1, hb⟩ := hrel
      have HB1 := Lib.hid hb
      have d5 := (hb.cell (p := ⟨w.heap.size, 5, none⟩) HSZ.out).trans C5.out
      clear hb
      simp only [List.getElem?_toArray, List.getElem?_cons_succ, List.getElem?_cons_zero] at d5
      cases gk with
      | zero =>
        have hge : ¬ ((j : Int) < (its.length : Int)) := by omega
        go_wp2
        all_goals
          go_ret
          exact ⟨_, by omega, by omega, rfl, HB.out.trans (HB1.out.mono HB.out.size)⟩
      | succ g =>
        have hlt : (j : Int) < (its.length : Int) := by omega
        by_cases h0 : x < 500
        · have hz2 : w.heap.size ≤ wr.heap.size := Nat.le_trans HB.out.size HB1.out.size
          obtain ⟨y, hy⟩ : ∃ y, its[j]? = some y := ⟨_, List.getElem?_eq_getElem (by omega)⟩
          obtain ⟨b, o, rfl, hbb, hc⟩ := HA.out (by omega)
          obtain ⟨cs, hcl, hr, hR⟩ := hc j y hy
          have hB2 := HB.out.trans (HB1.out.mono HB.out.size)
          have HR := Lib.hid (rangeAt_below hr hB2 hbb)
          have HC := Lib.hid (IH.out y (List.mem_of_getElem? hy) x cs wr hx0 h0 ((hR.under hB2).more hB2.size))
          have HCL := Lib.hid hcl
          clear hc hr hR hB2 hy hcl
          go_wp2_with (first | (with_reducible refine wl_sload 26 _ rfl ?hw b (o + j * 6) cs _ rfl HR.out Tryz.underlying26 rfl ?hi ?_; (case hw => first | exact wanted_none rfl | exact wanted_if rfl rfl rfl rfl); (case hi => rw [HCL.out]; kernel_rfl)) | (go_at_call 34; refine HC.out.mono ?_; rintro e w' ⟨z, hz0, hz1, rfl, hb⟩; have HB2 := Lib.hid hb; clear hb))
          go_roundg g
          case measure => omega
          case rel => exact ⟨j + 1, _, by omega, by go_num, rfl, hz0, hz1, HB1.out.trans (HB2.out.mono HB1.out.size)⟩
        · go_wp2
          all_goals
            go_ret
            exact ⟨_, by omega, by omega, rfl, HB.out.trans (HB1.out.mono HB.out.size)⟩

theorem vlen {w : World} {B : Nat} {cs : List Value} {x : VT} (h : ValAt w B cs x) : cs.length = 6 := by
  cases h; rfl
set_option maxHeartbeats 1000000 in
theorem vparts (x : VT) (cs : List Value) (w : World) (hv : ValAt w w.heap.size cs x) : Calls Tryz.prog 11 #[.agg ⟨cs⟩] w (SomeUpto w) := by
  have HCL := Lib.hid (vlen hv)
  have HV := Lib.hid hv
  clear hv
  go_enter Tryz.func11, Tryz.ntmps11
  go_upto_region 1 with (fail)
  have HB := Lib.hid (box_below w (.cells ⟨cs⟩ 26))
  have HR := Lib.hid (range_box w cs 26)
  generalize w.alloc (.cells ⟨cs⟩ 26) = W at *
  have HC := Lib.hid (vcount x 0 cs W (by omega) (by omega) ((HV.out.under HB.out).more HB.out.size))
  go_wp2_with (first | (with_reducible refine wl_sload 26 _ rfl ?hw w.heap.size 0 cs _ rfl HR.out Tryz.underlying26 rfl ?hi ?_; (case hw => first | exact wanted_none rfl | exact wanted_if rfl rfl rfl rfl); (case hi => rw [HCL.out]; kernel_rfl)) | (go_at_call 34; refine HC.out.mono ?_; rintro e w' ⟨z, hz0, hz1, rfl, hb⟩; have HB2 := Lib.hid hb; clear hb))
  go_ret
  exact ⟨z, hz0, hz1, rfl, HB.out.trans (HB2.out.mono HB.out.size)⟩

set_option maxHeartbeats 1000000 in
theorem vsmall (x : VT) (cs : List Value) (w : World) (hv : ValAt w w.heap.size cs x) : Calls Tryz.prog 6 #[.agg ⟨cs⟩] w (SomeBool w) := by
  have HCL := Lib.hid (vlen hv)
  have HV := Lib.hid hv
  clear hv
  go_enter Tryz.func6, Tryz.ntmps6
  go_upto_region 1 with (fail)
  have HB := Lib.hid (box_below w (.cells ⟨cs⟩ 26))
  have HR := Lib.hid (range_box w cs 26)
  have HSZ := Lib.hid (box_size w (.cells ⟨cs⟩ 26))
  generalize w.alloc (.cells ⟨cs⟩ 26) = W at *
  have HC := Lib.hid (vdepth x 40 cs W (by omega) ((HV.out.under HB.out).more HB.out.size))
  go_wp2_with (first | (with_reducible refine wl_sload 26 _ rfl ?hw w.heap.size 0 cs _ rfl HR.out Tryz.underlying26 rfl ?hi ?_; (case hw => first | exact wanted_none rfl | exact wanted_if rfl rfl rfl rfl); (case hi => rw [HCL.out]; kernel_rfl)) | (go_at_call 28; fail))
  refine HC.out.mono ?_
  rintro e w2 ⟨z, rfl, hb⟩
  have HB2 := Lib.hid (HB.out.trans (hb.mono HB.out.size))
  have HR2 := Lib.hid (rangeAt_below HR.out hb HSZ.out)
  have HC2 := Lib.hid (vparts x cs w2 ((HV.out.under HB2.out).more HB2.out.size))
  clear hb HC
  by_cases hz : z ≤ 30
  · go_wp2_with (first | (with_reducible refine wl_sload 26 _ rfl ?hw w.heap.size 0 cs _ rfl HR2.out Tryz.underlying26 rfl ?hi ?_; (case hw => first | exact wanted_none rfl | exact wanted_if rfl rfl rfl rfl); (case hi => rw [HCL.out]; kernel_rfl)) | (go_at_call 11; refine HC2.out.mono ?_; rintro e w' ⟨y, hy0, hy1, rfl, hb⟩; have HB3 := Lib.hid hb; clear hb))
    all_goals
      go_ret
      exact ⟨_, rfl, HB2.out.trans (HB3.out.mono HB2.out.size)⟩
  · go_wp2
    all_goals
      go_ret
      exact ⟨_, rfl, HB2.out⟩

end Go.Proofs.YtieciegfloldhaaGreatDoor
