/- THE STATEMENT RegionChain is proved: for every model and every root the Go function RegionChain returns true, and its arguments read afterwards as before; without conditions. -/
import Derived.Test.YtedajbpjokmlaaaMat
import Derived.Test.YtedajbpjokmlaaaOpen
namespace Go.Proofs.Ytedajbpjokmlaaa
open Go.ChangeShapes Go.WideShapes Go.ChangeAt Go.RowKit Go
set_option linter.unusedVariables false

set_option maxHeartbeats 8000000 in
set_option maxRecDepth 100000 in
theorem regionChain_walk (w : World) (cs : List Value) (m : ModelT) (hv : ModelAt w w.heap.size cs m) (a : Int) (_wa : (Lit.int .i64 a).wf = true) :
    Calls Try.prog 5 #[.agg ⟨cs⟩, .int .i64 a] w fun e w' => e = .returned (.bool true) ∧ Below w.heap.size w w' := by
  have HM := Lib.hid hv
  obtain ⟨c1, c2, c3, c4, v5, rfl, hg⟩ := hv.graph
  have hgg : GraphAt w w.heap.size v5 (gOf m) := hg
  have HSG := Lib.hid (fun (h : SmallM m) => small_g h)
  generalize gOf m = g at *
  obtain ⟨c0, hc0⟩ : ∃ c0, c0 = Value.int .i64 m.labels := ⟨_, rfl⟩
  rw [← hc0] at HM
  rw [← hc0]
  clear hg hc0
  have HG := Lib.hid hgg
  obtain ⟨hgl, A, c, rfl, hA⟩ := hgg
  clear hA hgl
  go_enter Try.func5, Try.ntmps5
  go_upto_region 1 with (fail)
  have HB1 := Lib.hid (box_below w (.cells ⟨[c0, c1, c2, c3, c4, .slice A g.length c]⟩ 27))
  have HS1 := Lib.hid (box_size w (.cells ⟨[c0, c1, c2, c3, c4, .slice A g.length c]⟩ 27))
  have HC1 := Lib.hid (cells_box w [c0, c1, c2, c3, c4, .slice A g.length c] 27 5 _ rfl)
  have HR1 := Lib.hid (range_box w [c0, c1, c2, c3, c4, .slice A g.length c] 27)
  generalize w.alloc (.cells ⟨[c0, c1, c2, c3, c4, .slice A g.length c]⟩ 27) = W1 at *
  go_wp2_with (go_at_call 10; fail)
  refine (awake15 _).mono ?_
  rintro e w2 ⟨rfl, hb2⟩
  have HR2 := Lib.hid (rangeAt_below HR1.out hb2 HS1.out)
  have HBW2 := Lib.hid (HB1.out.trans (hb2.mono HB1.out.size))
  have HS2 := Lib.hid (Nat.lt_of_lt_of_le HS1.out hb2.size)
  have HC2 := Lib.hid ((hb2.cell (p := ⟨w.heap.size, 5, none⟩) HS1.out).trans HC1.out)
  clear HR1 HB1 HS1 HC1 hb2
  go_wp2_with (first | ((with_reducible refine wl_sload 27 _ rfl ?hw2 w.heap.size 0 [c0, c1, c2, c3, c4, .slice A g.length c] _ rfl HR2.out Try.underlying27 rfl ?hi2 ?_); (case hw2 => first | exact wanted_none rfl | exact wanted_if rfl rfl rfl rfl); (case hi2 => kernel_rfl)) | (go_at_call 11; fail))
  refine (msmall m _ w2 (HM.out.next HBW2.out)).mono ?_
  rintro e w3 ⟨b, rfl, hb3, hsm⟩
  have HR3 := Lib.hid (rangeAt_below HR2.out hb3 HS2.out)
  have HBW3 := Lib.hid (HBW2.out.trans (hb3.mono HBW2.out.size))
  have HS3 := Lib.hid (Nat.lt_of_lt_of_le HS2.out hb3.size)
  have HC3 := Lib.hid ((hb3.cell (p := ⟨w.heap.size, 5, none⟩) HS2.out).trans HC2.out)
  clear HR2 HBW2 HS2 HC2 hb3
  cases b with
  | false =>
    clear hsm
    go_wp2_with (go_at_call 10; fail)
    refine (awake15 _).mono ?_
    rintro e w4 ⟨rfl, hb4⟩
    have HBW4 := Lib.hid (HBW3.out.trans (hb4.mono HBW3.out.size))
    clear hb4
    go_wp2
    go_ret
    exact ⟨rfl, HBW4.out⟩
  | true =>
    have d5 := HC3.out
    have hsg := HSG.out (hsm rfl)
    have HN : Hid (g.length ≤ 100) := Lib.hid hsg.1
    have HEN : Hid ((edgesOf g).length ≤ 4100) := Lib.hid hsg.2
    have HL1 : Hid ((edgesOf g).length ≤ 10000) := Lib.hid (by have := HEN.out; omega)
    have HL2 : Hid (g.length ≤ 10000) := Lib.hid (by have := HN.out; omega)
    have HL3 : Hid (g.length ≤ 5000) := Lib.hid (by have := HN.out; omega)
    have HG3 := Lib.hid (HG.out.next HBW3.out)
    have hn2 : (g.length : Int) ≤ 100 := by have := HN.out; omega
    clear hsg hsm HG HSG
    by_cases hn0 : g.length = 0
    · have t0 : ((g.length : Int) == 0) = true := by rw [hn0]; rfl
      clear hn0
      go_wp2_with (go_at_call 10; fail)
      refine (awake15 _).mono ?_
      rintro e w4 ⟨rfl, hb4⟩
      have HBW4 := Lib.hid (HBW3.out.trans (hb4.mono HBW3.out.size))
      clear hb4
      go_wp2
      go_ret
      exact ⟨rfl, HBW4.out⟩
    · have t0 : ((g.length : Int) == 0) = false := by rw [beq_eq_false_iff_ne]; omega
      have hn1 : (g.length : Int) ≠ 0 := by omega
      obtain ⟨r, hr, hrn⟩ := root_mod a hn0 HN.out
      go_upto_region 4 with (fail)
      rw [hr]
      clear t0 hn0 d5 hr
      have hr2 : (r : Int) < (g.length : Int) := by omega
      have HCO := Lib.hid (dominators_any g (r : Int) c0 c1 c2 c3 c4 (.slice A g.length c) w3 HG3.out HL1.out HL3.out)
      go_upto_region 5 with (first | ((with_reducible refine wl_sload 27 _ rfl ?hw2 w.heap.size 0 [c0, c1, c2, c3, c4, .slice A g.length c] _ rfl HR3.out Try.underlying27 rfl ?hi2 ?_); (case hw2 => first | exact wanted_none rfl | exact wanted_if rfl rfl rfl rfl); (case hi2 => kernel_rfl)) | (go_at_call 13; refine HCO.out.mono ?_; rintro e w4 ⟨sb, C, V, rfl, hst, hb, _⟩; have HST := Lib.hid hst; have HB4 := Lib.hid hb; clear hst hb))
      have HR4 := Lib.hid (rangeAt_below HR3.out HB4.out HS3.out)
      have HBW4 := Lib.hid (HBW3.out.trans (HB4.out.mono HBW3.out.size))
      have HS4 := Lib.hid (Nat.lt_of_lt_of_le HS3.out HB4.out.size)
      have HC4 := Lib.hid ((HB4.out.cell (p := ⟨w.heap.size, 5, none⟩) HS3.out).trans HC3.out)
      have HG4 := Lib.hid (HG3.out.next HB4.out)
      clear HR3 HBW3 HS3 HC3 HG3
      clear HCO
      have d5 := HC4.out
      obtain ⟨ib, hi, hz0, hz1, hz2⟩ := info_parts' info_bool
      have HIB := Lib.hid hi
      have HZ0 := Lib.hid hz0
      have HZ1 := Lib.hid hz1
      have HZ2 := Lib.hid hz2
      clear hi hz0 hz1 hz2
      obtain ⟨iR, hi, hz0, hz1, hz2⟩ := info_parts' info_bools
      have HIR := Lib.hid hi
      have HY0 := Lib.hid hz0
      have HY1 := Lib.hid hz1
      have HY2 := Lib.hid hz2
      clear hi hz0 hz1 hz2
      have HDA := Lib.hid (fun i k x h => domM_at (g := g) (r := r) (i := i) (k := k) (x := x) h)
      have HDL := Lib.hid (fun i => doms_len g (r : Int) i)
      have HDM : Hid (∀ i j, domM g r i j = (domsOf g (r : Int) i).contains (j : Int)) := Lib.hid fun i j => rfl
      go_upto_region 8 with ((with_reducible refine wl_make 43 44 _ _ rfl ?hw iR (.slice none 0 0) 24 g.length Try.underlying43 HIR.out HY0.out HY1.out HY2.out (by decide) rfl ?hx ?hy HL2.out ?_); (case hw => first | exact wanted_none rfl | exact wanted_if rfl rfl rfl rfl); (case hx => rfl); (case hy => rfl); intro w5 hrow htag hb1 hs1; have HROW := Lib.hid hrow; have HBM := Lib.hid hb1; have HSM := Lib.hid hs1; clear hrow htag hb1 hs1)
      clear d5
      obtain ⟨mb, hmb⟩ : ∃ mb, w4.heap.size = mb := ⟨_, rfl⟩
      rw [hmb] at HROW HSM
      have HMB : Hid (w.heap.size < mb ∧ sb < mb) := Lib.hid ⟨by have := HS4.out; omega, by have := HST.out.lt; omega⟩
      have HB5 := HBM
      have HGK : Hid (GraphAt w4 mb (.slice A g.length c) g) := Lib.hid (hmb ▸ HG4.out)
      have HB45 : Hid (Below mb w4 w5) := Lib.hid (hmb ▸ HB5.out)
      have HST5 := Lib.hid (HST.out.below HB5.out)
      have HRD : Hid (∀ i, i < g.length → ∃ Ad cd, V i = .slice Ad (domsOf g (r : Int) i).length cd ∧ (0 < (domsOf g (r : Int) i).length → ∃ b o, Ad = some ⟨b, o, none⟩ ∧ b < mb ∧ ∀ (j : Nat) x, (domsOf g (r : Int) i)[j]? = some x → w5.cell? ⟨b, o + j, none⟩ = some (.int .i64 x))) := Lib.hid fun i hi => by
        obtain ⟨_, Ad, cd, h1, h2⟩ := (HST.out.ints hi (by have := HDL.out i; have := HN.out; omega)).ints
        refine ⟨Ad, cd, h1, fun h0 => ?_⟩
        obtain ⟨b, o, h3, h4, h5⟩ := h2 h0
        exact ⟨b, o, h3, by omega, fun j x hx => (HB5.out.cell (p := ⟨b, o + j, none⟩) h4).trans (h5 j x hx)⟩
      have HR5 := Lib.hid (rangeAt_below HR4.out HB5.out HS4.out)
      have HBW5 := Lib.hid (HBW4.out.trans (HB5.out.mono HBW4.out.size))
      have HS5 := Lib.hid (Nat.lt_of_lt_of_le HS4.out HB5.out.size)
      have HC5 := Lib.hid ((HB5.out.cell (p := ⟨w.heap.size, 5, none⟩) HS4.out).trans HC4.out)
      have HG5 := Lib.hid (HG4.out.next HB5.out)
      clear HR4 HBW4 HS4 HC4 HG4
      have HMS : Hid (mb < w5.heap.size) := Lib.hid (by have := HSM.out; omega)
      rw [hmb]
      clear hmb HST HB4 HB5 HBM
      have HMT := Lib.hid (MatAt.row0 (M := domM g r) HROW.out HSM.out)
      clear HROW HSM
      go_wp2
      go_loopg [53] g.length (fun q x u => ∃ (i : Nat) (V : Nat → Value), i + q = g.length ∧ x = .int .i64 i ∧ MatAt u mb g.length i V (domM g r) ∧ But w5 u mb mb)
      case atStart => exact ⟨0, _, by omega, rfl, HMT.out, But.refl _ _ _⟩
      case round =>
        obtain ⟨i, VM, hi, rfl, hmt, hbut⟩ := hrel
        clear HMT
        have HMT := Lib.hid hmt
        have HBU := Lib.hid hbut
        clear hmt hbut
        have HBW := Lib.hid (HBW5.out.trans (HBU.out.below HBW5.out.size (Nat.le_of_lt HMB.out.1) (Nat.le_of_lt HMB.out.1)))
        cases gk with
        | zero =>
          obtain rfl : i = g.length := by omega
          have hge : ¬ ((g.length : Int) < (g.length : Int)) := by omega
          have HBK := Lib.hid (HB45.out.trans (HBU.out.below (Nat.le_of_lt HMS.out) (Nat.le_refl _) (Nat.le_refl _)))
          have HB5W := Lib.hid (HBU.out.below (B := mb) (Nat.le_of_lt HMS.out) (Nat.le_refl _) (Nat.le_refl _))
          go_upto_region 21 with ((with_reducible refine wl_make 44 4 _ _ rfl ?hw ib (.bool false) 1 g.length Try.underlying44 HIB.out HZ0.out HZ1.out HZ2.out (by decide) rfl ?hx ?hy HL2.out ?_); (case hw => first | exact wanted_none rfl | exact wanted_if rfl rfl rfl rfl); (case hx => rfl); (case hy => rfl); intro w8 hrow htag hb1 hs1; have HROW := Lib.hid hrow; have HBM := Lib.hid hb1; have HSM := Lib.hid hs1; clear hrow htag hb1 hs1)
          have HMT8 := Lib.hid (HMT.out.below HBM.out)
          have HROW8 : Hid (RowF w8 wr.heap.size g.length (boolsF (fun _ => false))) := Lib.hid (HROW.out.congr fun j hj => rfl)
          have HRB : Hid (mb < wr.heap.size ∧ w.heap.size < mb) := Lib.hid ⟨HMT.out.lt, HMB.out.1⟩
          have HDI : Hid (∀ k, k < g.length → ∀ r', VM k = .slice (some ⟨r', 0, none⟩) g.length g.length → r' ≠ wr.heap.size) := Lib.hid fun k hk r' h => by
            obtain ⟨rb, h1, h2, _⟩ := HMT.out.each k hk
            rw [h1] at h
            injection h with h _ _
            injection h with h
            injection h with h _ _
            omega
          have HBK8 := Lib.hid (HBK.out.trans (HBM.out.mono (Nat.le_of_lt HMT.out.lt)))
          have HB58 := Lib.hid (HB5W.out.trans (HBM.out.mono (Nat.le_of_lt HMT.out.lt)))
          have HBW8 := Lib.hid (HBW.out.trans (HBM.out.mono (Nat.le_of_lt (Nat.lt_trans HRB.out.2 HRB.out.1))))
          obtain ⟨rc, hrc⟩ : ∃ rc, wr.heap.size = rc := ⟨_, rfl⟩
          rw [hrc] at HRB HDI HROW8 HSM
          rw [hrc]
          clear hrc HROW HBM HMT HBU HBW HBK HB5W HST5 HRD
          have d8 := HROW8.out.c r hrn
          have f8 := HROW8.out.fz r hrn
          unfold boolsF at d8
          go_upto_region 22 with (fail)
          clear d8 f8
          have HR9 : Hid (RowF (w8.setCell ⟨rc, r, none⟩ (.bool true)) rc g.length (boolsF (cameK g r 0))) := Lib.hid (HROW8.out.setB hrn fun j hj => cameK_zero j)
          have HM9 : Hid (MatAt (w8.setCell ⟨rc, r, none⟩ (.bool true)) mb g.length g.length VM (domM g r)) := Lib.hid (HMT8.out.set (Ne.symm (Nat.ne_of_lt HRB.out.1)) HDI.out _)
          have HS9 : Hid (rc < (w8.setCell ⟨rc, r, none⟩ (.bool true)).heap.size) := Lib.hid (by have := HSM.out; simpa [World.setCell] using this)
          have HBK9 : Hid (Below mb w4 (w8.setCell ⟨rc, r, none⟩ (.bool true))) := Lib.hid (below_put HBK8.out (Nat.le_of_lt HRB.out.1) _)
          have HB59 : Hid (Below mb w5 (w8.setCell ⟨rc, r, none⟩ (.bool true))) := Lib.hid (below_put HB58.out (Nat.le_of_lt HRB.out.1) _)
          have HBW9 : Hid (Below w.heap.size w (w8.setCell ⟨rc, r, none⟩ (.bool true))) := Lib.hid (below_put HBW8.out (Nat.le_of_lt (Nat.lt_trans HRB.out.2 HRB.out.1)) _)
          clear HROW8 HMT8 HSM HBK8 HB58 HBW8
          generalize w8.setCell ⟨rc, r, none⟩ (.bool true) = W9 at *
          have HSBK : Hid (mb ≤ W9.heap.size) := Lib.hid (Nat.le_of_lt HM9.out.lt)
          have HG9 : Hid (GraphAt W9 W9.heap.size (.slice A g.length c) g) := Lib.hid ((HGK.out.under HBK9.out).more HSBK.out)
          have HRG9 := Lib.hid (rangeAt_below HR5.out HB59.out HRB.out.2)
          have HCR := Lib.hid (reach_any g (r : Int) c0 c1 c2 c3 c4 (.slice A g.length c) W9 HG9.out HL1.out HL2.out)
          have hrl := reachL_len g (r : Int)
          go_wp2_with (first | ((with_reducible refine wl_sload 27 _ rfl ?hw2 w.heap.size 0 [c0, c1, c2, c3, c4, .slice A g.length c] _ rfl HRG9.out Try.underlying27 rfl ?hi2 ?_); (case hw2 => first | exact wanted_none rfl | exact wanted_if rfl rfl rfl rfl); (case hi2 => kernel_rfl)) | (go_at_call 19; fail))
          refine HCR.out.mono ?_
          rintro e w13 ⟨v13, rfl, hown, hb13⟩
          obtain ⟨AR, cR, hvR⟩ := own_sl hown
          subst hvR
          have HOR : Hid (0 < (reachL g (r : Int)).length → ∃ b o, AR = some ⟨b, o, none⟩ ∧ (b < w13.heap.size ∧ b ≠ rc) ∧ ∀ (j : Nat) x, (reachL g (r : Int))[j]? = some x → w13.cell? ⟨b, o + j, none⟩ = some (.int .i64 x)) := Lib.hid fun h0 => by
            obtain ⟨_, A', c', h1, h2⟩ := (hown.ints (by omega)).ints
            injection h1 with h1 _ _
            subst h1
            obtain ⟨b, o, h3, h4, h5⟩ := h2 h0
            subst h3
            have := hown.block (b := b) rfl
            have := HS9.out
            exact ⟨b, o, rfl, ⟨h4, by omega⟩, h5⟩
          have HR13 := Lib.hid (HR9.out.below hb13 HS9.out)
          have HM13 := Lib.hid (HM9.out.below hb13)
          have HS13 : Hid (rc < w13.heap.size) := Lib.hid (Nat.lt_of_lt_of_le HS9.out hb13.size)
          have HBW13 := Lib.hid (HBW9.out.trans (hb13.mono HBW9.out.size))
          have hrl2 : ((reachL g (r : Int)).length : Int) ≤ 100 := by have := HN.out; omega
          have HRA := Lib.hid (fun k x h => reachL_at (g := g) (r := (r : Int)) (k := k) (x := x) h)
          have HKS := Lib.hid (fun k x h j => cameK_succ (g := g) (r := r) (k := k) (x := x) h j)
          have HKE := Lib.hid (fun j hj => cameK_end (g := g) (r := r) (j := j) hrn hj)
          generalize reachL g (r : Int) = RL at *
          clear hown hb13 HR9 HM9 HS9 HBW9 HBK9 HB59 HSBK HG9 HRG9 HCR hrl HR5 HC5 HG5 HGK HB45 HS5 HBW5
          go_wp2
          go_loopg [96] RL.length (fun q2 x u => ∃ k : Nat, k + q2 = RL.length ∧ x = .int .i64 k ∧ MatAt u mb g.length g.length VM (domM g r) ∧ RowF u rc g.length (boolsF (cameK g r k)) ∧ But w13 u rc rc)
          case atStart => exact ⟨0, by omega, rfl, HM13.out, HR13.out, But.refl _ _ _⟩
          case round =>
            obtain ⟨k, hk, rfl, hmt, hrow, hbut⟩ := hrel
            clear HM13 HR13
            have HMT := Lib.hid hmt
            have HROW := Lib.hid hrow
            have HBU := Lib.hid hbut
            clear hmt hrow hbut
            cases gk with
            | succ q2 =>
              have hlt3 : (k : Int) < (RL.length : Int) := by omega
              obtain ⟨y, hy⟩ : ∃ y, RL[k]? = some y := ⟨_, List.getElem?_eq_getElem (by omega)⟩
              obtain ⟨y, rfl, hyn⟩ := HRA.out k y hy
              obtain ⟨b3, o3, rfl, ⟨hb3, hb4⟩, hc3⟩ := HOR.out (by omega)
              have dy := (HBU.out.cell (o := o3 + k) hb3 hb4 hb4).trans (hc3 k y hy)
              have hyn2 : (y : Int) < (g.length : Int) := by omega
              have dr := HROW.out.c y hyn
              have fr := HROW.out.fz y hyn
              unfold boolsF at dr
              have HR2 : Hid (RowF (wr.setCell ⟨rc, y, none⟩ (.bool true)) rc g.length (boolsF (cameK g r (k + 1)))) := Lib.hid (HROW.out.setB hyn fun j hj => HKS.out k y hy j)
              have HM2 : Hid (MatAt (wr.setCell ⟨rc, y, none⟩ (.bool true)) mb g.length g.length VM (domM g r)) := Lib.hid (HMT.out.set (Ne.symm (Nat.ne_of_lt HRB.out.1)) HDI.out _)
              have HB2 : Hid (But w13 (wr.setCell ⟨rc, y, none⟩ (.bool true)) rc rc) := Lib.hid (HBU.out.trans (But.set1 _ _ _ _ _))
              clear hc3 hy
              go_wp2
              go_roundg q2
              case measure => omega
              case rel => exact ⟨k + 1, by omega, by go_num, HM2.out, HR2.out, HB2.out⟩
            | zero =>
              obtain rfl : k = RL.length := by omega
              have hge : ¬ ((RL.length : Int) < (RL.length : Int)) := by omega
              have HRF : Hid (∀ j, j < g.length → wr.cell? ⟨rc, j, none⟩ = some (.bool (cameM g r j))) := Lib.hid fun j hj => by rw [HROW.out.c j hj]; unfold boolsF; rw [HKE.out j hj]
              have HMA := Lib.hid (fun i (hi : i < g.length) => HMT.out.at hi hi)
              have HBF := Lib.hid (HBW13.out.trans (HBU.out.below HBW13.out.size (Nat.le_of_lt (Nat.lt_trans HRB.out.2 HRB.out.1)) (Nat.le_of_lt (Nat.lt_trans HRB.out.2 HRB.out.1))))
              have HCS := Lib.hid (fun i hi => chain_self (g := g) (r := r) (i := i) hrn hi)
              have HCT := Lib.hid (fun i => chain_root (g := g) (r := r) (i := i) hrn)
              have HTR := Lib.hid (fun i k j hk hj h1 h2 => chain_trans (g := g) (r := r) (i := i) (k := k) (j := j) hrn hk hj h1 h2)
              clear HROW HMT HBU HOR HRA HKS HKE HBW13 HS13 HDI HRB
              generalize domM g r = M at *
              generalize cameM g r = CMM at *
              obtain ⟨W0, rfl⟩ : ∃ W0, W0 = wr := ⟨_, rfl⟩
              go_wp2
              clear hge
              go_loopg [106] g.length (fun q x u => ∃ i m : Nat, i + q = g.length ∧ x = .int .i64 i ∧ u = W0.drewN m)
              case atStart => exact ⟨0, 0, by omega, rfl, rfl⟩
              case round =>
                obtain ⟨i, m4, hi, rfl, rfl⟩ := hrel
                cases gk with
                | zero =>
                  have hge : ¬ ((i : Int) < (g.length : Int)) := by omega
                  go_wp2
                  go_ret
                  exact ⟨rfl, below_drewN HBF.out m4⟩
                | succ q =>
                  have hlt : (i : Int) < (g.length : Int) := by omega
                  have hin : i < g.length := by omega
                  obtain ⟨rb, hv, hrb⟩ := HMA.out i hin
                  have d1 : (W0.drewN m4).cell? ⟨mb, i, none⟩ = some (.slice (some ⟨rb, 0, none⟩) g.length g.length) := hv
                  have d2 : (W0.drewN m4).cell? ⟨rb, i, none⟩ = some (.bool (M i i)) := hrb i hin
                  have d3 : (W0.drewN m4).cell? ⟨rb, r, none⟩ = some (.bool (M i r)) := hrb r hrn
                  have d4 : (W0.drewN m4).cell? ⟨rc, i, none⟩ = some (.bool (CMM i)) := HRF.out i hin
                  rw [HCS.out i hin] at d2
                  rw [HCT.out i] at d3
                  have HRBI := Lib.hid hrb
                  have HVI := Lib.hid hv
                  clear hrb hv
                  obtain ⟨wm, hwm⟩ : ∃ wm, W0.drewN m4 = wm := ⟨_, rfl⟩
                  have HDM : Hid (∀ q, ∃ m', wm.drewN q = W0.drewN m') := Lib.hid fun q => ⟨m4 + q, by rw [← hwm, World.drewN_drewN]⟩
                  rw [hwm] at d1 d2 d3 d4
                  rw [hwm]
                  clear hwm
                  have key : ∀ b : Bool, (b != b) = false := fun b => by cases b <;> rfl
                  have t1 := key (CMM i)
                  generalize CMM i = cb at *
                  clear key
                  go_upto_region 30 with (fail)
                  go_quiet (fail)
                  obtain ⟨m', hm'⟩ := HDM.out nq
                  rw [hm']
                  clear d1 d2 d3 d4 t1 hm' HDM
                  go_wp2
                  go_loopg [137] g.length (fun q2 x u => ∃ k : Nat, k + q2 = g.length ∧ x = .int .i64 k ∧ u = W0.drewN m')
                  case atStart => exact ⟨0, by omega, rfl, rfl⟩
                  case round =>
                    obtain ⟨k, hk, rfl, rfl⟩ := hrel
                    cases gk with
                    | zero =>
                      have hge : ¬ ((k : Int) < (g.length : Int)) := by omega
                      go_wp2
                      go_roundg q
                      case measure => omega
                      case rel => exact ⟨i + 1, m', by omega, by go_num, rfl⟩
                    | succ q2 =>
                      have hlt2 : (k : Int) < (g.length : Int) := by omega
                      have hkn : k < g.length := by omega
                      obtain ⟨rk, hvk, hrk⟩ := HMA.out k hkn
                      have HRK := Lib.hid hrk
                      have HVK := Lib.hid hvk
                      clear hvk hrk
                      go_wp2
                      go_loopg [142] g.length (fun q3 x u => ∃ j : Nat, j + q3 = g.length ∧ x = .int .i64 j ∧ u = W0.drewN m')
                      case atStart => exact ⟨0, by omega, rfl, rfl⟩
                      case round =>
                        obtain ⟨j, hj, rfl, rfl⟩ := hrel
                        cases gk with
                        | zero =>
                          have hge : ¬ ((j : Int) < (g.length : Int)) := by omega
                          go_wp2
                          go_roundg q2
                          case measure => omega
                          case rel => exact ⟨k + 1, by omega, by go_num, rfl⟩
                        | succ q3 =>
                          have hlt3 : (j : Int) < (g.length : Int) := by omega
                          have hjn : j < g.length := by omega
                          have d1 : (W0.drewN m').cell? ⟨mb, i, none⟩ = some (.slice (some ⟨rb, 0, none⟩) g.length g.length) := HVI.out
                          have d2 : (W0.drewN m').cell? ⟨rb, k, none⟩ = some (.bool (M i k)) := HRBI.out k hkn
                          have d3 : (W0.drewN m').cell? ⟨mb, k, none⟩ = some (.slice (some ⟨rk, 0, none⟩) g.length g.length) := HVK.out
                          have d4 : (W0.drewN m').cell? ⟨rk, j, none⟩ = some (.bool (M k j)) := HRK.out j hjn
                          have d5 : (W0.drewN m').cell? ⟨rb, j, none⟩ = some (.bool (M i j)) := HRBI.out j hjn
                          have ht := HTR.out i k j hkn hjn
                          generalize M i k = b1 at *
                          generalize M k j = b2 at *
                          generalize M i j = b3 at *
                          obtain ⟨wm, hwm⟩ : ∃ wm, W0.drewN m' = wm := ⟨_, rfl⟩
                          rw [hwm] at d1 d2 d3 d4 d5
                          rw [hwm]
                          cases b1 with
                          | false =>
                            clear ht
                            go_wp2
                            go_roundg q3
                            case measure => omega
                            case rel => exact ⟨j + 1, by omega, by go_num, hwm.symm⟩
                          | true =>
                            cases b2 with
                            | false =>
                              clear ht
                              go_wp2
                              go_roundg q3
                              case measure => omega
                              case rel => exact ⟨j + 1, by omega, by go_num, hwm.symm⟩
                            | true =>
                              have hb3 := ht rfl rfl
                              subst hb3
                              clear ht
                              go_wp2
                              go_roundg q3
                              case measure => omega
                              case rel => exact ⟨j + 1, by omega, by go_num, hwm.symm⟩
        | succ q =>
          have hlt : (i : Int) < (g.length : Int) := by omega
          have hin : i < g.length := by omega
          obtain ⟨Ad, cd, hVd, hAd⟩ := HRD.out i hin
          have HAD := Lib.hid hAd
          have dd := (HBU.out.cell (o := i) HST5.out.lt (Nat.ne_of_lt HMB.out.2) (Nat.ne_of_lt HMB.out.2)).trans (HST5.out.row.c i hin)
          rw [hVd] at dd
          have hdl := HDL.out i
          have HDA2 := Lib.hid (fun k x h => HDA.out i k x h)
          have HDM2 := Lib.hid (fun j => HDM.out i j)
          generalize domsOf g (r : Int) i = R at *
          have hd2 : (R.length : Int) ≤ 100 := by have := HN.out; omega
          clear hAd hVd hdl
          go_upto_region 11 with (fail)
          clear dd
          have HFZ := Lib.hid (HMT.out.row.fz i hin)
          go_wp2_with ((with_reducible refine wl_make 44 4 _ _ rfl ?hw ib (.bool false) 1 g.length Try.underlying44 HIB.out HZ0.out HZ1.out HZ2.out (by decide) rfl ?hx ?hy HL2.out ?_); (case hw => first | exact wanted_none rfl | exact wanted_if rfl rfl rfl rfl); (case hx => rfl); (case hy => rfl); intro w8 hrow htag hb1 hs1; have HROW := Lib.hid hrow; have HBM := Lib.hid hb1; have HSM := Lib.hid hs1; have d8 := (HMT.out.row.below hb1 HMT.out.lt).c i hin; have f8 := (HMT.out.row.below hb1 HMT.out.lt).fz i hin; clear hrow htag hb1 hs1)
          clear d8 f8 HFZ
          have HRB : Hid (w5.heap.size ≤ wr.heap.size ∧ mb < wr.heap.size) := Lib.hid ⟨HBU.out.size, HMT.out.lt⟩
          have HB9 : Hid (But w5 (w8.setCell ⟨mb, i, none⟩ (.slice (some ⟨wr.heap.size, 0, none⟩) g.length g.length)) mb mb) := Lib.hid ((HBU.out.trans (But.of_below HBM.out _ _)).trans (But.set1 _ _ _ _ _))
          have HM9 : Hid (MatAt (w8.setCell ⟨mb, i, none⟩ (.slice (some ⟨wr.heap.size, 0, none⟩) g.length g.length)) mb g.length i (fun j => if j = i then (.slice (some ⟨wr.heap.size, 0, none⟩) g.length g.length) else VM j) (domM g r)) := Lib.hid ((HMT.out.below HBM.out).put hin _)
          have HR9 : Hid (RowF (w8.setCell ⟨mb, i, none⟩ (.slice (some ⟨wr.heap.size, 0, none⟩) g.length g.length)) wr.heap.size g.length (boolsF (hasK R 0))) := Lib.hid ((HROW.out.keep (Below.heap_setCell w8 ⟨mb, i, none⟩ _ wr.heap.size (Ne.symm (Nat.ne_of_lt HMT.out.lt)))).congr fun j hj => rfl)
          have HS9 : Hid (wr.heap.size < (w8.setCell ⟨mb, i, none⟩ (.slice (some ⟨wr.heap.size, 0, none⟩) g.length g.length)).heap.size) := Lib.hid (by have := HSM.out; simpa [World.setCell] using this)
          have HDI : Hid (∀ k, k < i → ∀ r', (fun j => if j = i then (.slice (some ⟨wr.heap.size, 0, none⟩) g.length g.length) else VM j) k = .slice (some ⟨r', 0, none⟩) g.length g.length → r' ≠ wr.heap.size) := Lib.hid fun k hk r' h => by
            obtain ⟨rb, h1, h2, _⟩ := HMT.out.each k hk
            dsimp only at h
            rw [if_neg (Nat.ne_of_lt hk), h1] at h
            injection h with h _ _
            injection h with h
            injection h with h _ _
            omega
          have HVI : Hid ((fun j => if j = i then (.slice (some ⟨wr.heap.size, 0, none⟩) g.length g.length) else VM j) i = (.slice (some ⟨wr.heap.size, 0, none⟩) g.length g.length : Value)) := Lib.hid (if_pos rfl)
          generalize (fun j => if j = i then (Value.slice (some ⟨wr.heap.size, 0, none⟩) g.length g.length) else VM j) = V2 at *
          generalize w8.setCell ⟨mb, i, none⟩ (.slice (some ⟨wr.heap.size, 0, none⟩) g.length g.length) = W9 at *
          obtain ⟨rb, hrb⟩ : ∃ rb, wr.heap.size = rb := ⟨_, rfl⟩
          rw [hrb] at HRB HR9 HS9 HDI HVI
          rw [hrb]
          clear hrb HROW HBM HSM HBU HMT HBW
          go_loopg [66] R.length (fun q2 x u => ∃ k : Nat, k + q2 = R.length ∧ x = .int .i64 k ∧ MatAt u mb g.length i V2 (domM g r) ∧ RowF u rb g.length (boolsF (hasK R k)) ∧ But w5 u mb mb ∧ rb < u.heap.size)
          case atStart => exact ⟨0, by omega, rfl, HM9.out, HR9.out, HB9.out, HS9.out⟩
          case round =>
            obtain ⟨k, hk, rfl, hmt, hrow, hbut, hsz⟩ := hrel
            clear HM9 HR9 HB9 HS9
            have HMT := Lib.hid hmt
            have HROW := Lib.hid hrow
            have HBU := Lib.hid hbut
            have HSZ := Lib.hid hsz
            clear hmt hrow hbut hsz
            cases gk with
            | zero =>
              obtain rfl : k = R.length := by omega
              have hge : ¬ ((R.length : Int) < (R.length : Int)) := by omega
              have HM2 : Hid (MatAt wr mb g.length (i + 1) V2 (domM g r)) := Lib.hid (HMT.out.snoc HVI.out HSZ.out (Ne.symm (Nat.ne_of_lt HRB.out.2)) (HROW.out.congr fun j hj => by unfold boolsF; rw [HDM2.out, hasK_end]))
              go_wp2
              go_roundg q
              case measure => omega
              case rel => exact ⟨i + 1, V2, by omega, by go_num, HM2.out, HBU.out⟩
            | succ q2 =>
              have hlt3 : (k : Int) < (R.length : Int) := by omega
              obtain ⟨y, hy⟩ : ∃ y, R[k]? = some y := ⟨_, List.getElem?_eq_getElem (by omega)⟩
              obtain ⟨y, rfl, hyn⟩ := HDA2.out k y hy
              obtain ⟨b3, o3, rfl, hb3, hc3⟩ := HAD.out (by omega)
              have dy := (HBU.out.cell (o := o3 + k) (Nat.lt_trans hb3 HMS.out) (Nat.ne_of_lt hb3) (Nat.ne_of_lt hb3)).trans (hc3 k y hy)
              have hyn2 : (y : Int) < (g.length : Int) := by omega
              have t1 : decide ((y : Int) < 0) = false := decide_eq_false (by omega)
              have t2 : decide ((g.length : Int) ≤ (y : Int)) = false := decide_eq_false (by omega)
              have dv := HMT.out.row.c i hin
              rw [HVI.out] at dv
              have dr := HROW.out.c y hyn
              have fr := HROW.out.fz y hyn
              unfold boolsF at dr
              have HR2 : Hid (RowF (wr.setCell ⟨rb, y, none⟩ (.bool true)) rb g.length (boolsF (hasK R (k + 1)))) := Lib.hid (HROW.out.setB hyn fun j hj => hasK_succ hy j)
              have HM2 : Hid (MatAt (wr.setCell ⟨rb, y, none⟩ (.bool true)) mb g.length i V2 (domM g r)) := Lib.hid (HMT.out.set (Ne.symm (Nat.ne_of_lt HRB.out.2)) HDI.out _)
              have HB2 : Hid (But w5 (wr.setCell ⟨rb, y, none⟩ (.bool true)) mb mb) := Lib.hid (HBU.out.setHigh HRB.out.1 _)
              have HZ2 : Hid (rb < (wr.setCell ⟨rb, y, none⟩ (.bool true)).heap.size) := Lib.hid (by have := HSZ.out; simpa [World.setCell] using this)
              clear hc3 hy
              go_wp2
              go_roundg q2
              case measure => omega
              case rel => exact ⟨k + 1, by omega, by go_num, HM2.out, HR2.out, HB2.out, HZ2.out⟩

set_option maxRecDepth 100000 in
/-- the row's step, argument by argument -/
theorem regionChain_lifted (os : Os) (started : os.Started) (H : Type) (enc : TypeId × Value → H) :
    ReturnsInHanded {} Try.checked os 5 .any (Rows.regionChainSpec.pre6 enc Try.prog Try.f5 Rows.regionChainRow.domain false) (Rows.regionChainSpec.post enc Try.prog Try.f5 false true false false) := by
  refine returnsInHanded_of_change (C := Try.checked) own started (by kernel_rfl) Try.func5
    (ChangeSpec.witness6 (enc := enc) (C := Try.checked) false ⟨#[], #[.agg #[.int .i64 0, .slice none 0 0, .slice none 0 0, .slice none 0 0, .slice none 0 0, .slice none 0 0], .int .i64 0], []⟩ 8 (by kernel_rfl) (by kernel_rfl) (by kernel_rfl) (by kernel_rfl)) ?_
  intro W base args ds gs before hval0 hW hcnd _
  have hval : ∀ (j : Nat) t v, Try.f5.params[j]? = some t → args[j]? = some v → Value.okWide Try.prog W .any base t v := hval0
  have hW' := hW
  obtain ⟨p, q, hA0, hV, rfl, hfz, hnd⟩ := hW
  have hA : DataW.TrodAll enc Try.prog W 0 (fun _ => true) true Try.f5.params.toList args.toList ds p := hA0
  rw [Try.params5] at hA hval
  obtain ⟨v0, vs0, d0, ds0, p0, q0, hargs, rfl, rfl, h0, r0⟩ := trodAll_cons hA
  obtain ⟨v1, vs1, d1, ds1, p1, q1, rfl, rfl, rfl, h1, r1⟩ := trodAll_cons r0
  obtain ⟨rfl, rfl, rfl⟩ := trodAll_nil r1
  obtain rfl : args = #[v0, v1] := by cases args; simp_all
  obtain ⟨rfl, rfl⟩ := trodVars_none hV
  have k0 := h0
  have lt0 := lt_of_trod k0
  obtain ⟨cs0, m0, rfl, hm0⟩ := model_arg (hval 0 27 v0 rfl rfl) h0
  obtain ⟨a1, rfl, rfl, rfl, w1⟩ := open_int Try.underlying3 (hval 1 3 v1 rfl rfl) h1
  clear hA0 hval0
  refine (regionChain_walk W cs0 m0 hm0 a1 w1).mono fun e W' ⟨he, bel⟩ => ?_
  subst he
  exact ⟨_, rfl, _, _, _, [], _, [], hW', trodAll_mk1 (shut_bool Try.underlying4 _), (trodAll_cons_mk (Below.trod laidOut (by kernel_rfl) (of_decide_eq_true (by kernel_rfl)) k0 bel lt0) (trodAll_cons_mk (shut_int Try.underlying3 w1) trodAll_mk0)), rfl, bel.frame _, fun h => by cases h⟩

theorem regionChain_proved : Rows.RegionChainSaid :=
  OpenClaim.holds_of_wide 5 Try.f5 rfl rfl rfl rfl rfl rfl rfl ⟨rfl, rfl, rfl, rfl, rfl⟩ rfl rfl rfl rfl rfl (by kernel_rfl) Try.func5 (by kernel_rfl)
    (of_decide_eq_true (by kernel_rfl)) (by unfold Func.isWrapper; first | (rw [if_pos (by decide +kernel)]; kernel_rfl) | (rw [if_neg (by decide +kernel)]; exact ⟨rfl, rfl⟩))
    (fun os started H enc _ => regionChain_lifted os started H enc)
#print axioms regionChain_proved

end Go.Proofs.Ytedajbpjokmlaaa
