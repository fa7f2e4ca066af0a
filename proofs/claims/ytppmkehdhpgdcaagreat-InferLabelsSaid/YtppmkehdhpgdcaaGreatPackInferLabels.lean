/- THE STATEMENT InferLabels is proved: for every number, every list of pairs, all expressions and all variables the Go function InferLabels returns true, and its arguments read afterwards as before; without conditions. -/
import Derived.Test.YtppmkehdhpgdcaaGreatPack13
import Derived.Test.YtppmkehdhpgdcaaGreatPack41
import Derived.Test.YtppmkehdhpgdcaaGreatPack42
import Derived.Test.YtppmkehdhpgdcaaGreatPack51
import Derived.Test.YtppmkehdhpgdcaaGreatPack52
import Derived.Test.YtppmkehdhpgdcaaGreatPack54
namespace Go.Proofs.YtppmkehdhpgdcaaGreat
open Go Go.ChangeShapes Go.WideShapes Go.ChangeAt Go.RowKit P
set_option linter.unusedVariables false
set_option linter.unusedSimpArgs false
set_option maxHeartbeats 4000000 in
set_option maxRecDepth 100000 in
theorem inferLabels_walk (w : World) (n : Int) (_wn : (Lit.int .i64 n).wf = true) (A : Option Addr) (l c : Nat) (ps : List (Int × Int)) (hl : ps.length = l) (hp : Pairs w w.heap.size A ps)
    (u : Value) (X : List ET) (hX : SlAt w w.heap.size 10 (ExpAt w w.heap.size) u X) (hXl : X.length ≤ maxLen) (v : Value) (E : List VarT) (hE : SlAt w w.heap.size 11 (VarAt w w.heap.size) v E) (hEl : E.length ≤ maxLen) :
    Calls Tryz.prog 4 #[.int .i64 n, .slice A l c, u, v] w fun e w' => e = .returned (.bool true) ∧ Below w.heap.size w w' := by
  have CB := Lib.hid (both11_all n A l c ps w hl hp)
  have HX := Lib.hid hX
  have HE := Lib.hid hE
  obtain ⟨_, XA, xc, rfl, hxa⟩ := hX
  obtain ⟨_, EA, ec, rfl, _⟩ := hE
  have HXA := Lib.hid hxa
  have hz := rzero
  unfold maxLen at hXl
  clear hl hp hxa
  go_enter Tryz.func4, Tryz.ntmps4
  go_wp2_with fail
  refine CB.out.mono ?_
  rintro e w1 ⟨hb, (⟨N, L, rfl⟩ | ⟨_, _, k, b, rfl, rfl, hlat⟩)⟩
  · have HB1 := Lib.hid hb
    have HM := Lib.hid (Rm.new w1 0 (fun _ _ => false) 36)
    have HB2 := Lib.hid (below_setCells (hb.alloc hb.size (.cells (rv 0 fun _ _ => false) 36)) (b := w1.heap.size) hb.size (rl N L) 0)
    clear hb CB
    go_wp2_with (first | ((with_reducible show wpList _ _ _ _ _ _); refine wl_rstore _ _ rfl ?hw w1.heap.size N L rfl rfl ?hm ?_; (case hw => simp [Region.wanted]); (case hm => exact ⟨_, _, HM.out⟩)) | (go_at_call 7; fail))
    generalize World.setCells _ _ _ _ = W at *
    refine (awake11 _).mono ?_
    rintro e w2 ⟨rfl, hb⟩
    have HB3 := Lib.hid (HB2.out.trans (hb.mono HB2.out.size))
    clear hb
    go_wp2_with fail
    refine (awake11 _).mono ?_
    rintro e w9 ⟨rfl, hb⟩
    have HB9 := Lib.hid (HB3.out.trans (hb.mono HB3.out.size))
    clear hb
    go_wp2
    go_ret
    exact ⟨rfl, HB9.out⟩
  · have HB1 := Lib.hid hb
    have HM := Lib.hid (Rm.new w1 0 (fun _ _ => false) 36)
    have HB2 := Lib.hid (below_setCells (hb.alloc hb.size (.cells (rv 0 fun _ _ => false) 36)) (b := w1.heap.size) hb.size (rl k (ordOf k ps)) 0)
    have hl2 := ((hlat.alloc (.cells (rv 0 fun _ _ => false) 36)).below (below_setCells (Below.refl w1.heap.size _) (Nat.le_refl _) (rl k (ordOf k ps)) 0) hlat.lt)
    have hm2 := (HM.out.setCells k (ordOf k ps))
    have hs2 : w1.heap.size < ((w1.alloc (.cells (rv 0 fun _ _ => false) 36)).setCells w1.heap.size 0 (rl k (ordOf k ps))).heap.size := by rw [size_setCells]; simp
    have HLA := Lib.hid hlat.lat
    have h8 := hlat.le8
    have HUB := Lib.hid (fun z (hz : Below ((w1.alloc (.cells (rv 0 fun _ _ => false) 36)).setCells w1.heap.size 0 (rl k (ordOf k ps))).heap.size ((w1.alloc (.cells (rv 0 fun _ _ => false) 36)).setCells w1.heap.size 0 (rl k (ordOf k ps))) z) => (⟨hl2.here hz, hm2.below hz hs2⟩ : LatR z b k (ordOf k ps) ∧ Rm z w1.heap.size k (ordOf k ps)))
    clear hb hlat CB hl2 hm2
    go_wp2_with (first | ((with_reducible show wpList _ _ _ _ _ _); refine wl_rstore _ _ rfl ?hw w1.heap.size k (ordOf k ps) rfl rfl ?hm ?_; (case hw => simp [Region.wanted]); (case hm => exact ⟨_, _, HM.out⟩)) | (go_at_call 7; fail))
    clear HM
    generalize World.setCells _ _ _ _ = W at *
    generalize ordOf k ps = L at *
    generalize w1.heap.size = p at *
    have HXB := Lib.hid (fun z (hz : Below W.heap.size W z) => ((HX.out.below (HB2.out.trans (hz.mono HB2.out.size)) fun _ _ _ h => (h.under (HB2.out.trans (hz.mono HB2.out.size))).more (HB2.out.trans (hz.mono HB2.out.size)).size).more (HB2.out.trans (hz.mono HB2.out.size)).size : SlAt z z.heap.size 10 (ExpAt z z.heap.size) (.slice XA X.length xc) X))
    have HEB := Lib.hid (fun z (hz : Below W.heap.size W z) => ((HE.out.below (HB2.out.trans (hz.mono HB2.out.size)) fun _ _ _ h => (h.under (HB2.out.trans (hz.mono HB2.out.size))).more (HB2.out.trans (hz.mono HB2.out.size)).size).more (HB2.out.trans (hz.mono HB2.out.size)).size : SlAt z z.heap.size 11 (VarAt z z.heap.size) (.slice EA E.length ec) E))
    refine (awake11 _).mono ?_
    rintro e w2 ⟨rfl, hb⟩
    have HK2 := Lib.hid hb
    have HB3 := Lib.hid (HB2.out.trans (hb.mono HB2.out.size))
    clear hb
    by_cases h3 : 20 < X.length
    · have t3 : decide ((20 : Int) < X.length) = true := by simp; omega
      clear h3
      go_wp2_with fail
      refine (awake11 _).mono ?_
      rintro e w9 ⟨rfl, hb⟩
      have HB9 := Lib.hid (HB3.out.trans (hb.mono HB3.out.size))
      clear hb
      go_wp2
      go_ret
      exact ⟨rfl, HB9.out⟩
    · have t3 : decide ((20 : Int) < X.length) = false := by simp; omega
      have H3 := Lib.hid h3
      clear h3
      have HS := Lib.hid (rvsmall E (.slice EA E.length ec) w2 (HEB.out w2 HK2.out) hEl)
      go_wp2_with (go_at_call 9; fail)
      refine HS.out.mono ?_
      rintro e w3 ⟨q, rfl, hq, hb⟩
      have HK3 := Lib.hid (HK2.out.trans (hb.mono HK2.out.size))
      have HB4 := Lib.hid (HB3.out.trans (hb.mono HB3.out.size))
      clear hb HS
      cases q with
      | false =>
        clear hq
        go_wp2_with fail
        refine (awake11 _).mono ?_
        rintro e w9 ⟨rfl, hb⟩
        have HB9 := Lib.hid (HB4.out.trans (hb.mono HB4.out.size))
        clear hb
        go_wp2
        go_ret
        exact ⟨rfl, HB9.out⟩
      | true =>
        have hel := hq rfl
        clear hq
        go_upto_region 5 with (fail)
        go_loopg [50] X.length (fun g i wr => ∃ j : Nat, j + g = X.length ∧ i = .int .i64 j ∧ Below W.heap.size W wr)
        case atStart => exact ⟨0, by omega, rfl, HK3.out⟩
        case round =>
          obtain ⟨j, hj, rfl, hb⟩ := hrel
          have HKR := Lib.hid hb
          clear hb
          cases gk with
          | zero =>
            obtain rfl : j = X.length := by omega
            have hge : ¬ ((X.length : Int) < (X.length : Int)) := by omega
            have HEL := Lib.hid hel
            go_upto_region 11 with (fail)
            go_loopg [60] X.length (fun g i wr => ∃ j : Nat, j + g = X.length ∧ i = .int .i64 j ∧ Below W.heap.size W wr)
            case atStart => exact ⟨0, by omega, rfl, HKR.out⟩
            case round =>
              clear HKR
              obtain ⟨j, hj, rfl, hb⟩ := hrel
              have HKR := Lib.hid hb
              clear hb
              cases gk with
              | zero =>
                obtain rfl : j = X.length := by omega
                have hge2 : ¬ ((X.length : Int) < (X.length : Int)) := by omega
                have HKRW := Lib.hid (HB2.out.trans (HKR.out.mono HB2.out.size))
                obtain ⟨xa, hxa⟩ : ∃ x, (allX k L E X).1 = x := ⟨_, rfl⟩
                obtain ⟨xb, hxb⟩ : ∃ x, (allX k L E X).2 = x := ⟨_, rfl⟩
                have HCA := Lib.hid (iall_any k L b X E (.slice XA X.length xc) (.slice EA E.length ec) wr (HUB.out wr HKR.out).1 (HXB.out wr HKR.out) (HEB.out wr HKR.out) (by have := HEL.out; omega) (by have := H3.out; omega))
                rw [hxa, hxb] at HCA
                go_upto_region 19 with (go_at_call 17; refine HCA.out.mono ?_; rintro e w5 ⟨rfl, hb⟩; have HK5 := Lib.hid (HKR.out.trans (hb.mono HKR.out.size)); clear hb)
                have HCB := Lib.hid (rall_any k L X E (.slice XA X.length xc) (.slice EA E.length ec) w5 h8 HLA.out (HXB.out w5 HK5.out) (HEB.out w5 HK5.out) (by have := HEL.out; omega) (by have := H3.out; omega))
                have HM5 := Lib.hid (HUB.out w5 HK5.out).2
                rw [hxa, hxb] at HCB
                clear hxa hxb HCA
                go_wp2_with (first | (refine wl_rload _ rfl ?hw p k L rfl HM5.out ?_; (case hw => (first | exact wanted_none rfl | exact wanted_if rfl rfl rfl rfl))) | (go_at_call 18; refine HCB.out.mono ?_; rintro e w6 ⟨rfl, hb⟩; have HK6 := Lib.hid (HK5.out.trans (hb.mono HK5.out.size)); clear hb))
                go_ret
                exact ⟨rfl, HB2.out.trans (HK6.out.mono HB2.out.size)⟩
              | succ g =>
                have hlt : (j : Int) < (X.length : Int) := by omega
                obtain ⟨t, ht⟩ : ∃ t, X[j]? = some t := ⟨_, List.getElem?_eq_getElem (by omega)⟩
                obtain ⟨bb, o, rfl, hbl, hc⟩ := HXA.out (by omega)
                obtain ⟨ks, hkl, hks, hvx⟩ := hc j t ht
                have HBW := Lib.hid (HB2.out.trans (HKR.out.mono HB2.out.size))
                have HKS := Lib.hid (rangeAt_below hks HBW.out hbl)
                have HCL := Lib.hid hkl
                have HONE := Lib.hid hvx.one
                have HV := Lib.hid (fun z (hz : Below W.heap.size W z) => ((hvx.under (HB2.out.trans (hz.mono HB2.out.size))).more (HB2.out.trans (hz.mono HB2.out.size)).size))
                have HTJ := Lib.hid ht
                clear hc hks hvx ht hkl hbl
                go_upto_region 13 with (first | ((with_reducible refine wl_sload 30 _ rfl ?hwa bb (o + j * 10) ks _ rfl HKS.out Tryz.underlying30 rfl ?hia ?_); (case hwa => (first | exact wanted_none rfl | exact wanted_if rfl rfl rfl rfl)); (case hia => rw [HCL.out]; kernel_rfl)) | ((with_reducible refine wl_sbox 30 _ _ rfl ?hwxc wr ?zc ks ?hwldc ?hzc ?hxc ?hyc ?hic ?h1c ?_); (case hwldc => rfl); (case hxc => rfl); (case hyc => rfl); (case hwxc => (first | exact wanted_none rfl | exact wanted_if rfl rfl rfl rfl)); (case hzc => rw [HCL.out]; rfl); (case hic => rw [HCL.out]; kernel_rfl); (case h1c => exact HONE.out); intro Z hZ; have HZ := Lib.hid hZ; clear hZ))
                have HKZ := Lib.hid (HKR.out.trans (HZ.out.below.mono HKR.out.size))
                have HRZ := Lib.hid HZ.out.range
                have HZS := Lib.hid HZ.out.size
                obtain ⟨ya, hya⟩ : ∃ x, (labE k L E t).1 = x := ⟨_, rfl⟩
                obtain ⟨yb, hyb⟩ : ∃ x, (labE k L E t).2 = x := ⟨_, rfl⟩
                have HCI := Lib.hid (ilabel_any k L b t E ks (.slice EA E.length ec) Z (HUB.out Z HKZ.out).1 (HV.out Z HKZ.out) (HEB.out Z HKZ.out) (by have := HEL.out; omega))
                rw [hya, hyb] at HCI
                go_upto_region 14 with (first | ((with_reducible refine wl_sload 30 _ rfl ?hwb wr.heap.size 0 ks _ rfl HRZ.out Tryz.underlying30 rfl ?hib ?_); (case hwb => (first | exact wanted_none rfl | exact wanted_if rfl rfl rfl rfl)); (case hib => rw [HCL.out]; kernel_rfl)) | (go_at_call 11; refine HCI.out.mono ?_; rintro e w5 ⟨rfl, hb⟩; have HK5 := Lib.hid (HKZ.out.trans (hb.mono HKZ.out.size)); have HR5 := Lib.hid (rangeAt_below HRZ.out hb HZS.out); have HZ5 := Lib.hid (Nat.lt_of_lt_of_le HZS.out hb.size); clear hb))
                have HCR := Lib.hid (rlabel_any k L t E ks (.slice EA E.length ec) w5 h8 HLA.out (HV.out w5 HK5.out) (HEB.out w5 HK5.out) (by have := HEL.out; omega))
                have HM5 := Lib.hid (HUB.out w5 HK5.out).2
                rw [hya, hyb] at HCR
                clear hya hyb
                clear HCI HRZ HZS
                go_upto_region 15 with (first | (refine wl_rload _ rfl ?hw p k L rfl HM5.out ?_; (case hw => (first | exact wanted_none rfl | exact wanted_if rfl rfl rfl rfl))) | ((with_reducible refine wl_sload 30 _ rfl ?hwd wr.heap.size 0 ks _ rfl HR5.out Tryz.underlying30 rfl ?hid ?_); (case hwd => (first | exact wanted_none rfl | exact wanted_if rfl rfl rfl rfl)); (case hid => rw [HCL.out]; kernel_rfl)) | (go_at_call 13; refine HCR.out.mono ?_; rintro e w6 ⟨rfl, hb⟩; have HK6 := Lib.hid (HK5.out.trans (hb.mono HK5.out.size)); have HR6 := Lib.hid (rangeAt_below HR5.out hb HZ5.out); have HZ6 := Lib.hid (Nat.lt_of_lt_of_le HZ5.out hb.size); clear hb))
                clear HCR HM5 HR5
                have HBZ := Lib.hid (Nat.le_refl w6.heap.size)
                have HK7 := Lib.hid (HK6.out.trans ((Below.refl _ w6).drew.mono HK6.out.size))
                have HR7 := Lib.hid (rangeAt_below HR6.out (Below.refl _ w6).drew HZ6.out)
                have HZ7 := Lib.hid (Nat.lt_of_lt_of_le HZ6.out (Below.refl w6.heap.size w6).drew.size)
                refine wp_region_ord [(0, true), (1, true), (2, true), (3, true), (4, true), (5, true), (6, true), (7, true), (8, true), (9, true), (11, true), (10, false), (12, false), (13, false), (14, true), (15, true)]
                  (fun z => z.rangeAt wr.heap.size 0 ks ∧ wr.heap.size < z.heap.size) (by kernel_rfl) (by kernel_rfl) (by kernel_rfl) rfl (by intro c a d v w h; cases d <;> exact h) ?_
                generalize w6.drew = wd at *
                have hs : wd.rangeAt wr.heap.size 0 ks ∧ wr.heap.size < wd.heap.size := ⟨HR7.out, HZ7.out⟩
                refine ord_move (some 78) (.int .i64 ya) _ _ rfl rfl rfl (by first | exact wanted_none rfl | exact wanted_if rfl rfl rfl rfl) hs rfl ?_
                go_frame
                refine ord_move (some 79) (.int .i64 ya) _ _ rfl rfl rfl (by first | exact wanted_none rfl | exact wanted_if rfl rfl rfl rfl) hs rfl ?_
                go_frame
                refine ord_load (some 80) (.bool false) _ rfl rfl (by first | exact wanted_none rfl | exact wanted_if rfl rfl rfl rfl) hs (fun z hz => by go_simp) ?_
                go_frame
                refine ord_move (some 81) (.bool false) _ _ rfl rfl rfl (by first | exact wanted_none rfl | exact wanted_if rfl rfl rfl rfl) hs rfl ?_
                go_frame
                refine ord_move (some 82) (.int .i64 yb) _ _ rfl rfl rfl (by first | exact wanted_none rfl | exact wanted_if rfl rfl rfl rfl) hs rfl ?_
                go_frame
                refine ord_move (some 83) (.int .i64 yb) _ _ rfl rfl rfl (by first | exact wanted_none rfl | exact wanted_if rfl rfl rfl rfl) hs rfl ?_
                go_frame
                refine ord_load (some 84) (.bool false) _ rfl rfl (by first | exact wanted_none rfl | exact wanted_if rfl rfl rfl rfl) hs (fun z hz => by go_simp) ?_
                go_frame
                refine ord_pick (some 85) (.bool false) _ _ _ _ false rfl rfl rfl rfl (by first | exact wanted_none rfl | exact wanted_if rfl rfl rfl rfl) hs rfl ?_
                go_frame
                refine ord_move (some 86) (.bool false) _ _ rfl rfl rfl (by first | exact wanted_none rfl | exact wanted_if rfl rfl rfl rfl) hs rfl ?_
                go_frame
                refine ord_load (some 87) (.agg ⟨ks⟩) _ rfl rfl (by first | exact wanted_none rfl | exact wanted_if rfl rfl rfl rfl) hs (fun z hz => exec_sload 30 rfl wr.heap.size 0 ks _ rfl hz.1 Tryz.underlying30 rfl (by rw [HCL.out]; kernel_rfl)) ?_
                go_frame
                refine ord_load (some 89) (.agg ⟨ks⟩) _ rfl rfl (by first | exact wanted_none rfl | exact wanted_if rfl rfl rfl rfl) hs (fun z hz => exec_sload 30 rfl wr.heap.size 0 ks _ rfl hz.1 Tryz.underlying30 rfl (by rw [HCL.out]; kernel_rfl)) ?_
                go_frame
                refine ord_to (some 88) 15 Tryz.func15 (by kernel_rfl) (by kernel_rfl) [.agg ⟨ks⟩] _ _ _ rfl rfl rfl (by first | exact wanted_none rfl | exact wanted_if rfl rfl rfl rfl) rfl ?_
                refine (reads_any t ks wd (HV.out wd HK7.out)).mono ?_
                rintro e w8 ⟨nv, base, rfl, hbs, hrow, hb⟩
                have HK8 := Lib.hid (HK7.out.trans (hb.mono HK7.out.size))
                have hs8 : w8.rangeAt wr.heap.size 0 ks ∧ wr.heap.size < w8.heap.size := ⟨rangeAt_below hs.1 hb hs.2, Nat.lt_of_lt_of_le hs.2 hb.size⟩
                have hN8 := names_own hrow (readL_len t)
                refine ⟨nv, rfl, hs8, ?_⟩
                go_frame
                refine ord_to (some 90) 16 Tryz.func16 (by kernel_rfl) (by kernel_rfl) [.agg ⟨ks⟩] _ _ _ rfl rfl rfl (by first | exact wanted_none rfl | exact wanted_if rfl rfl rfl rfl) rfl ?_
                refine (rreads_any t ks w8 (HV.out w8 HK8.out)).mono ?_
                rintro e w9 ⟨mv, M, rfl, hM, hMt, hb9⟩
                have HK9 := Lib.hid (HK8.out.trans (hb9.mono HK8.out.size))
                have hs9 : w9.rangeAt wr.heap.size 0 ks ∧ wr.heap.size < w9.heap.size := ⟨rangeAt_below hs8.1 hb9 hs8.2, Nat.lt_of_lt_of_le hs8.2 hb9.size⟩
                have hN9 : SlAt w9 w9.heap.size 1 NameR nv (readL t) := (hN8.below hb9 fun _ _ _ h => h).more hb9.size
                have hM9 : SlAt w9 w9.heap.size 1 NameR mv (readL t) := names_map hM hMt
                refine ⟨mv, rfl, hs9, ?_⟩
                go_frame
                refine ord_to (some 91) 14 Tryz.func14 (by kernel_rfl) (by kernel_rfl) [nv, mv] _ _ _ rfl rfl rfl (by first | exact wanted_none rfl | exact wanted_if rfl rfl rfl rfl) rfl ?_
                refine (rsame11 nv mv (readL t) w9 hN9 hM9 (readL_len t)).mono ?_
                rintro e w10 ⟨rfl, hb10⟩
                have HK10 := Lib.hid (HK9.out.trans (hb10.mono HK9.out.size))
                have hs10 : w10.rangeAt wr.heap.size 0 ks ∧ wr.heap.size < w10.heap.size := ⟨rangeAt_below hs9.1 hb10 hs9.2, Nat.lt_of_lt_of_le hs9.2 hb10.size⟩
                refine ⟨.bool true, rfl, hs10, ?_⟩
                go_frame
                refine ord_load (some 92) (.bool false) _ rfl rfl (by first | exact wanted_none rfl | exact wanted_if rfl rfl rfl rfl) hs10 (fun z hz => by go_simp) ?_
                go_frame
                refine ord_pick (some 93) (.bool false) _ _ _ _ false rfl rfl rfl rfl (by first | exact wanted_none rfl | exact wanted_if rfl rfl rfl rfl) hs10 rfl ?_
                go_frame
                refine ord_end ?_
                clear hN8 hN9 hM9 hM hMt hrow hs8 hs9 hs10 hs hb hb9 hb10
                go_wp2
                go_roundg g
                case measure => omega
                case rel => exact ⟨j + 1, by omega, by go_num, HK10.out⟩
          | succ g =>
            have hlt : (j : Int) < (X.length : Int) := by omega
            obtain ⟨t, ht⟩ : ∃ t, X[j]? = some t := ⟨_, List.getElem?_eq_getElem (by omega)⟩
            obtain ⟨bb, o, rfl, hbl, hc⟩ := HXA.out (by omega)
            obtain ⟨ks, hkl, hks, hvx⟩ := hc j t ht
            have HBW := Lib.hid (HB2.out.trans (HKR.out.mono HB2.out.size))
            have HKS := Lib.hid (rangeAt_below hks HBW.out hbl)
            have HCL := Lib.hid hkl
            have HONE := Lib.hid hvx.one
            have HV := Lib.hid (fun z (hz : Below W.heap.size W z) => ((hvx.under (HB2.out.trans (hz.mono HB2.out.size))).more (HB2.out.trans (hz.mono HB2.out.size)).size))
            have HTJ := Lib.hid ht
            clear hc hks hvx ht hkl hbl
            go_upto_region 7 with (first | ((with_reducible refine wl_sload 30 _ rfl ?hwa bb (o + j * 10) ks _ rfl HKS.out Tryz.underlying30 rfl ?hia ?_); (case hwa => (first | exact wanted_none rfl | exact wanted_if rfl rfl rfl rfl)); (case hia => rw [HCL.out]; kernel_rfl)) | ((with_reducible refine wl_sbox 30 _ _ rfl ?hwxc wr ?zc ks ?hwldc ?hzc ?hxc ?hyc ?hic ?h1c ?_); (case hwldc => rfl); (case hxc => rfl); (case hyc => rfl); (case hwxc => (first | exact wanted_none rfl | exact wanted_if rfl rfl rfl rfl)); (case hzc => rw [HCL.out]; rfl); (case hic => rw [HCL.out]; kernel_rfl); (case h1c => exact HONE.out); intro Z hZ; have HZ := Lib.hid hZ; clear hZ))
            have HKZ := Lib.hid (HKR.out.trans (HZ.out.below.mono HKR.out.size))
            have HRZ := Lib.hid HZ.out.range
            have HCS := Lib.hid (esmall t ks Z (HV.out Z HKZ.out))
            go_wp2_with (first | ((with_reducible refine wl_sload 30 _ rfl ?hwb wr.heap.size 0 ks _ rfl HRZ.out Tryz.underlying30 rfl ?hib ?_); (case hwb => (first | exact wanted_none rfl | exact wanted_if rfl rfl rfl rfl)); (case hib => rw [HCL.out]; kernel_rfl)) | (go_at_call 8; fail))
            refine HCS.out.mono ?_
            rintro e w6 ⟨q, rfl, hb⟩
            have HK6 := Lib.hid (HKZ.out.trans (hb.mono HKZ.out.size))
            clear hb
            cases q with
            | false =>
              go_wp2
              go_ret
              exact ⟨rfl, HB2.out.trans (HK6.out.mono HB2.out.size)⟩
            | true =>
              go_wp2
              go_roundg g
              case measure => omega
              case rel => exact ⟨j + 1, by omega, by go_num, HK6.out⟩
set_option maxRecDepth 100000 in
theorem inferLabels_lifted (os : Os) (started : os.Started) (H : Type) (enc : TypeId × Value → H) :
    ReturnsInHanded {} Tryz.checked os 4 .any (Rows.inferLabelsSpec.pre6 enc Tryz.prog Tryz.f4 Rows.inferLabelsRow.domain false) (Rows.inferLabelsSpec.post enc Tryz.prog Tryz.f4 false true false false) := by
  refine returnsInHanded_of_change (C := Tryz.checked) own started (by kernel_rfl) Tryz.func4
    (ChangeSpec.witness6 (enc := enc) (C := Tryz.checked) false ⟨#[], #[.int .i64 0, .slice none 0 0, .slice none 0 0, .slice none 0 0], []⟩ 8 (by kernel_rfl) (by kernel_rfl) (by kernel_rfl) (by kernel_rfl)) ?_
  intro W base args ds gs before hval0 hW hcnd _
  have hval : ∀ (j : Nat) t v, Tryz.f4.params[j]? = some t → args[j]? = some v → Value.okWide Tryz.prog W .any base t v := hval0
  have hW' := hW
  obtain ⟨p, q, hA0, hV, rfl, hfz, hnd⟩ := hW
  have hA : DataW.TrodAll enc Tryz.prog W 0 (fun _ => true) true Tryz.f4.params.toList args.toList ds p := hA0
  rw [Tryz.params4] at hA hval
  obtain ⟨v0, vs0, d0, ds0, p0, q0, hargs, rfl, rfl, h0, r0⟩ := trodAll_cons hA
  obtain ⟨v1, vs1, d1, ds1, p1, q1, rfl, rfl, rfl, h1, r1⟩ := trodAll_cons r0
  obtain ⟨v2, vs2, d2, ds2, p2, q2, rfl, rfl, rfl, h2, r2⟩ := trodAll_cons r1
  obtain ⟨v3, vs3, d3, ds3, p3, q3, rfl, rfl, rfl, h3, r3⟩ := trodAll_cons r2
  obtain ⟨rfl, rfl, rfl⟩ := trodAll_nil r3
  obtain rfl : args = #[v0, v1, v2, v3] := by cases args; simp_all
  obtain ⟨rfl, rfl⟩ := trodVars_none hV
  obtain ⟨a0, rfl, rfl, rfl, w0⟩ := open_int Tryz.underlying3 (hval 0 3 v0 rfl rfl) h0
  obtain ⟨a1, len1, cap1, rfl⟩ := okWide_slice Tryz.underlying22 (hval 1 22 v1 rfl rfl)
  have k1 := h1
  have lt1 := lt_of_trod k1
  obtain ⟨z1, l1, w1⟩ := open_pairs h1
  have k2 := h2
  have lt2 := lt_of_trod k2
  obtain ⟨m2, hm2, hl2⟩ := exprs_arg (hval 2 28 v2 rfl rfl) h2
  have k3 := h3
  have lt3 := lt_of_trod k3
  obtain ⟨m3, hm3, hl3⟩ := vars_arg (hval 3 31 v3 rfl rfl) h3
  clear hA0 hval0
  refine (inferLabels_walk W a0 w0 a1 len1 cap1 z1 l1 w1 v2 m2 hm2 hl2 v3 m3 hm3 hl3).mono fun e W' ⟨he, bel⟩ => ?_
  subst he
  exact ⟨_, rfl, _, _, _, [], _, [], hW', trodAll_mk1 (shut_bool Tryz.underlying4 _), (trodAll_cons_mk (shut_int Tryz.underlying3 w0) (trodAll_cons_mk (Below.trod laidOut (by kernel_rfl) (of_decide_eq_true (by kernel_rfl)) k1 bel lt1) (trodAll_cons_mk (Below.trod laidOut (by kernel_rfl) (of_decide_eq_true (by kernel_rfl)) k2 bel lt2) (trodAll_cons_mk (Below.trod laidOut (by kernel_rfl) (of_decide_eq_true (by kernel_rfl)) k3 bel lt3) trodAll_mk0)))), rfl, bel.frame _, fun h => by cases h⟩
theorem inferLabels_proved : Rows.InferLabelsSaid :=
  OpenClaim.holds_of_wide 4 Tryz.f4 rfl rfl rfl rfl rfl rfl rfl ⟨rfl, rfl, rfl, rfl, rfl⟩ rfl rfl rfl rfl rfl (by kernel_rfl) Tryz.func4 (by kernel_rfl)
    (of_decide_eq_true (by kernel_rfl)) (by unfold Func.isWrapper; first | (rw [if_pos (by decide +kernel)]; kernel_rfl) | (rw [if_neg (by decide +kernel)]; exact ⟨rfl, rfl⟩))
    (fun os started H enc _ => inferLabels_lifted os started H enc)
#print axioms inferLabels_proved
end Go.Proofs.YtppmkehdhpgdcaaGreat
