/- THE STATEMENT RegionOrders is proved: for every model the Go function RegionOrders returns true, and its argument reads afterwards as before; without conditions. -/
import Derived.Test.YtedajbpjokmlaaaOrdModel
import Derived.Test.YtedajbpjokmlaaaNLongest
import Derived.Test.YtedajbpjokmlaaaOpen
namespace Go.Proofs.Ytedajbpjokmlaaa
open Go.ChangeShapes Go.WideShapes Go.ChangeAt Go.RowKit Go
set_option linter.unusedVariables false

set_option maxHeartbeats 8000000 in
set_option maxRecDepth 100000 in
theorem regionOrders_walk (w : World) (cs : List Value) (m : ModelT) (hv : ModelAt w w.heap.size cs m) :
    Calls Try.prog 7 #[.agg ⟨cs⟩] w fun e w' => e = .returned (.bool true) ∧ Below w.heap.size w w' := by
  have HM := Lib.hid hv
  obtain ⟨c1, c2, c3, c4, v5, rfl, hg⟩ := hv.graph
  have hgg : GraphAt w w.heap.size v5 (gOf m) := hg
  have HSG := Lib.hid (fun (h : SmallM m) => small_g h)
  generalize gOf m = g at *
  obtain ⟨c0, hc0⟩ : ∃ c0, c0 = Value.int .i64 m.labels := ⟨_, rfl⟩
  rw [← hc0] at HM
  rw [← hc0]
  clear hg hc0
  have HG := Lib.hid hgg
  obtain ⟨hgl, A, c, rfl, hA⟩ := hgg
  clear hA hgl
  go_enter Try.func7, Try.ntmps7
  go_upto_region 1 with (fail)
  have HB1 := Lib.hid (box_below w (.cells ⟨[c0, c1, c2, c3, c4, .slice A g.length c]⟩ 27))
  have HS1 := Lib.hid (box_size w (.cells ⟨[c0, c1, c2, c3, c4, .slice A g.length c]⟩ 27))
  have HC1 := Lib.hid (cells_box w [c0, c1, c2, c3, c4, .slice A g.length c] 27 5 _ rfl)
  have HR1 := Lib.hid (range_box w [c0, c1, c2, c3, c4, .slice A g.length c] 27)
  generalize w.alloc (.cells ⟨[c0, c1, c2, c3, c4, .slice A g.length c]⟩ 27) = W1 at *
  go_wp2_with (go_at_call 10; fail)
  refine (awake15 _).mono ?_
  rintro e w2 ⟨rfl, hb2⟩
  have HR2 := Lib.hid (rangeAt_below HR1.out hb2 HS1.out)
  have HBW2 := Lib.hid (HB1.out.trans (hb2.mono HB1.out.size))
  have HS2 := Lib.hid (Nat.lt_of_lt_of_le HS1.out hb2.size)
  have HC2 := Lib.hid ((hb2.cell (p := ⟨w.heap.size, 5, none⟩) HS1.out).trans HC1.out)
  clear HR1 HB1 HS1 HC1 hb2
  go_wp2_with (first | ((with_reducible refine wl_sload 27 _ rfl ?hw2 w.heap.size 0 [c0, c1, c2, c3, c4, .slice A g.length c] _ rfl HR2.out Try.underlying27 rfl ?hi2 ?_); (case hw2 => first | exact wanted_none rfl | exact wanted_if rfl rfl rfl rfl); (case hi2 => kernel_rfl)) | (go_at_call 11; fail))
  refine (msmall m _ w2 (HM.out.next HBW2.out)).mono ?_
  rintro e w3 ⟨b, rfl, hb3, hsm⟩
  have HR3 := Lib.hid (rangeAt_below HR2.out hb3 HS2.out)
  have HBW3 := Lib.hid (HBW2.out.trans (hb3.mono HBW2.out.size))
  have HS3 := Lib.hid (Nat.lt_of_lt_of_le HS2.out hb3.size)
  have HC3 := Lib.hid ((hb3.cell (p := ⟨w.heap.size, 5, none⟩) HS2.out).trans HC2.out)
  clear HR2 HBW2 HS2 HC2 hb3
  cases b with
  | false =>
    clear hsm
    go_wp2_with (go_at_call 10; fail)
    refine (awake15 _).mono ?_
    rintro e w4 ⟨rfl, hb4⟩
    have HBW4 := Lib.hid (HBW3.out.trans (hb4.mono HBW3.out.size))
    clear hb4
    go_wp2
    go_ret
    exact ⟨rfl, HBW4.out⟩
  | true =>
    have hsg := HSG.out (hsm rfl)
    have HN : Hid (g.length ≤ 100) := Lib.hid hsg.1
    have HEN : Hid ((edgesOf g).length ≤ 4100) := Lib.hid hsg.2
    have HL1 : Hid ((edgesOf g).length ≤ 10000) := Lib.hid (by have := HEN.out; omega)
    have HL2 : Hid (g.length ≤ 10000) := Lib.hid (by have := HN.out; omega)
    have HL3 : Hid (g.length ≤ 5000) := Lib.hid (by have := HN.out; omega)
    have HG3 := Lib.hid (HG.out.next HBW3.out)
    have hn2 : (g.length : Int) ≤ 100 := by have := HN.out; omega
    clear hsg hsm HG HSG
    have HCO := Lib.hid (order_any g c0 c1 c2 c3 c4 (.slice A g.length c) w3 HG3.out HL1.out HL2.out)
    go_upto_region 4 with (first | ((with_reducible refine wl_sload 27 _ rfl ?hw2 w.heap.size 0 [c0, c1, c2, c3, c4, .slice A g.length c] _ rfl HR3.out Try.underlying27 rfl ?hi2 ?_); (case hw2 => first | exact wanted_none rfl | exact wanted_if rfl rfl rfl rfl); (case hi2 => kernel_rfl)) | (go_at_call 15; refine HCO.out.mono ?_; rintro e w4 ⟨v3, rfl, hints, hb⟩; have HV3 := Lib.hid (OwnSl.ints hints (by have := ordL_len g; have := HN.out; omega)); have HB4 := Lib.hid hb; clear hints hb))
    have HR4 := Lib.hid (rangeAt_below HR3.out HB4.out HS3.out)
    have HBW4 := Lib.hid (HBW3.out.trans (HB4.out.mono HBW3.out.size))
    have HS4 := Lib.hid (Nat.lt_of_lt_of_le HS3.out HB4.out.size)
    have HC4 := Lib.hid ((HB4.out.cell (p := ⟨w.heap.size, 5, none⟩) HS3.out).trans HC3.out)
    have HG4 := Lib.hid (HG3.out.next HB4.out)
    clear HR3 HBW3 HS3 HC3 HG3
    clear HCO
    have HCO := Lib.hid (norder_any g c0 c1 c2 c3 c4 (.slice A g.length c) w4 HG4.out HL1.out HL3.out)
    go_upto_region 5 with (first | ((with_reducible refine wl_sload 27 _ rfl ?hw2 w.heap.size 0 [c0, c1, c2, c3, c4, .slice A g.length c] _ rfl HR4.out Try.underlying27 rfl ?hi2 ?_); (case hw2 => first | exact wanted_none rfl | exact wanted_if rfl rfl rfl rfl); (case hi2 => kernel_rfl)) | (go_at_call 20; refine HCO.out.mono ?_; rintro e w5 ⟨v4, rfl, hints, hb⟩; have HV4 := Lib.hid (OwnSl.ints hints (by have := ordL_len g; have := HN.out; omega)); have HB5 := Lib.hid hb; clear hints hb))
    have HR5 := Lib.hid (rangeAt_below HR4.out HB5.out HS4.out)
    have HBW5 := Lib.hid (HBW4.out.trans (HB5.out.mono HBW4.out.size))
    have HS5 := Lib.hid (Nat.lt_of_lt_of_le HS4.out HB5.out.size)
    have HC5 := Lib.hid ((HB5.out.cell (p := ⟨w.heap.size, 5, none⟩) HS4.out).trans HC4.out)
    have HG5 := Lib.hid (HG4.out.next HB5.out)
    clear HR4 HBW4 HS4 HC4 HG4
    clear HCO
    have HV3b := Lib.hid (HV3.out.below HB5.out)
    clear HV3
    have HCO := Lib.hid (weights_any g c0 c1 c2 c3 c4 (.slice A g.length c) w5 HG5.out HL1.out HL2.out)
    go_upto_region 6 with (first | ((with_reducible refine wl_sload 27 _ rfl ?hw2 w.heap.size 0 [c0, c1, c2, c3, c4, .slice A g.length c] _ rfl HR5.out Try.underlying27 rfl ?hi2 ?_); (case hw2 => first | exact wanted_none rfl | exact wanted_if rfl rfl rfl rfl); (case hi2 => kernel_rfl)) | (go_at_call 16; refine HCO.out.mono ?_; rintro e w6 ⟨v5, rfl, hints, hb⟩; have HV5 := Lib.hid hints; have HB6 := Lib.hid hb; clear hints hb))
    have HR6 := Lib.hid (rangeAt_below HR5.out HB6.out HS5.out)
    have HBW6 := Lib.hid (HBW5.out.trans (HB6.out.mono HBW5.out.size))
    have HS6 := Lib.hid (Nat.lt_of_lt_of_le HS5.out HB6.out.size)
    have HC6 := Lib.hid ((HB6.out.cell (p := ⟨w.heap.size, 5, none⟩) HS5.out).trans HC5.out)
    have HG6 := Lib.hid (HG5.out.next HB6.out)
    clear HR5 HBW5 HS5 HC5 HG5
    clear HCO
    have HV3c := Lib.hid (HV3b.out.below HB6.out)
    have HV4c := Lib.hid (HV4.out.below HB6.out)
    clear HV3b HV4
    have HCO := Lib.hid (nweights_any g c0 c1 c2 c3 c4 (.slice A g.length c) w6 HG6.out HL1.out HL3.out)
    go_upto_region 7 with (first | ((with_reducible refine wl_sload 27 _ rfl ?hw2 w.heap.size 0 [c0, c1, c2, c3, c4, .slice A g.length c] _ rfl HR6.out Try.underlying27 rfl ?hi2 ?_); (case hw2 => first | exact wanted_none rfl | exact wanted_if rfl rfl rfl rfl); (case hi2 => kernel_rfl)) | (go_at_call 21; refine HCO.out.mono ?_; rintro e w7 ⟨v6, rfl, hints, hb⟩; have HV6 := Lib.hid hints; have HB7 := Lib.hid hb; clear hints hb))
    have HR7 := Lib.hid (rangeAt_below HR6.out HB7.out HS6.out)
    have HBW7 := Lib.hid (HBW6.out.trans (HB7.out.mono HBW6.out.size))
    have HS7 := Lib.hid (Nat.lt_of_lt_of_le HS6.out HB7.out.size)
    have HC7 := Lib.hid ((HB7.out.cell (p := ⟨w.heap.size, 5, none⟩) HS6.out).trans HC6.out)
    have HG7 := Lib.hid (HG6.out.next HB7.out)
    clear HR6 HBW6 HS6 HC6 HG6
    clear HCO
    have HV3d := Lib.hid (HV3c.out.below HB7.out)
    have HV4d := Lib.hid (HV4c.out.below HB7.out)
    have HV5d := Lib.hid (HV5.out.below HB7.out)
    clear HV3c HV4c HV5
    have HCO := Lib.hid (longest_any g c0 c1 c2 c3 c4 (.slice A g.length c) w7 HG7.out HL1.out HL2.out)
    go_upto_region 8 with (first | ((with_reducible refine wl_sload 27 _ rfl ?hw2 w.heap.size 0 [c0, c1, c2, c3, c4, .slice A g.length c] _ rfl HR7.out Try.underlying27 rfl ?hi2 ?_); (case hw2 => first | exact wanted_none rfl | exact wanted_if rfl rfl rfl rfl); (case hi2 => kernel_rfl)) | (go_at_call 22; refine HCO.out.mono ?_; rintro e w8 ⟨rfl, hb⟩; have HB8 := Lib.hid hb; clear hb))
    have HR8 := Lib.hid (rangeAt_below HR7.out HB8.out HS7.out)
    have HBW8 := Lib.hid (HBW7.out.trans (HB8.out.mono HBW7.out.size))
    have HS8 := Lib.hid (Nat.lt_of_lt_of_le HS7.out HB8.out.size)
    have HC8 := Lib.hid ((HB8.out.cell (p := ⟨w.heap.size, 5, none⟩) HS7.out).trans HC7.out)
    have HG8 := Lib.hid (HG7.out.next HB8.out)
    clear HR7 HBW7 HS7 HC7 HG7
    clear HCO
    have HCO := Lib.hid (nlongest_any g c0 c1 c2 c3 c4 (.slice A g.length c) w8 HG8.out HL1.out HL3.out)
    go_upto_region 9 with (first | ((with_reducible refine wl_sload 27 _ rfl ?hw2 w.heap.size 0 [c0, c1, c2, c3, c4, .slice A g.length c] _ rfl HR8.out Try.underlying27 rfl ?hi2 ?_); (case hw2 => first | exact wanted_none rfl | exact wanted_if rfl rfl rfl rfl); (case hi2 => kernel_rfl)) | (go_at_call 23; refine HCO.out.mono ?_; rintro e w9 ⟨rfl, hb⟩; have HB9 := Lib.hid hb; clear hb))
    have HR9 := Lib.hid (rangeAt_below HR8.out HB9.out HS8.out)
    have HBW9 := Lib.hid (HBW8.out.trans (HB9.out.mono HBW8.out.size))
    have HS9 := Lib.hid (Nat.lt_of_lt_of_le HS8.out HB9.out.size)
    have HC9 := Lib.hid ((HB9.out.cell (p := ⟨w.heap.size, 5, none⟩) HS8.out).trans HC8.out)
    have HG9 := Lib.hid (HG8.out.next HB9.out)
    clear HR8 HBW8 HS8 HC8 HG8
    clear HCO
    have HBN := Lib.hid (HB8.out.trans (HB9.out.mono HB8.out.size))
    have HI3 := Lib.hid (HV3d.out.below HBN.out)
    have HI4 := Lib.hid (HV4d.out.below HBN.out)
    have HI5 := Lib.hid (HV5d.out.below HBN.out)
    have HI6 := Lib.hid (HV6.out.below HBN.out)
    clear HV3d HV4d HV5d HV6 HBN
    have HCL := Lib.hid (fun z (hz : Below w9.heap.size w9 z) => loops_any g c0 c1 c2 c3 c4 (.slice A g.length c) z (HG9.out.next hz) HL1.out HL2.out)
    have HCK := Lib.hid (fun z (hz : Below w9.heap.size w9 z) => rloops_any g c0 c1 c2 c3 c4 (.slice A g.length c) z (HG9.out.next hz) HL1.out HL3.out)
    have HLL := Lib.hid (loopsOf_len g)
    generalize okOf g = ok at *
    generalize longestOf g = far at *
    generalize ordL g = OL at *
    generalize weightsL g = WL at *
    generalize loopsOf g = LP at *
    go_wp2_with (fail)
    refine wp_region_ord [(0, true), (1, true), (2, true), (3, true), (4, true), (5, true), (6, false), (7, true), (8, true), (9, true), (10, true), (11, true), (12, true), (13, true), (14, true), (15, true), (16, false), (17, true), (18, true), (19, true), (20, true), (21, true), (22, true), (23, true), (24, true), (25, true), (26, true), (27, true), (28, true), (29, true), (31, true), (30, false), (32, false), (33, false), (34, true), (35, true)]
      (fun z => Below w9.heap.size w9 z) (by kernel_rfl) (by kernel_rfl) (by kernel_rfl) rfl (by intro c a d v w h; cases d <;> exact h) ?_
    have hs : Below w9.heap.size w9 w9.drew := (Below.refl _ w9).drew
    refine ord_move (some 53) (.bool ok) _ _ rfl rfl rfl (by first | exact wanted_none rfl | exact wanted_if rfl rfl rfl rfl) hs rfl ?_
    go_frame
    refine ord_move (some 54) (.bool ok) _ _ rfl rfl rfl (by first | exact wanted_none rfl | exact wanted_if rfl rfl rfl rfl) hs rfl ?_
    go_frame
    refine ord_load (some 55) (.bool true) _ rfl rfl (by first | exact wanted_none rfl | exact wanted_if rfl rfl rfl rfl) hs (fun z hz => by cases ok <;> go_simp) ?_
    go_frame
    refine ord_move (some 56) (.bool true) _ _ rfl rfl rfl (by first | exact wanted_none rfl | exact wanted_if rfl rfl rfl rfl) hs rfl ?_
    go_frame
    refine ord_move (some 57) v3 _ _ rfl rfl rfl (by first | exact wanted_none rfl | exact wanted_if rfl rfl rfl rfl) hs rfl ?_
    go_frame
    refine ord_move (some 58) v4 _ _ rfl rfl rfl (by first | exact wanted_none rfl | exact wanted_if rfl rfl rfl rfl) hs rfl ?_
    go_frame
    refine ord_to (some 59) 24 Try.func24 (by kernel_rfl) (by kernel_rfl) [v3, v4] _ _ _ rfl rfl rfl (by first | exact wanted_none rfl | exact wanted_if rfl rfl rfl rfl) rfl ?_
    have sm := same_ints v3 v4 OL OL (w9.drew) (HI3.out.below hs) (HI4.out.below hs)
    rw [show (OL == OL) = true from beq_self_eq_true _] at sm
    refine sm.mono ?_
    rintro e z ⟨rfl, m1, rfl⟩
    have hs1 : Below w9.heap.size w9 ((w9.drew).drewN m1) := below_drewN hs m1
    refine ⟨.bool true, rfl, hs1, ?_⟩
    go_frame
    refine ord_pick (some 60) (.bool true) _ _ _ _ true rfl rfl rfl rfl (by first | exact wanted_none rfl | exact wanted_if rfl rfl rfl rfl) hs1 rfl ?_
    go_frame
    refine ord_move (some 61) (.bool true) _ _ rfl rfl rfl (by first | exact wanted_none rfl | exact wanted_if rfl rfl rfl rfl) hs1 rfl ?_
    go_frame
    refine ord_move (some 62) (.bool ok) _ _ rfl rfl rfl (by first | exact wanted_none rfl | exact wanted_if rfl rfl rfl rfl) hs1 rfl ?_
    go_frame
    refine ord_move (some 63) (.bool ok) _ _ rfl rfl rfl (by first | exact wanted_none rfl | exact wanted_if rfl rfl rfl rfl) hs1 rfl ?_
    go_frame
    refine ord_load (some 64) (.bool true) _ rfl rfl (by first | exact wanted_none rfl | exact wanted_if rfl rfl rfl rfl) hs1 (fun z hz => by cases ok <;> go_simp) ?_
    go_frame
    refine ord_pick (some 65) (.bool true) _ _ _ _ true rfl rfl rfl rfl (by first | exact wanted_none rfl | exact wanted_if rfl rfl rfl rfl) hs1 rfl ?_
    go_frame
    refine ord_move (some 66) (.bool true) _ _ rfl rfl rfl (by first | exact wanted_none rfl | exact wanted_if rfl rfl rfl rfl) hs1 rfl ?_
    go_frame
    refine ord_move (some 67) v5 _ _ rfl rfl rfl (by first | exact wanted_none rfl | exact wanted_if rfl rfl rfl rfl) hs1 rfl ?_
    go_frame
    refine ord_move (some 68) v6 _ _ rfl rfl rfl (by first | exact wanted_none rfl | exact wanted_if rfl rfl rfl rfl) hs1 rfl ?_
    go_frame
    refine ord_to (some 69) 24 Try.func24 (by kernel_rfl) (by kernel_rfl) [v5, v6] _ _ _ rfl rfl rfl (by first | exact wanted_none rfl | exact wanted_if rfl rfl rfl rfl) rfl ?_
    have sm := same_ints v5 v6 WL WL (w9.drew.drewN m1) (HI5.out.below hs1) (HI6.out.below hs1)
    rw [show (WL == WL) = true from beq_self_eq_true _] at sm
    refine sm.mono ?_
    rintro e z ⟨rfl, m2, rfl⟩
    have hs2 : Below w9.heap.size w9 ((w9.drew.drewN m1).drewN m2) := below_drewN hs1 m2
    refine ⟨.bool true, rfl, hs2, ?_⟩
    go_frame
    refine ord_pick (some 70) (.bool true) _ _ _ _ true rfl rfl rfl rfl (by first | exact wanted_none rfl | exact wanted_if rfl rfl rfl rfl) hs2 rfl ?_
    go_frame
    refine ord_move (some 71) (.bool true) _ _ rfl rfl rfl (by first | exact wanted_none rfl | exact wanted_if rfl rfl rfl rfl) hs2 rfl ?_
    go_frame
    refine ord_move (some 72) (.int .i64 far) _ _ rfl rfl rfl (by first | exact wanted_none rfl | exact wanted_if rfl rfl rfl rfl) hs2 rfl ?_
    go_frame
    refine ord_move (some 73) (.int .i64 far) _ _ rfl rfl rfl (by first | exact wanted_none rfl | exact wanted_if rfl rfl rfl rfl) hs2 rfl ?_
    go_frame
    refine ord_load (some 74) (.bool true) _ rfl rfl (by first | exact wanted_none rfl | exact wanted_if rfl rfl rfl rfl) hs2 (fun z hz => by go_simp) ?_
    go_frame
    refine ord_pick (some 75) (.bool true) _ _ _ _ true rfl rfl rfl rfl (by first | exact wanted_none rfl | exact wanted_if rfl rfl rfl rfl) hs2 rfl ?_
    go_frame
    refine ord_move (some 76) (.bool true) _ _ rfl rfl rfl (by first | exact wanted_none rfl | exact wanted_if rfl rfl rfl rfl) hs2 rfl ?_
    go_frame
    refine ord_move (some 77) (.bool ok) _ _ rfl rfl rfl (by first | exact wanted_none rfl | exact wanted_if rfl rfl rfl rfl) hs2 rfl ?_
    go_frame
    refine ord_move (some 78) (.bool ok) _ _ rfl rfl rfl (by first | exact wanted_none rfl | exact wanted_if rfl rfl rfl rfl) hs2 rfl ?_
    go_frame
    refine ord_load (some 79) (.bool true) _ rfl rfl (by first | exact wanted_none rfl | exact wanted_if rfl rfl rfl rfl) hs2 (fun z hz => by cases ok <;> go_simp) ?_
    go_frame
    refine ord_pick (some 80) (.bool true) _ _ _ _ true rfl rfl rfl rfl (by first | exact wanted_none rfl | exact wanted_if rfl rfl rfl rfl) hs2 rfl ?_
    go_frame
    refine ord_move (some 81) (.bool true) _ _ rfl rfl rfl (by first | exact wanted_none rfl | exact wanted_if rfl rfl rfl rfl) hs2 rfl ?_
    go_frame
    refine ord_load (some 82) (.agg ⟨[c0, c1, c2, c3, c4, .slice A g.length c]⟩) _ rfl rfl (by first | exact wanted_none rfl | exact wanted_if rfl rfl rfl rfl) hs2 (fun z hz => exec_mload _ _ rfl w.heap.size _ rfl rfl (rangeAt_below HR9.out hz HS9.out)) ?_
    go_frame
    refine ord_load (some 84) (.agg ⟨[c0, c1, c2, c3, c4, .slice A g.length c]⟩) _ rfl rfl (by first | exact wanted_none rfl | exact wanted_if rfl rfl rfl rfl) hs2 (fun z hz => exec_mload _ _ rfl w.heap.size _ rfl rfl (rangeAt_below HR9.out hz HS9.out)) ?_
    go_frame
    generalize (w9.drew.drewN m1).drewN m2 = y0 at *
    refine ord_to (some 83) 17 Try.func17 (by kernel_rfl) (by kernel_rfl) [.agg ⟨[c0, c1, c2, c3, c4, .slice A g.length c]⟩] _ _ _ rfl rfl rfl (by first | exact wanted_none rfl | exact wanted_if rfl rfl rfl rfl) rfl ?_
    refine (HCL.out _ hs2).mono ?_
    rintro e y1 ⟨p1, rfl, ho1, hb1⟩
    have hs3 : Below w9.heap.size w9 y1 := hs2.trans (hb1.mono hs2.size)
    refine ⟨p1, rfl, hs3, ?_⟩
    go_frame
    refine ord_to (some 85) 25 Try.func25 (by kernel_rfl) (by kernel_rfl) [.agg ⟨[c0, c1, c2, c3, c4, .slice A g.length c]⟩] _ _ _ rfl rfl rfl (by first | exact wanted_none rfl | exact wanted_if rfl rfl rfl rfl) rfl ?_
    refine (HCK.out _ hs3).mono ?_
    rintro e y2 ⟨p2, rfl, ho2, hb2⟩
    have hs4 : Below w9.heap.size w9 y2 := hs3.trans (hb2.mono hs3.size)
    refine ⟨p2, rfl, hs4, ?_⟩
    go_frame
    refine ord_to (some 86) 24 Try.func24 (by kernel_rfl) (by kernel_rfl) [p1, p2] _ _ _ rfl rfl rfl (by first | exact wanted_none rfl | exact wanted_if rfl rfl rfl rfl) rfl ?_
    have sm := same_ints p1 p2 LP LP (y2) ((OwnSl.ints ho1 (by have := HLL.out; have := HN.out; omega)).below hb2) (OwnSl.ints ho2 (by have := HLL.out; have := HN.out; omega))
    rw [show (LP == LP) = true from beq_self_eq_true _] at sm
    refine sm.mono ?_
    rintro e z ⟨rfl, m3, rfl⟩
    have hs5 : Below w9.heap.size w9 ((y2).drewN m3) := below_drewN hs4 m3
    refine ⟨.bool true, rfl, hs5, ?_⟩
    go_frame
    refine ord_pick (some 87) (.bool true) _ _ _ _ true rfl rfl rfl rfl (by first | exact wanted_none rfl | exact wanted_if rfl rfl rfl rfl) hs5 rfl ?_
    go_frame
    refine ord_assign (some 2) (.bool true) _ _ rfl rfl rfl (by first | exact wanted_none rfl | exact wanted_if rfl rfl rfl rfl) hs5 rfl ?_
    go_frame
    refine ord_end ?_
    clear hs hs1 hs2 hs3 hs4
    go_wp2
    go_ret
    exact ⟨rfl, HBW9.out.trans (hs5.mono HBW9.out.size)⟩

set_option maxRecDepth 100000 in
/-- the row's step, argument by argument -/
theorem regionOrders_lifted (os : Os) (started : os.Started) (H : Type) (enc : TypeId × Value → H) :
    ReturnsInHanded {} Try.checked os 7 .any (Rows.regionOrdersSpec.pre6 enc Try.prog Try.f7 Rows.regionOrdersRow.domain false) (Rows.regionOrdersSpec.post enc Try.prog Try.f7 false true false false) := by
  refine returnsInHanded_of_change (C := Try.checked) own started (by kernel_rfl) Try.func7
    (ChangeSpec.witness6 (enc := enc) (C := Try.checked) false ⟨#[], #[.agg #[.int .i64 0, .slice none 0 0, .slice none 0 0, .slice none 0 0, .slice none 0 0, .slice none 0 0]], []⟩ 8 (by kernel_rfl) (by kernel_rfl) (by kernel_rfl) (by kernel_rfl)) ?_
  intro W base args ds gs before hval0 hW hcnd _
  have hval : ∀ (j : Nat) t v, Try.f7.params[j]? = some t → args[j]? = some v → Value.okWide Try.prog W .any base t v := hval0
  have hW' := hW
  obtain ⟨p, q, hA0, hV, rfl, hfz, hnd⟩ := hW
  have hA : DataW.TrodAll enc Try.prog W 0 (fun _ => true) true Try.f7.params.toList args.toList ds p := hA0
  rw [Try.params7] at hA hval
  obtain ⟨v0, vs0, d0, ds0, p0, q0, hargs, rfl, rfl, h0, r0⟩ := trodAll_cons hA
  obtain ⟨rfl, rfl, rfl⟩ := trodAll_nil r0
  obtain rfl : args = #[v0] := by cases args; simp_all
  obtain ⟨rfl, rfl⟩ := trodVars_none hV
  have k0 := h0
  have lt0 := lt_of_trod k0
  obtain ⟨cs0, m0, rfl, hm0⟩ := model_arg (hval 0 27 v0 rfl rfl) h0
  clear hA0 hval0
  refine (regionOrders_walk W cs0 m0 hm0).mono fun e W' ⟨he, bel⟩ => ?_
  subst he
  exact ⟨_, rfl, _, _, _, [], _, [], hW', trodAll_mk1 (shut_bool Try.underlying4 _), (trodAll_cons_mk (Below.trod laidOut (by kernel_rfl) (of_decide_eq_true (by kernel_rfl)) k0 bel lt0) trodAll_mk0), rfl, bel.frame _, fun h => by cases h⟩

theorem regionOrders_proved : Rows.RegionOrdersSaid :=
  OpenClaim.holds_of_wide 7 Try.f7 rfl rfl rfl rfl rfl rfl rfl ⟨rfl, rfl, rfl, rfl, rfl⟩ rfl rfl rfl rfl rfl (by kernel_rfl) Try.func7 (by kernel_rfl)
    (of_decide_eq_true (by kernel_rfl)) (by unfold Func.isWrapper; first | (rw [if_pos (by decide +kernel)]; kernel_rfl) | (rw [if_neg (by decide +kernel)]; exact ⟨rfl, rfl⟩))
    (fun os started H enc _ => regionOrders_lifted os started H enc)
#print axioms regionOrders_proved

end Go.Proofs.Ytedajbpjokmlaaa
