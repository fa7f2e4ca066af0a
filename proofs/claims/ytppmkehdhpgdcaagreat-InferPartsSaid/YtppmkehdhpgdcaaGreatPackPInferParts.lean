/- THE STATEMENT InferParts is proved: for every number, every list of pairs, any two expressions and all variables the Go function InferParts returns true, and its arguments read afterwards as before; without conditions. -/
import Derived.Test.YtppmkehdhpgdcaaGreatPackP14
import Derived.Test.YtppmkehdhpgdcaaGreatPackP18
import Derived.Test.YtppmkehdhpgdcaaGreatPackP30
import Derived.Test.YtppmkehdhpgdcaaGreatPackP45
import Derived.Test.YtppmkehdhpgdcaaGreatPackP52
import Derived.Test.YtppmkehdhpgdcaaGreatPackP54
namespace Go.Proofs.YtppmkehdhpgdcaaGreat
open Go Go.ChangeShapes Go.WideShapes Go.ChangeAt Go.RowKit P
set_option linter.unusedVariables false
set_option linter.unusedSimpArgs false
theorem exp_two {w : World} {g : Nat} {ca cb : List Value} {x y : ET} (hg : Whole 30 w g (ca ++ cb)) (ha : ExpAt w w.heap.size ca x) (hb : ExpAt w w.heap.size cb y) : ExpAt w w.heap.size (twoC 10 g) (twoE 10 x y) :=
  (two_kept (p := fun _ => True) (wf_int 10 (by decide +kernel)) hg trivial (ExpAt.cells ha fun a v hv => only_cell.2 ⟨trivial, hv⟩) (ExpAt.cells hb fun a v hv => only_cell.2 ⟨trivial, hv⟩)).exp
theorem twoC_len (k : Int) (g : Nat) : (twoC k g).length = 10 := rfl
theorem twoC_one (k : Int) (g : Nat) : ∀ v ∈ twoC k g, v.oneCell' = true := by
  intro v hv
  simp only [twoC, zVc, List.mem_cons, List.mem_append, List.not_mem_nil, or_false] at hv
  rcases hv with rfl | rfl | (rfl | rfl | rfl | rfl | rfl | rfl) | rfl | rfl <;> rfl
set_option maxHeartbeats 4000000 in
set_option maxRecDepth 100000 in
theorem inferParts_walk (w : World) (n : Int) (_wn : (Lit.int .i64 n).wf = true) (A : Option Addr) (l c : Nat) (ps : List (Int × Int)) (hl : ps.length = l) (hp : Pairs w w.heap.size A ps)
    (ca : List Value) (x : ET) (hx : ExpAt w w.heap.size ca x) (cb : List Value) (y : ET) (hy : ExpAt w w.heap.size cb y) (v : Value) (E : List VarT) (hE : SlAt w w.heap.size 11 (VarAt w w.heap.size) v E) (hEl : E.length ≤ maxLen) :
    Calls Tryz.prog 3 #[.int .i64 n, .slice A l c, .agg ⟨ca⟩, .agg ⟨cb⟩, v] w fun e w' => e = .returned (.bool true) ∧ Below w.heap.size w w' := by
  have HLA := Lib.hid (eslen hx)
  have HLB := Lib.hid (eslen hy)
  have HO1 := Lib.hid hx.one
  have HO2 := Lib.hid hy.one
  have HX := Lib.hid hx
  have HY := Lib.hid hy
  have HE := Lib.hid hE
  obtain ⟨_, EA, ec, rfl, _⟩ := hE
  have hz := rzero
  obtain ⟨i0, hi, hz0, hz1, hz2⟩ := info_parts info_exp
  have HI0 := Lib.hid hi
  have HZ0 := Lib.hid hz0
  have HZ1 := Lib.hid hz1
  have HP := Lib.hid hp
  clear hi hz0 hz1 hz2 hx hy hp
  go_enter Tryz.func3, Tryz.ntmps3
  go_upto_region 1 with (fail)
  have HA := Lib.hid ((Whole.new w ca 30).keep (w' := (w.alloc (.cells ⟨ca⟩ 30)).alloc (.cells ⟨cb⟩ 30)) (by rw [Lib.alloc_old _ _ _ (by simp)]))
  have HB := Lib.hid (Whole.new (w.alloc (.cells ⟨ca⟩ 30)) cb 30)
  have HW : Hid (Below w.heap.size w ((w.alloc (.cells ⟨ca⟩ 30)).alloc (.cells ⟨cb⟩ 30))) := Lib.hid (((Below.refl _ w).alloc (Nat.le_refl _) _).alloc (by simp) _)
  have e1 : (w.alloc (.cells ⟨ca⟩ 30)).heap.size = w.heap.size + 1 := by simp
  rw [e1] at HB
  clear e1
  generalize (w.alloc (.cells ⟨ca⟩ 30)).alloc (.cells ⟨cb⟩ 30) = W0 at *
  have CB := Lib.hid (both11_all n A l c ps W0 hl ((HP.out.below HW.out).more HW.out.size))
  clear hl
  go_wp2_with fail
  refine CB.out.mono ?_
  rintro e w1 ⟨hb, (⟨N, L, rfl⟩ | ⟨_, _, k, b, rfl, rfl, hlat⟩)⟩
  · have HB1 := Lib.hid (HW.out.trans (hb.mono HW.out.size))
    have HM := Lib.hid (Rm.new w1 0 (fun _ _ => false) 36)
    have HB2 := Lib.hid (below_setCells (HB1.out.alloc HB1.out.size (.cells (rv 0 fun _ _ => false) 36)) (b := w1.heap.size) HB1.out.size (rl N L) 0)
    clear hb CB
    go_wp2_with (first | ((with_reducible show wpList _ _ _ _ _ _); refine wl_rstore _ _ rfl ?hw w1.heap.size N L rfl rfl ?hm ?_; (case hw => simp [Region.wanted]); (case hm => exact ⟨_, _, HM.out⟩)) | (go_at_call 7; fail))
    generalize World.setCells _ _ _ _ = W at *
    refine (awake11 _).mono ?_
    rintro e w2 ⟨rfl, hb⟩
    have HB3 := Lib.hid (HB2.out.trans (hb.mono HB2.out.size))
    clear hb
    go_wp2_with fail
    refine (awake11 _).mono ?_
    rintro e w9 ⟨rfl, hb⟩
    have HB9 := Lib.hid (HB3.out.trans (hb.mono HB3.out.size))
    clear hb
    go_wp2
    go_ret
    exact ⟨rfl, HB9.out⟩
  · have HB1 := Lib.hid (HW.out.trans (hb.mono HW.out.size))
    have HM := Lib.hid (Rm.new w1 0 (fun _ _ => false) 36)
    have HB2 := Lib.hid (below_setCells (HB1.out.alloc HB1.out.size (.cells (rv 0 fun _ _ => false) 36)) (b := w1.heap.size) HB1.out.size (rl k (ordOf k ps)) 0)
    have hb0 := (below_setCells (hb.alloc hb.size (.cells (rv 0 fun _ _ => false) 36)) (b := w1.heap.size) hb.size (rl k (ordOf k ps)) 0)
    have hl2 := ((hlat.alloc (.cells (rv 0 fun _ _ => false) 36)).below (below_setCells (Below.refl w1.heap.size _) (Nat.le_refl _) (rl k (ordOf k ps)) 0) hlat.lt)
    have HLAT := Lib.hid hlat.lat
    have h8 := hlat.le8
    have HUB := Lib.hid (fun z (hz : Below ((w1.alloc (.cells (rv 0 fun _ _ => false) 36)).setCells w1.heap.size 0 (rl k (ordOf k ps))).heap.size ((w1.alloc (.cells (rv 0 fun _ _ => false) 36)).setCells w1.heap.size 0 (rl k (ordOf k ps))) z) => (⟨hl2.here hz, rangeAt_below HA.out.range (hb0.trans (hz.mono hb0.size)) HA.out.lt, rangeAt_below HB.out.range (hb0.trans (hz.mono hb0.size)) HB.out.lt⟩ : LatR z b k (ordOf k ps) ∧ z.rangeAt w.heap.size 0 ca ∧ z.rangeAt (w.heap.size + 1) 0 cb))
    clear hb hlat CB hl2 hb0
    go_wp2_with (first | ((with_reducible show wpList _ _ _ _ _ _); refine wl_rstore _ _ rfl ?hw w1.heap.size k (ordOf k ps) rfl rfl ?hm ?_; (case hw => simp [Region.wanted]); (case hm => exact ⟨_, _, HM.out⟩)) | (go_at_call 7; fail))
    clear HM
    generalize World.setCells _ _ _ _ = W at *
    generalize ordOf k ps = L at *
    have HEB := Lib.hid (fun z (hz : Below W.heap.size W z) => ((HE.out.below (HB2.out.trans (hz.mono HB2.out.size)) fun _ _ _ h => (h.under (HB2.out.trans (hz.mono HB2.out.size))).more (HB2.out.trans (hz.mono HB2.out.size)).size).more (HB2.out.trans (hz.mono HB2.out.size)).size : SlAt z z.heap.size 11 (VarAt z z.heap.size) (.slice EA E.length ec) E))
    have HXB := Lib.hid (fun z (hz : Below W.heap.size W z) => ((HX.out.under (HB2.out.trans (hz.mono HB2.out.size))).more (HB2.out.trans (hz.mono HB2.out.size)).size : ExpAt z z.heap.size ca x))
    have HYB := Lib.hid (fun z (hz : Below W.heap.size W z) => ((HY.out.under (HB2.out.trans (hz.mono HB2.out.size))).more (HB2.out.trans (hz.mono HB2.out.size)).size : ExpAt z z.heap.size cb y))
    refine (awake11 _).mono ?_
    rintro e w2 ⟨rfl, hb⟩
    have HK2 := Lib.hid hb
    have HB3 := Lib.hid (HB2.out.trans (hb.mono HB2.out.size))
    clear hb
    have HS1 := Lib.hid (esmall x ca w2 (HXB.out w2 HK2.out))
    have HR1 := Lib.hid (HUB.out w2 HK2.out).2.1
    go_wp2_with (first | ((with_reducible refine wl_sload 30 _ rfl ?hwa w.heap.size 0 ca _ rfl HR1.out Tryz.underlying30 rfl ?hia ?_); (case hwa => (first | exact wanted_none rfl | exact wanted_if rfl rfl rfl rfl)); (case hia => rw [HLA.out]; kernel_rfl)) | (go_at_call 8; fail))
    refine HS1.out.mono ?_
    rintro e w3 ⟨q1, rfl, hb⟩
    have HK3 := Lib.hid (HK2.out.trans (hb.mono HK2.out.size))
    have HB4 := Lib.hid (HB3.out.trans (hb.mono HB3.out.size))
    clear hb HS1 HR1
    cases q1 with
    | false =>
      go_wp2_with fail
      refine (awake11 _).mono ?_
      rintro e w9 ⟨rfl, hb⟩
      have HB9 := Lib.hid (HB4.out.trans (hb.mono HB4.out.size))
      clear hb
      go_wp2
      go_ret
      exact ⟨rfl, HB9.out⟩
    | true =>
      have HS2 := Lib.hid (esmall y cb w3 (HYB.out w3 HK3.out))
      have HR2 := Lib.hid (HUB.out w3 HK3.out).2.2
      go_wp2_with (first | ((with_reducible refine wl_sload 30 _ rfl ?hwb (w.heap.size + 1) 0 cb _ rfl HR2.out Tryz.underlying30 rfl ?hib ?_); (case hwb => (first | exact wanted_none rfl | exact wanted_if rfl rfl rfl rfl)); (case hib => rw [HLB.out]; kernel_rfl)) | (go_at_call 8; fail))
      refine HS2.out.mono ?_
      rintro e w4 ⟨q2, rfl, hb⟩
      have HK4 := Lib.hid (HK3.out.trans (hb.mono HK3.out.size))
      have HB5 := Lib.hid (HB4.out.trans (hb.mono HB4.out.size))
      clear hb HS2 HR2
      cases q2 with
      | false =>
        go_wp2_with fail
        refine (awake11 _).mono ?_
        rintro e w9 ⟨rfl, hb⟩
        have HB9 := Lib.hid (HB5.out.trans (hb.mono HB5.out.size))
        clear hb
        go_wp2
        go_ret
        exact ⟨rfl, HB9.out⟩
      | true =>
        have HS3 := Lib.hid (rvsmall E (.slice EA E.length ec) w4 (HEB.out w4 HK4.out) hEl)
        go_wp2_with (go_at_call 9; fail)
        refine HS3.out.mono ?_
        rintro e w5 ⟨q3, rfl, hq, hb⟩
        have HK5 := Lib.hid (HK4.out.trans (hb.mono HK4.out.size))
        have HB6 := Lib.hid (HB5.out.trans (hb.mono HB5.out.size))
        clear hb HS3
        cases q3 with
        | false =>
          clear hq
          go_wp2_with fail
          refine (awake11 _).mono ?_
          rintro e w9 ⟨rfl, hb⟩
          have HB9 := Lib.hid (HB6.out.trans (hb.mono HB6.out.size))
          clear hb
          go_wp2
          go_ret
          exact ⟨rfl, HB9.out⟩
        | true =>
          have hel := hq rfl
          have HEL := Lib.hid hel
          clear hq hel
          have HRX := Lib.hid (HUB.out w5 HK5.out).2.1
          have HRY := Lib.hid (HUB.out w5 HK5.out).2.2
          go_upto_region 5 with (first | ((with_reducible refine wl_sload 30 _ rfl ?hwc w.heap.size 0 ca _ rfl HRX.out Tryz.underlying30 rfl ?hic ?_); (case hwc => (first | exact wanted_none rfl | exact wanted_if rfl rfl rfl rfl)); (case hic => rw [HLA.out]; kernel_rfl)) | ((with_reducible refine wl_sload 30 _ rfl ?hwd (w.heap.size + 1) 0 cb _ rfl HRY.out Tryz.underlying30 rfl ?hid ?_); (case hwd => (first | exact wanted_none rfl | exact wanted_if rfl rfl rfl rfl)); (case hid => rw [HLB.out]; kernel_rfl)) | ((with_reducible refine wl_build2 _ _ _ rfl ?hwg 30 i0 _ ca cb rfl rfl Tryz.underlying28 HI0.out HZ0.out ?hs1 ?hs2 ?hs3 ?hs4 ?_); (case hwg => first | exact wanted_none rfl | exact wanted_if rfl rfl rfl rfl); (case hs1 => rw [HZ1.out, HLA.out]); (case hs2 => rw [HLA.out, HLB.out]); (case hs3 => rw [HLA.out]; decide); (case hs4 => rw [HLA.out]; decide); have HG := Lib.hid (Whole.new w5 (ca ++ cb) 30); have HK6 := Lib.hid (HK5.out.alloc HK5.out.size (.cells ⟨ca ++ cb⟩ 30)); generalize hg : w5.alloc (.cells ⟨ca ++ cb⟩ 30) = w6 at *) | ((with_reducible refine wl_sbox 30 _ _ rfl ?hwxh w6 ?zh (twoC 10 w5.heap.size) ?hwldh ?hzh ?hxh ?hyh ?hih ?h1h ?_); (case hwldh => rfl); (case hxh => rfl); (case hyh => rfl); (case hwxh => (first | exact wanted_none rfl | exact wanted_if rfl rfl rfl rfl)); (case hzh => rfl); (case hih => kernel_rfl); (case h1h => exact twoC_one 10 _); intro Z hZ; have HZ := Lib.hid hZ; clear hZ))
          have HK7 := Lib.hid (HK6.out.trans (HZ.out.below.mono HK6.out.size))
          have HG7 := Lib.hid (HG.out.keep (HZ.out.below.block _ HG.out.lt))
          have HU := Lib.hid (fun z (hz : Below Z.heap.size Z z) => (⟨(HUB.out z (HK7.out.trans (hz.mono HK7.out.size))), rangeAt_below HZ.out.range hz HZ.out.size, exp_two (HG7.out.keep (hz.block _ HG7.out.lt)) (HXB.out z (HK7.out.trans (hz.mono HK7.out.size))) (HYB.out z (HK7.out.trans (hz.mono HK7.out.size))), HK7.out.trans (hz.mono HK7.out.size), HB2.out.trans ((HK7.out.trans (hz.mono HK7.out.size)).mono HB2.out.size)⟩ : (LatR z b k L ∧ z.rangeAt w.heap.size 0 ca ∧ z.rangeAt (w.heap.size + 1) 0 cb) ∧ z.rangeAt w6.heap.size 0 (twoC 10 w5.heap.size) ∧ ExpAt z z.heap.size (twoC 10 w5.heap.size) (twoE 10 x y) ∧ Below W.heap.size W z ∧ Below w.heap.size w z))
          have HRZ3 := Lib.hid (HU.out Z (Below.refl _ _)).2.1
          have HQ := Lib.hid (rrightE (twoE 10 x y) (twoC 10 w5.heap.size) Z (HU.out Z (Below.refl _ _)).2.2.1)
          clear HRX HRY HK6 HG HI0 HZ0 HZ1 HA HB HX HY HE HP HUB
          go_wp2_with (first | ((with_reducible refine wl_sload 30 _ rfl ?hwz3 w6.heap.size 0 (twoC 10 w5.heap.size) _ rfl HRZ3.out Tryz.underlying30 rfl ?hiz3 ?_); (case hwz3 => (first | exact wanted_none rfl | exact wanted_if rfl rfl rfl rfl)); (case hiz3 => kernel_rfl)) | (go_at_call 10; fail))
          refine HQ.out.mono ?_
          rintro e w7 ⟨rfl, hb⟩
          have HJ7 := Lib.hid hb
          clear hb HQ HRZ3
          cases hq : rightET (twoE 10 x y) with
          | false =>
            go_wp2
            go_ret
            exact ⟨rfl, (HU.out _ HJ7.out).2.2.2.2⟩
          | true =>
            have HL := Lib.hid (parts_law HLAT.out E (k := 10) (by decide) (show rightET (.mk 10 ⟨#[]⟩ zV [] [x, y]) = true from hq))
            obtain ⟨a1, ha1⟩ : ∃ q, (labE k L E x).1 = q := ⟨_, rfl⟩
            obtain ⟨e1, he1⟩ : ∃ q, (labE k L E x).2 = q := ⟨_, rfl⟩
            obtain ⟨b1, hb1⟩ : ∃ q, (labE k L E y).1 = q := ⟨_, rfl⟩
            obtain ⟨f1, hf1⟩ : ∃ q, (labE k L E y).2 = q := ⟨_, rfl⟩
            obtain ⟨c1, hc1⟩ : ∃ q, (labE k L E (twoE 10 x y)).1 = q := ⟨_, rfl⟩
            obtain ⟨g1, hg1⟩ : ∃ q, (labE k L E (twoE 10 x y)).2 = q := ⟨_, rfl⟩
            have HL2 : Hid (((decide (e1 = 0) && decide (f1 = 0)) = decide (g1 = 0)) ∧ (g1 = 0 → c1 = jnI k L a1 b1)) := Lib.hid (by rw [← ha1, ← he1, ← hb1, ← hf1, ← hc1, ← hg1]; exact HL.out)
            have HCX := Lib.hid (ilabel_any k L b x E ca (.slice EA E.length ec) w7 (HU.out w7 HJ7.out).1.1 (HXB.out w7 (HU.out w7 HJ7.out).2.2.2.1) (HEB.out w7 (HU.out w7 HJ7.out).2.2.2.1) (by have := HEL.out; omega))
            have HRX4 := Lib.hid (HU.out w7 HJ7.out).1.2.1
            rw [ha1, he1] at HCX
            go_upto_region 8 with (first | ((with_reducible refine wl_sload 30 _ rfl ?hwx4 w.heap.size 0 ca _ rfl HRX4.out Tryz.underlying30 rfl ?hix4 ?_); (case hwx4 => (first | exact wanted_none rfl | exact wanted_if rfl rfl rfl rfl)); (case hix4 => rw [HLA.out]; kernel_rfl)) | (go_at_call 11; refine HCX.out.mono ?_; rintro e w8 ⟨rfl, hb⟩; have HJ8 := Lib.hid (HJ7.out.trans (hb.mono HJ7.out.size)); clear hb))
            have HCY := Lib.hid (ilabel_any k L b y E cb (.slice EA E.length ec) w8 (HU.out w8 HJ8.out).1.1 (HYB.out w8 (HU.out w8 HJ8.out).2.2.2.1) (HEB.out w8 (HU.out w8 HJ8.out).2.2.2.1) (by have := HEL.out; omega))
            have HRY5 := Lib.hid (HU.out w8 HJ8.out).1.2.2
            rw [hb1, hf1] at HCY
            clear HCX HRX4
            go_upto_region 9 with (first | ((with_reducible refine wl_sload 30 _ rfl ?hwy5 (w.heap.size + 1) 0 cb _ rfl HRY5.out Tryz.underlying30 rfl ?hiy5 ?_); (case hwy5 => (first | exact wanted_none rfl | exact wanted_if rfl rfl rfl rfl)); (case hiy5 => rw [HLB.out]; kernel_rfl)) | (go_at_call 11; refine HCY.out.mono ?_; rintro e w9 ⟨rfl, hb⟩; have HJ9 := Lib.hid (HJ8.out.trans (hb.mono HJ8.out.size)); clear hb))
            have HCZ := Lib.hid (ilabel_any k L b (twoE 10 x y) E (twoC 10 w5.heap.size) (.slice EA E.length ec) w9 (HU.out w9 HJ9.out).1.1 (HU.out w9 HJ9.out).2.2.1 (HEB.out w9 (HU.out w9 HJ9.out).2.2.2.1) (by have := HEL.out; omega))
            have HRZ6 := Lib.hid (HU.out w9 HJ9.out).2.1
            rw [hc1, hg1] at HCZ
            clear HCY HRY5
            go_upto_region 10 with (first | ((with_reducible refine wl_sload 30 _ rfl ?hwz6 w6.heap.size 0 (twoC 10 w5.heap.size) _ rfl HRZ6.out Tryz.underlying30 rfl ?hiz6 ?_); (case hwz6 => (first | exact wanted_none rfl | exact wanted_if rfl rfl rfl rfl)); (case hiz6 => kernel_rfl)) | (go_at_call 11; refine HCZ.out.mono ?_; rintro e w10 ⟨rfl, hb⟩; have HJ10 := Lib.hid (HJ9.out.trans (hb.mono HJ9.out.size)); clear hb))
            have HJN := Lib.hid (join_r (HU.out w10 HJ10.out).1.1 a1 b1)
            have HEND := Lib.hid (HU.out w10 HJ10.out).2.2.2.2
            clear HCZ HRZ6 HL ha1 he1 hb1 hf1 hc1 hg1 HU HXB HYB HEB HJ7 HJ8 HJ9 HJ10 HB1 HB2 HB3 HB4 HB5 HB6 HK2 HK3 HK4 HK5 HK7 HG7 HZ HEL HLAT
            by_cases he0 : e1 = 0
            · by_cases hf0 : f1 = 0
              · have hg0 : g1 = 0 := by have := HL2.out.1; rw [decide_eq_true he0, decide_eq_true hf0] at this; exact of_decide_eq_true this.symm
                have hc := HL2.out.2 hg0
                subst he0 hf0 hg0
                rw [← hc] at HJN
                clear hc HL2
                go_wp2_with (go_at_call 12; refine HJN.out.mono ?_; rintro e z ⟨rfl, hzz⟩; rw [← hzz]; clear hzz z)
                go_ret
                exact ⟨rfl, HEND.out⟩
              · have hg0 : ¬ g1 = 0 := by have := HL2.out.1; rw [decide_eq_true he0, decide_eq_false hf0] at this; exact of_decide_eq_false this.symm
                have hgn : (g1 != 0) = true := by simpa using hg0
                have hge : (g1 == 0) = false := by simpa using hg0
                have hfe : (f1 == 0) = false := by simpa using hf0
                subst he0
                clear HL2
                go_wp2_with (go_at_call 12; refine HJN.out.mono ?_; rintro e z ⟨rfl, hzz⟩; rw [← hzz]; clear hzz z)
                go_ret
                exact ⟨rfl, HEND.out⟩
            · have hg0 : ¬ g1 = 0 := by have := HL2.out.1; rw [decide_eq_false he0] at this; exact of_decide_eq_false this.symm
              have hgn : (g1 != 0) = true := by simpa using hg0
              have hge : (g1 == 0) = false := by simpa using hg0
              have hee : (e1 == 0) = false := by simpa using he0
              clear HL2
              go_wp2_with (go_at_call 12; refine HJN.out.mono ?_; rintro e z ⟨rfl, hzz⟩; rw [← hzz]; clear hzz z)
              go_ret
              exact ⟨rfl, HEND.out⟩
set_option maxRecDepth 100000 in
theorem inferParts_lifted (os : Os) (started : os.Started) (H : Type) (enc : TypeId × Value → H) :
    ReturnsInHanded {} Tryz.checked os 3 .any (Rows.inferPartsSpec.pre6 enc Tryz.prog Tryz.f3 Rows.inferPartsRow.domain false) (Rows.inferPartsSpec.post enc Tryz.prog Tryz.f3 false true false false) := by
  refine returnsInHanded_of_change (C := Tryz.checked) own started (by kernel_rfl) Tryz.func3
    (ChangeSpec.witness6 (enc := enc) (C := Tryz.checked) false ⟨#[], #[.int .i64 0, .slice none 0 0, .agg #[.int .i64 0, .string ⟨#[]⟩, .int .i64 0, .int .i64 0, .float .f64 0, .string ⟨#[]⟩, .slice none 0 0, .slice none 0 0, .slice none 0 0, .slice none 0 0], .agg #[.int .i64 0, .string ⟨#[]⟩, .int .i64 0, .int .i64 0, .float .f64 0, .string ⟨#[]⟩, .slice none 0 0, .slice none 0 0, .slice none 0 0, .slice none 0 0], .slice none 0 0], []⟩ 8 (by kernel_rfl) (by kernel_rfl) (by kernel_rfl) (by kernel_rfl)) ?_
  intro W base args ds gs before hval0 hW hcnd _
  have hval : ∀ (j : Nat) t v, Tryz.f3.params[j]? = some t → args[j]? = some v → Value.okWide Tryz.prog W .any base t v := hval0
  have hW' := hW
  obtain ⟨p, q, hA0, hV, rfl, hfz, hnd⟩ := hW
  have hA : DataW.TrodAll enc Tryz.prog W 0 (fun _ => true) true Tryz.f3.params.toList args.toList ds p := hA0
  rw [Tryz.params3] at hA hval
  obtain ⟨v0, vs0, d0, ds0, p0, q0, hargs, rfl, rfl, h0, r0⟩ := trodAll_cons hA
  obtain ⟨v1, vs1, d1, ds1, p1, q1, rfl, rfl, rfl, h1, r1⟩ := trodAll_cons r0
  obtain ⟨v2, vs2, d2, ds2, p2, q2, rfl, rfl, rfl, h2, r2⟩ := trodAll_cons r1
  obtain ⟨v3, vs3, d3, ds3, p3, q3, rfl, rfl, rfl, h3, r3⟩ := trodAll_cons r2
  obtain ⟨v4, vs4, d4, ds4, p4, q4, rfl, rfl, rfl, h4, r4⟩ := trodAll_cons r3
  obtain ⟨rfl, rfl, rfl⟩ := trodAll_nil r4
  obtain rfl : args = #[v0, v1, v2, v3, v4] := by cases args; simp_all
  obtain ⟨rfl, rfl⟩ := trodVars_none hV
  obtain ⟨a0, rfl, rfl, rfl, w0⟩ := open_int Tryz.underlying3 (hval 0 3 v0 rfl rfl) h0
  obtain ⟨a1, len1, cap1, rfl⟩ := okWide_slice Tryz.underlying22 (hval 1 22 v1 rfl rfl)
  have k1 := h1
  have lt1 := lt_of_trod k1
  obtain ⟨z1, l1, w1⟩ := open_pairs h1
  have k2 := h2
  have lt2 := lt_of_trod k2
  obtain ⟨cs2, m2, rfl, hm2⟩ := expr_arg (hval 2 30 v2 rfl rfl) h2
  have k3 := h3
  have lt3 := lt_of_trod k3
  obtain ⟨cs3, m3, rfl, hm3⟩ := expr_arg (hval 3 30 v3 rfl rfl) h3
  have k4 := h4
  have lt4 := lt_of_trod k4
  obtain ⟨m4, hm4, hl4⟩ := vars_arg (hval 4 31 v4 rfl rfl) h4
  clear hA0 hval0
  refine (inferParts_walk W a0 w0 a1 len1 cap1 z1 l1 w1 cs2 m2 hm2 cs3 m3 hm3 v4 m4 hm4 hl4).mono fun e W' ⟨he, bel⟩ => ?_
  subst he
  exact ⟨_, rfl, _, _, _, [], _, [], hW', trodAll_mk1 (shut_bool Tryz.underlying4 _), (trodAll_cons_mk (shut_int Tryz.underlying3 w0) (trodAll_cons_mk (Below.trod laidOut (by kernel_rfl) (of_decide_eq_true (by kernel_rfl)) k1 bel lt1) (trodAll_cons_mk (Below.trod laidOut (by kernel_rfl) (of_decide_eq_true (by kernel_rfl)) k2 bel lt2) (trodAll_cons_mk (Below.trod laidOut (by kernel_rfl) (of_decide_eq_true (by kernel_rfl)) k3 bel lt3) (trodAll_cons_mk (Below.trod laidOut (by kernel_rfl) (of_decide_eq_true (by kernel_rfl)) k4 bel lt4) trodAll_mk0))))), rfl, bel.frame _, fun h => by cases h⟩
theorem inferParts_proved : Rows.InferPartsSaid :=
  OpenClaim.holds_of_wide 3 Tryz.f3 rfl rfl rfl rfl rfl rfl rfl ⟨rfl, rfl, rfl, rfl, rfl⟩ rfl rfl rfl rfl rfl (by kernel_rfl) Tryz.func3 (by kernel_rfl)
    (of_decide_eq_true (by kernel_rfl)) (by unfold Func.isWrapper; first | (rw [if_pos (by decide +kernel)]; kernel_rfl) | (rw [if_neg (by decide +kernel)]; exact ⟨rfl, rfl⟩))
    (fun os started H enc _ => inferParts_lifted os started H enc)
#print axioms inferParts_proved
end Go.Proofs.YtppmkehdhpgdcaaGreat
