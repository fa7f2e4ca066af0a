/- THE STATEMENT ModelGraph is proved: for every model, node and port the Go function ModelGraph returns true, and its arguments read afterwards as before; without conditions. -/
import Derived.Test.YtlfefikhmdbbfaaGreatAwake12
import Derived.Test.YtlfefikhmdbbfaaGreatNodeE
import Derived.Test.YtlfefikhmdbbfaaGreatOpen
namespace Go.Proofs.YtlfefikhmdbbfaaGreat
open Go.ChangeShapes Go.WideShapes Go.ChangeAt Go.RowKit Go
set_option linter.unusedVariables false

set_option maxHeartbeats 8000000 in
set_option maxRecDepth 100000 in
theorem modelGraph_walk (w : World) (cs : List Value) (m : ModelT) (hv : ModelAt w w.heap.size cs m) (a : Int) (_wa : (Lit.int .i64 a).wf = true) (p : Int) (_wp : (Lit.int .i64 p).wf = true) :
    Calls Tryz.prog 4 #[.agg ⟨cs⟩, .int .i64 a, .int .i64 p] w fun e w' => e = .returned (.bool true) ∧ Below w.heap.size w w' := by
  have HM := Lib.hid hv
  obtain ⟨c1, c2, c3, c4, v5, rfl, hg⟩ := hv.graph
  have hgg : GraphAt w w.heap.size v5 (gOf m) := hg
  have HSG := Lib.hid (fun (h : SmallM m) => small_g h)
  generalize gOf m = g at *
  obtain ⟨c0, hc0⟩ : ∃ c0, c0 = Value.int .i64 m.labels := ⟨_, rfl⟩
  rw [← hc0] at HM
  rw [← hc0]
  clear hg hc0
  have HG := Lib.hid hgg
  obtain ⟨hgl, A, c, rfl, hA⟩ := hgg
  clear hA hgl
  go_enter Tryz.func4, Tryz.ntmps4
  go_upto_region 1 with (fail)
  have HB1 := Lib.hid (box_below w (.cells ⟨[c0, c1, c2, c3, c4, .slice A g.length c]⟩ 27))
  have HS1 := Lib.hid (box_size w (.cells ⟨[c0, c1, c2, c3, c4, .slice A g.length c]⟩ 27))
  have HC1 := Lib.hid (cells_box w [c0, c1, c2, c3, c4, .slice A g.length c] 27 5 _ rfl)
  have HR1 := Lib.hid (range_box w [c0, c1, c2, c3, c4, .slice A g.length c] 27)
  generalize w.alloc (.cells ⟨[c0, c1, c2, c3, c4, .slice A g.length c]⟩ 27) = W1 at *
  go_wp2_with (go_at_call 5; fail)
  refine (awake12 _).mono ?_
  rintro e w2 ⟨rfl, hb2⟩
  have HR2 := Lib.hid (rangeAt_below HR1.out hb2 HS1.out)
  have HBW2 := Lib.hid (HB1.out.trans (hb2.mono HB1.out.size))
  have HS2 := Lib.hid (Nat.lt_of_lt_of_le HS1.out hb2.size)
  have HC2 := Lib.hid ((hb2.cell (p := ⟨w.heap.size, 5, none⟩) HS1.out).trans HC1.out)
  clear HR1 HB1 HS1 HC1 hb2
  go_wp2_with (first | ((with_reducible refine wl_sload 27 _ rfl ?hw2 w.heap.size 0 [c0, c1, c2, c3, c4, .slice A g.length c] _ rfl HR2.out Tryz.underlying27 rfl ?hi2 ?_); (case hw2 => first | exact wanted_none rfl | exact wanted_if rfl rfl rfl rfl); (case hi2 => kernel_rfl)) | (go_at_call 6; fail))
  refine (msmall m _ w2 (HM.out.next HBW2.out)).mono ?_
  rintro e w3 ⟨b, rfl, hb3, hsm⟩
  have HR3 := Lib.hid (rangeAt_below HR2.out hb3 HS2.out)
  have HBW3 := Lib.hid (HBW2.out.trans (hb3.mono HBW2.out.size))
  have HS3 := Lib.hid (Nat.lt_of_lt_of_le HS2.out hb3.size)
  have HC3 := Lib.hid ((hb3.cell (p := ⟨w.heap.size, 5, none⟩) HS2.out).trans HC2.out)
  clear HR2 HBW2 HS2 HC2 hb3
  cases b with
  | false =>
    clear hsm
    go_wp2_with (go_at_call 5; fail)
    refine (awake12 _).mono ?_
    rintro e w4 ⟨rfl, hb4⟩
    have HBW4 := Lib.hid (HBW3.out.trans (hb4.mono HBW3.out.size))
    clear hb4
    go_wp2
    go_ret
    exact ⟨rfl, HBW4.out⟩
  | true =>
    have HSM := Lib.hid (hsm rfl)
    have hsg := HSG.out (hsm rfl)
    have HN : Hid (g.length ≤ 100) := Lib.hid hsg.1
    have HEN : Hid ((edgesOf g).length ≤ 4100) := Lib.hid hsg.2
    have HL1 : Hid ((edgesOf g).length ≤ 10000) := Lib.hid (by have := HEN.out; omega)
    have HL2 : Hid (g.length ≤ 10000) := Lib.hid (by have := HN.out; omega)
    have HL3 : Hid (g.length ≤ 5000) := Lib.hid (by have := HN.out; omega)
    have HG3 := Lib.hid (HG.out.next HBW3.out)
    have hn2 : (g.length : Int) ≤ 100 := by have := HN.out; omega
    clear hsg hsm HG HSG
    have HND := Lib.hid (nodes_raw HM.out)
    have HNX := Lib.hid HSM.out.next
    clear HSM
    go_upto_region 3 with (fail)
    refine wp_region_ord [(0, true), (2, true), (1, false), (3, false), (4, true), (5, true)]
      (fun z => Below w3.heap.size w3 z) (by kernel_rfl) (by kernel_rfl) (by kernel_rfl) rfl (by intro c a d v w h; cases d <;> exact h) ?_
    have hs0 : Below w3.heap.size w3 w3.drew := (Below.refl _ w3).drew
    refine ord_load (some 23) (.agg ⟨[c0, c1, c2, c3, c4, .slice A g.length c]⟩) _ rfl rfl (by first | exact wanted_none rfl | exact wanted_if rfl rfl rfl rfl) hs0 (fun z hz => exec_sload 27 rfl w.heap.size 0 [c0, c1, c2, c3, c4, .slice A g.length c] _ rfl (rangeAt_below HR3.out hz HS3.out) Tryz.underlying27 rfl (by kernel_rfl)) ?_
    go_frame
    refine ord_load (some 25) (.agg ⟨[c0, c1, c2, c3, c4, .slice A g.length c]⟩) _ rfl rfl (by first | exact wanted_none rfl | exact wanted_if rfl rfl rfl rfl) hs0 (fun z hz => exec_sload 27 rfl w.heap.size 0 [c0, c1, c2, c3, c4, .slice A g.length c] _ rfl (rangeAt_below HR3.out hz HS3.out) Tryz.underlying27 rfl (by kernel_rfl)) ?_
    go_frame
    refine ord_to (some 24) 10 Tryz.func10 (by kernel_rfl) (by kernel_rfl) [.agg ⟨[c0, c1, c2, c3, c4, .slice A g.length c]⟩] _ _ _ rfl rfl rfl (by first | exact wanted_none rfl | exact wanted_if rfl rfl rfl rfl) rfl ?_
    refine (edges_any g c0 c1 c2 c3 c4 (.slice A g.length c) _ (HG3.out.next hs0) HL1.out).mono ?_
    rintro e z1 ⟨v1, rfl, hown1, hb⟩
    have hs1 : Below w3.heap.size w3 z1 := hs0.trans (hb.mono hs0.size)
    refine ⟨v1, rfl, hs1, ?_⟩
    clear hb
    go_frame
    refine ord_to (some 26) 11 Tryz.func11 (by kernel_rfl) (by kernel_rfl) [.agg ⟨[c0, c1, c2, c3, c4, .slice A g.length c]⟩] _ _ _ rfl rfl rfl (by first | exact wanted_none rfl | exact wanted_if rfl rfl rfl rfl) rfl ?_
    refine (redges_any g c0 c1 c2 c3 c4 (.slice A g.length c) _ (HG3.out.next hs1) HL1.out).mono ?_
    rintro e w4 ⟨v2, rfl, hown2, hb⟩
    have hs2 : Below w3.heap.size w3 w4 := hs1.trans (hb.mono hs1.size)
    replace hown1 := hown1.below hb
    refine ⟨v2, rfl, hs2, ?_⟩
    clear hb
    go_frame
    refine ord_assign (some 7) v1 _ _ rfl rfl rfl (by first | exact wanted_none rfl | exact wanted_if rfl rfl rfl rfl) hs2 rfl ?_
    go_frame
    refine ord_assign (some 8) v2 _ _ rfl rfl rfl (by first | exact wanted_none rfl | exact wanted_if rfl rfl rfl rfl) hs2 rfl ?_
    go_frame
    refine ord_end ?_
    obtain ⟨hel1, EA1, ec1, rfl, hea1⟩ := hown1.at encE_len (by have := HL1.out; omega)
    obtain ⟨hel2, EA2, ec2, rfl, hea2⟩ := hown2.at encE_len (by have := HL1.out; omega)
    have HEA1 := Lib.hid hea1
    have HEA2 := Lib.hid hea2
    have HB4 := Lib.hid hs2
    clear hs0 hs1 hs2 hown1 hown2 hel1 hel2 hea1 hea2
    have HR4 := Lib.hid (rangeAt_below HR3.out HB4.out HS3.out)
    have HBW4 := Lib.hid (HBW3.out.trans (HB4.out.mono HBW3.out.size))
    have HS4 := Lib.hid (Nat.lt_of_lt_of_le HS3.out HB4.out.size)
    have HC4 := Lib.hid ((HB4.out.cell (p := ⟨w.heap.size, 5, none⟩) HS3.out).trans HC3.out)
    have HG4 := Lib.hid (HG3.out.next HB4.out)
    clear HR3 HBW3 HS3 HC3 HG3 HB4
    obtain ⟨E, hE⟩ : ∃ E, edgesOf g = E := ⟨_, rfl⟩
    have HEE := Lib.hid hE
    rw [hE] at HEA1 HEA2
    rw [hE]
    have hle2 : (E.length : Int) ≤ 10000 := by rw [← hE]; have := HL1.out; omega
    clear hE
    go_wp2
    go_loopg [34] E.length (fun q x u => ∃ j : Nat, j + q = E.length ∧ x = .int .i64 j ∧ Below w4.heap.size w4 u)
    case atStart => exact ⟨0, by omega, rfl, Below.refl _ _⟩
    case round =>
      obtain ⟨j, hj, rfl, hb⟩ := hrel
      have HBK := Lib.hid hb
      clear hb
      cases gk with
      | succ q =>
        have hlt : (j : Int) < (E.length : Int) := by omega
        obtain ⟨e, he⟩ : ∃ e, E[j]? = some e := ⟨_, List.getElem?_eq_getElem (by omega)⟩
        obtain ⟨b1, o1, rfl, hbl1, hc1⟩ := HEA1.out (by omega)
        obtain ⟨b2, o2, rfl, hbl2, hc2⟩ := HEA2.out (by omega)
        have HRE1 : Hid (wr.rangeAt b1 (o1 + j * 3) [.int .i64 e.1, .int .i64 e.2.1, .int .i64 e.2.2]) := Lib.hid (by
          obtain ⟨ks, h1, h2, h3⟩ := hc1 j e he
          have h3' : ks = encE e := h3
          subst h3'
          exact rangeAt_below h2 HBK.out hbl1)
        have HRE2 : Hid (wr.rangeAt b2 (o2 + j * 3) [.int .i64 e.1, .int .i64 e.2.1, .int .i64 e.2.2]) := Lib.hid (by
          obtain ⟨ks, h1, h2, h3⟩ := hc2 j e he
          have h3' : ks = encE e := h3
          subst h3'
          exact rangeAt_below h2 HBK.out hbl2)
        have HL5 : Hid (b1 < wr.heap.size ∧ b2 < wr.heap.size) := Lib.hid ⟨Nat.lt_of_lt_of_le hbl1 HBK.out.size, Nat.lt_of_lt_of_le hbl2 HBK.out.size⟩
        clear hc1 hc2 he hbl1 hbl2
        go_upto_region 9 with (fail)
        refine wp_region_ord [(0, true), (1, true), (2, true), (3, true), (4, true), (5, true), (6, true), (7, true), (8, true)]
          (fun z => Below wr.heap.size wr z) (by kernel_rfl) (by kernel_rfl) (by kernel_rfl) rfl (by intro c a d v w h; cases d <;> exact h) ?_
        have hs0 : Below wr.heap.size wr wr.drew := (Below.refl _ wr).drew
        refine ord_move (some 37) (.slice (some ⟨b1, o1, none⟩) E.length ec1) _ _ rfl rfl rfl (by first | exact wanted_none rfl | exact wanted_if rfl rfl rfl rfl) hs0 rfl ?_
        go_frame
        refine ord_move (some 38) (.int .i64 j) _ _ rfl rfl rfl (by first | exact wanted_none rfl | exact wanted_if rfl rfl rfl rfl) hs0 rfl ?_
        go_frame
        refine ord_load (some 39) (.pointer (some ⟨b1, o1 + j * 3, none⟩)) _ rfl rfl (by first | exact wanted_none rfl | exact wanted_if rfl rfl rfl rfl) hs0 (fun z hz => by go_simp) ?_
        go_frame
        refine ord_load (some 40) (.agg ⟨[.int .i64 e.1, .int .i64 e.2.1, .int .i64 e.2.2]⟩) _ rfl rfl (by first | exact wanted_none rfl | exact wanted_if rfl rfl rfl rfl) hs0 (fun z hz => exec_sload 51 rfl b1 (o1 + j * 3) [.int .i64 e.1, .int .i64 e.2.1, .int .i64 e.2.2] _ rfl (rangeAt_below HRE1.out hz HL5.out.1) Tryz.underlying51 rfl (by kernel_rfl)) ?_
        go_frame
        refine ord_move (some 41) (.slice (some ⟨b2, o2, none⟩) E.length ec2) _ _ rfl rfl rfl (by first | exact wanted_none rfl | exact wanted_if rfl rfl rfl rfl) hs0 rfl ?_
        go_frame
        refine ord_move (some 42) (.int .i64 j) _ _ rfl rfl rfl (by first | exact wanted_none rfl | exact wanted_if rfl rfl rfl rfl) hs0 rfl ?_
        go_frame
        refine ord_load (some 43) (.pointer (some ⟨b2, o2 + j * 3, none⟩)) _ rfl rfl (by first | exact wanted_none rfl | exact wanted_if rfl rfl rfl rfl) hs0 (fun z hz => by go_simp) ?_
        go_frame
        refine ord_load (some 44) (.agg ⟨[.int .i64 e.1, .int .i64 e.2.1, .int .i64 e.2.2]⟩) _ rfl rfl (by first | exact wanted_none rfl | exact wanted_if rfl rfl rfl rfl) hs0 (fun z hz => exec_sload 51 rfl b2 (o2 + j * 3) [.int .i64 e.1, .int .i64 e.2.1, .int .i64 e.2.2] _ rfl (rangeAt_below HRE2.out hz HL5.out.2) Tryz.underlying51 rfl (by kernel_rfl)) ?_
        go_frame
        refine ord_load (some 45) (.bool false) _ rfl rfl (by first | exact wanted_none rfl | exact wanted_if rfl rfl rfl rfl) hs0 (fun z hz => by have hq := neq_edge e.1 e.2.1 e.2.2 z; go_simp) ?_
        go_frame
        refine ord_end ?_
        have HB9 := Lib.hid (HBK.out.trans (hs0.mono HBK.out.size))
        clear hs0
        go_wp2
        go_roundg q
        case measure => omega
        case rel => exact ⟨j + 1, by omega, by go_num, HB9.out⟩
      | zero =>
        have hge : ¬ ((j : Int) < (E.length : Int)) := by omega
        clear hj
        have HR5 := Lib.hid (rangeAt_below HR4.out HBK.out HS4.out)
        have HBW5 := Lib.hid (HBW4.out.trans (HBK.out.mono HBW4.out.size))
        have HS5 := Lib.hid (Nat.lt_of_lt_of_le HS4.out HBK.out.size)
        have d5 := (HBK.out.cell (p := ⟨w.heap.size, 5, none⟩) HS4.out).trans HC4.out
        have HG5 := Lib.hid (HG4.out.next HBK.out)
        clear HR4 HBW4 HS4 HC4 HG4 HBK HEA1 HEA2
        obtain ⟨w5, rfl⟩ : ∃ w5, w5 = wr := ⟨_, rfl⟩
        go_wp2
        clear d5 hge
        go_loopg [50] g.length (fun q x u => ∃ i : Nat, i + q = g.length ∧ x = .int .i64 i ∧ Below w5.heap.size w5 u)
        case atStart => exact ⟨0, by omega, rfl, Below.refl _ _⟩
        case round =>
          obtain ⟨i, hi, rfl, hb⟩ := hrel
          have HBK := Lib.hid hb
          clear hb
          cases gk with
          | succ q2 =>
            have hlt : (i : Int) < (g.length : Int) := by omega
            have HBT := Lib.hid (HBW5.out.trans (HBK.out.mono HBW5.out.size))
            obtain ⟨b, o, rfl, hbb, hc⟩ := HND.out (by omega)
            obtain ⟨ks, x, hx, hcl, hr, hR⟩ := hc i (by omega)
            have hcon := (HNX.out i x hx).2
            obtain ⟨v0, v1, v2, vc, Q, ce, cb, t, rfl, hQ, hq, hex⟩ := node_raw hR
            have HQ : Hid (Q.length ≤ 40) := Lib.hid (by omega)
            have HRK := Lib.hid (rangeAt_below hr HBT.out hbb)
            have HKL := Lib.hid hcl
            have HVA := Lib.hid hR
            have HQS := Lib.hid (fun (z : World) (hz : Below w.heap.size w z) => (hq.below hz fun _ _ _ h => h).more hz.size)
            have HEX := Lib.hid hex
            have HOK := Lib.hid (fun q hq => by obtain ⟨y, hy⟩ := hex q hq; exact okC_of hy)
            clear hc hx hcl hr hR hcon hQ hq hex
            go_upto_region 15 with (first | ((with_reducible refine wl_sload 42 _ rfl ?hw b (o + i * 29) (nodeC v0 v1 v2 vc ce cb t) _ rfl HRK.out Tryz.underlying42 rfl ?hi ?_); (case hw => first | exact wanted_none rfl | exact wanted_if rfl rfl rfl rfl); (case hi => rw [HKL.out]; kernel_rfl)) | ((with_reducible refine wl_sbox 42 _ _ rfl ?hw wr ?zn (nodeC v0 v1 v2 vc ce cb t) ?hwld ?hz ?hx ?hy ?hi ?h1 ?_); (case hwld => rfl); (case hx => rfl); (case hy => rfl); (case hw => first | exact wanted_none rfl | exact wanted_if rfl rfl rfl rfl); (case hz => rw [HKL.out]; rfl); (case hi => rw [HKL.out]; kernel_rfl); (case h1 => exact HVA.out.one); intro Z hbx; have HX := Lib.hid hbx; clear hbx))
            have HBZ := Lib.hid (HBK.out.trans (HX.out.below.mono HBK.out.size))
            have HBTZ := Lib.hid (HBT.out.trans (HX.out.below.mono HBT.out.size))
            have HRZ := Lib.hid HX.out.range
            have HSZ := Lib.hid HX.out.size
            obtain ⟨eb, heb⟩ : ∃ eb, wr.heap.size = eb := ⟨_, rfl⟩
            rw [heb] at HRZ HSZ
            rw [heb]
            clear heb HX HRK HVA
            refine wp_region_ord [(0, true), (2, true), (1, false), (3, false), (4, true), (5, true)]
              (fun z => Below Z.heap.size Z z) (by kernel_rfl) (by kernel_rfl) (by kernel_rfl) rfl (by intro c a d v w h; cases d <;> exact h) ?_
            have hs0 : Below Z.heap.size Z Z.drew := (Below.refl _ Z).drew
            refine ord_load (some 54) (.agg ⟨nodeC v0 v1 v2 vc ce cb t⟩) _ rfl rfl (by first | exact wanted_none rfl | exact wanted_if rfl rfl rfl rfl) hs0 (fun z hz => exec_sload 42 rfl eb 0 (nodeC v0 v1 v2 vc ce cb t) _ rfl (rangeAt_below HRZ.out hz HSZ.out) Tryz.underlying42 rfl (by rw [HKL.out]; kernel_rfl)) ?_
            go_frame
            refine ord_load (some 56) (.agg ⟨nodeC v0 v1 v2 vc ce cb t⟩) _ rfl rfl (by first | exact wanted_none rfl | exact wanted_if rfl rfl rfl rfl) hs0 (fun z hz => exec_sload 42 rfl eb 0 (nodeC v0 v1 v2 vc ce cb t) _ rfl (rangeAt_below HRZ.out hz HSZ.out) Tryz.underlying42 rfl (by rw [HKL.out]; kernel_rfl)) ?_
            go_frame
            refine ord_to (some 55) 12 Tryz.func12 (by kernel_rfl) (by kernel_rfl) [.agg ⟨nodeC v0 v1 v2 vc ce cb t⟩] _ _ _ rfl rfl rfl (by first | exact wanted_none rfl | exact wanted_if rfl rfl rfl rfl) rfl ?_
            refine (exprs_any Q ce cb v0 v1 v2 vc t _ (HQS.out _ (HBTZ.out.trans (hs0.mono HBTZ.out.size))) HOK.out HQ.out).mono ?_
            rintro e z1 ⟨x1, rfl, hown1, hb⟩
            have hs1 : Below Z.heap.size Z z1 := hs0.trans (hb.mono hs0.size)
            refine ⟨x1, rfl, hs1, ?_⟩
            clear hb
            go_frame
            refine ord_to (some 57) 13 Tryz.func13 (by kernel_rfl) (by kernel_rfl) [.agg ⟨nodeC v0 v1 v2 vc ce cb t⟩] _ _ _ rfl rfl rfl (by first | exact wanted_none rfl | exact wanted_if rfl rfl rfl rfl) rfl ?_
            refine (rexprs_any Q ce cb v0 v1 v2 vc t _ (HQS.out _ (HBTZ.out.trans (hs1.mono HBTZ.out.size))) HOK.out HQ.out).mono ?_
            rintro e z2 ⟨x2, rfl, hown2, hb⟩
            have hs2 : Below Z.heap.size Z z2 := hs1.trans (hb.mono hs1.size)
            replace hown1 := hown1.below hb
            refine ⟨x2, rfl, hs2, ?_⟩
            clear hb
            go_frame
            refine ord_assign (some 12) x1 _ _ rfl rfl rfl (by first | exact wanted_none rfl | exact wanted_if rfl rfl rfl rfl) hs2 rfl ?_
            go_frame
            refine ord_assign (some 13) x2 _ _ rfl rfl rfl (by first | exact wanted_none rfl | exact wanted_if rfl rfl rfl rfl) hs2 rfl ?_
            go_frame
            refine ord_end ?_
            have HRX : Hid (∀ q ∈ (Q ++ [ce, cb]).filter nzC, ∃ y, ExpAt w w.heap.size q.cs y) := Lib.hid fun q hq => HEX.out q (List.mem_filter.1 hq).1
            have HRL : Hid (((Q ++ [ce, cb]).filter nzC).length ≤ 42) := Lib.hid (filter_le (by rw [List.length_append]; have := HQ.out; simp; omega))
            have HBZ2 := Lib.hid hs2
            have HBT2 := Lib.hid (HBTZ.out.trans (hs2.mono HBTZ.out.size))
            clear hs0 hs1 hs2 HEX HOK HQS
            generalize (Q ++ [ce, cb]).filter nzC = R at *
            obtain ⟨hel1, XA1, xc1, rfl, hea1⟩ := hown1.at enc10_len (by have := HRL.out; omega)
            obtain ⟨hel2, XA2, xc2, rfl, hea2⟩ := hown2.at enc10_len (by have := HRL.out; omega)
            have HEA1 := Lib.hid hea1
            have HEA2 := Lib.hid hea2
            have hrl2 : (R.length : Int) ≤ 42 := by have := HRL.out; omega
            clear hown1 hown2 hel1 hel2 hea1 hea2
            go_wp2
            go_loopg [65] R.length (fun q x u => ∃ j : Nat, j + q = R.length ∧ x = .int .i64 j ∧ Below z2.heap.size z2 u)
            case atStart => exact ⟨0, by omega, rfl, Below.refl _ _⟩
            case round =>
              obtain ⟨j, hj, rfl, hb⟩ := hrel
              have HBJ := Lib.hid hb
              clear hb
              cases gk with
              | zero =>
                have hge : ¬ ((j : Int) < (R.length : Int)) := by omega
                clear hj
                go_wp2
                go_roundg q2
                case measure => omega
                case rel => exact ⟨i + 1, by omega, by go_num, HBZ.out.trans ((HBZ2.out.trans (HBJ.out.mono HBZ2.out.size)).mono HBZ.out.size)⟩
              | succ q3 =>
                have hlt2 : (j : Int) < (R.length : Int) := by omega
                obtain ⟨e, he⟩ : ∃ e, R[j]? = some e := ⟨_, List.getElem?_eq_getElem (by omega)⟩
                obtain ⟨b1, o1, rfl, hbl1, hc1⟩ := HEA1.out (by omega)
                obtain ⟨b2, o2, rfl, hbl2, hc2⟩ := HEA2.out (by omega)
                have HRE1 : Hid (wr.rangeAt b1 (o1 + j * 10) e.cs) := Lib.hid (by
                  obtain ⟨ks, h1, h2, h3⟩ := hc1 j e he
                  have h3' : ks = e.cs := h3
                  subst h3'
                  exact rangeAt_below h2 HBJ.out hbl1)
                have HRE2 : Hid (wr.rangeAt b2 (o2 + j * 10) e.cs) := Lib.hid (by
                  obtain ⟨ks, h1, h2, h3⟩ := hc2 j e he
                  have h3' : ks = e.cs := h3
                  subst h3'
                  exact rangeAt_below h2 HBJ.out hbl2)
                have HL5 : Hid (b1 < wr.heap.size ∧ b2 < wr.heap.size) := Lib.hid ⟨Nat.lt_of_lt_of_le hbl1 HBJ.out.size, Nat.lt_of_lt_of_le hbl2 HBJ.out.size⟩
                have HEL := Lib.hid e.len
                obtain ⟨y, hy⟩ := HRX.out e (List.mem_of_getElem? he)
                have HSE := Lib.hid (fun (z : World) (hz : Below wr.heap.size wr z) => esame_self y e.cs z ((hy.under (HBT2.out.trans ((HBJ.out.trans (hz.mono HBJ.out.size)).mono HBT2.out.size))).more (Nat.le_trans HBT2.out.size (Nat.le_trans HBJ.out.size hz.size))))
                clear hc1 hc2 he hbl1 hbl2 hy
                go_upto_region 21 with (fail)
                refine wp_region_ord [(0, true), (1, true), (2, true), (3, true), (4, true), (5, true), (6, true), (7, true), (8, false), (9, true)]
                  (fun z => Below wr.heap.size wr z) (by kernel_rfl) (by kernel_rfl) (by kernel_rfl) rfl (by intro c a d v w h; cases d <;> exact h) ?_
                have hs0 : Below wr.heap.size wr wr.drew := (Below.refl _ wr).drew
                refine ord_move (some 68) (.slice (some ⟨b1, o1, none⟩) R.length xc1) _ _ rfl rfl rfl (by first | exact wanted_none rfl | exact wanted_if rfl rfl rfl rfl) hs0 rfl ?_
                go_frame
                refine ord_move (some 69) (.int .i64 j) _ _ rfl rfl rfl (by first | exact wanted_none rfl | exact wanted_if rfl rfl rfl rfl) hs0 rfl ?_
                go_frame
                refine ord_load (some 70) (.pointer (some ⟨b1, o1 + j * 10, none⟩)) _ rfl rfl (by first | exact wanted_none rfl | exact wanted_if rfl rfl rfl rfl) hs0 (fun z hz => by go_simp) ?_
                go_frame
                refine ord_load (some 71) (.agg ⟨e.cs⟩) _ rfl rfl (by first | exact wanted_none rfl | exact wanted_if rfl rfl rfl rfl) hs0 (fun z hz => exec_sload 40 rfl b1 (o1 + j * 10) e.cs _ rfl (rangeAt_below HRE1.out hz HL5.out.1) Tryz.underlying40 rfl (by rw [HEL.out]; kernel_rfl)) ?_
                go_frame
                refine ord_move (some 72) (.slice (some ⟨b2, o2, none⟩) R.length xc2) _ _ rfl rfl rfl (by first | exact wanted_none rfl | exact wanted_if rfl rfl rfl rfl) hs0 rfl ?_
                go_frame
                refine ord_move (some 73) (.int .i64 j) _ _ rfl rfl rfl (by first | exact wanted_none rfl | exact wanted_if rfl rfl rfl rfl) hs0 rfl ?_
                go_frame
                refine ord_load (some 74) (.pointer (some ⟨b2, o2 + j * 10, none⟩)) _ rfl rfl (by first | exact wanted_none rfl | exact wanted_if rfl rfl rfl rfl) hs0 (fun z hz => by go_simp) ?_
                go_frame
                refine ord_load (some 75) (.agg ⟨e.cs⟩) _ rfl rfl (by first | exact wanted_none rfl | exact wanted_if rfl rfl rfl rfl) hs0 (fun z hz => exec_sload 40 rfl b2 (o2 + j * 10) e.cs _ rfl (rangeAt_below HRE2.out hz HL5.out.2) Tryz.underlying40 rfl (by rw [HEL.out]; kernel_rfl)) ?_
                go_frame
                refine ord_to (some 76) 14 Tryz.func14 (by kernel_rfl) (by kernel_rfl) [.agg ⟨e.cs⟩, .agg ⟨e.cs⟩] _ _ _ rfl rfl rfl (by first | exact wanted_none rfl | exact wanted_if rfl rfl rfl rfl) rfl ?_
                refine (HSE.out _ hs0).mono ?_
                rintro e z3 ⟨rfl, hb⟩
                have hs1 : Below wr.heap.size wr z3 := hs0.trans (hb.mono hs0.size)
                refine ⟨.bool true, rfl, hs1, ?_⟩
                clear hb
                go_frame
                refine ord_load (some 77) (.bool false) _ rfl rfl (by first | exact wanted_none rfl | exact wanted_if rfl rfl rfl rfl) hs1 (fun z hz => by go_simp) ?_
                go_frame
                refine ord_end ?_
                have HB9 := Lib.hid hs1
                clear hs0 hs1
                go_wp2
                go_roundg q3
                case measure => omega
                case rel => exact ⟨j + 1, by omega, by go_num, HBJ.out.trans (HB9.out.mono HBJ.out.size)⟩
          | zero =>
            have hge : ¬ ((i : Int) < (g.length : Int)) := by omega
            clear hi
            have HR6 := Lib.hid (rangeAt_below HR5.out HBK.out HS5.out)
            have HBW6 := Lib.hid (HBW5.out.trans (HBK.out.mono HBW5.out.size))
            have HS6 := Lib.hid (Nat.lt_of_lt_of_le HS5.out HBK.out.size)
            have HG6 := Lib.hid (HG5.out.next HBK.out)
            clear HR5 HBW5 HS5 HG5 HBK
            obtain ⟨w6, rfl⟩ : ∃ w6, w6 = wr := ⟨_, rfl⟩
            go_upto_region 25 with (fail)
            obtain ⟨ov, hov⟩ : ∃ ov, outK (edgesOf g) a p = ov := ⟨_, rfl⟩
            have HOV := Lib.hid hov
            clear hov
            have HIL : Hid ((intoL g a).length ≤ 10000) := Lib.hid (by have h1 := intoK_len (edgesOf g) a (edgesOf g).length; have := HL1.out; unfold intoL; omega)
            have HRL : Hid ((reachL g a).length ≤ 10000) := Lib.hid (Nat.le_trans (reachL_len g a) HL2.out)
            refine wp_region_ord [(0, true), (1, true), (3, true), (4, true), (2, false), (5, false), (6, false), (7, true), (8, true), (9, true), (10, true), (12, true), (13, true), (14, true), (11, false), (15, false), (16, true), (17, true), (18, true), (19, true), (20, true), (22, true), (23, true), (21, false), (24, false), (25, false), (26, true), (27, true)]
              (fun z => Below w6.heap.size w6 z) (by kernel_rfl) (by kernel_rfl) (by kernel_rfl) rfl (by intro c a d v w h; cases d <;> exact h) ?_
            have hs0 : Below w6.heap.size w6 w6.drew := (Below.refl _ w6).drew
            refine ord_load (some 80) (.agg ⟨[c0, c1, c2, c3, c4, .slice A g.length c]⟩) _ rfl rfl (by first | exact wanted_none rfl | exact wanted_if rfl rfl rfl rfl) hs0 (fun z hz => exec_sload 27 rfl w.heap.size 0 [c0, c1, c2, c3, c4, .slice A g.length c] _ rfl (rangeAt_below HR6.out hz HS6.out) Tryz.underlying27 rfl (by kernel_rfl)) ?_
            go_frame
            refine ord_move (some 81) (.int .i64 a) _ _ rfl rfl rfl (by first | exact wanted_none rfl | exact wanted_if rfl rfl rfl rfl) hs0 rfl ?_
            go_frame
            refine ord_load (some 83) (.agg ⟨[c0, c1, c2, c3, c4, .slice A g.length c]⟩) _ rfl rfl (by first | exact wanted_none rfl | exact wanted_if rfl rfl rfl rfl) hs0 (fun z hz => exec_sload 27 rfl w.heap.size 0 [c0, c1, c2, c3, c4, .slice A g.length c] _ rfl (rangeAt_below HR6.out hz HS6.out) Tryz.underlying27 rfl (by kernel_rfl)) ?_
            go_frame
            refine ord_move (some 84) (.int .i64 a) _ _ rfl rfl rfl (by first | exact wanted_none rfl | exact wanted_if rfl rfl rfl rfl) hs0 rfl ?_
            go_frame
            refine ord_to (some 82) 16 Tryz.func16 (by kernel_rfl) (by kernel_rfl) [.agg ⟨[c0, c1, c2, c3, c4, .slice A g.length c]⟩, .int .i64 a] _ _ _ rfl rfl rfl (by first | exact wanted_none rfl | exact wanted_if rfl rfl rfl rfl) rfl ?_
            refine (into_any g a c0 c1 c2 c3 c4 (.slice A g.length c) _ (HG6.out.next hs0) HL1.out).mono ?_
            rintro e z1 ⟨v1, rfl, hown1, hb⟩
            have hs1 : Below w6.heap.size w6 z1 := hs0.trans (hb.mono hs0.size)
            refine ⟨v1, rfl, hs1, ?_⟩
            clear hb
            go_frame
            refine ord_to (some 85) 17 Tryz.func17 (by kernel_rfl) (by kernel_rfl) [.agg ⟨[c0, c1, c2, c3, c4, .slice A g.length c]⟩, .int .i64 a] _ _ _ rfl rfl rfl (by first | exact wanted_none rfl | exact wanted_if rfl rfl rfl rfl) rfl ?_
            refine (rinto_any g a c0 c1 c2 c3 c4 (.slice A g.length c) _ (HG6.out.next hs1) HL1.out).mono ?_
            rintro e z2 ⟨v2, rfl, hown2, hb⟩
            have hs2 : Below w6.heap.size w6 z2 := hs1.trans (hb.mono hs1.size)
            replace hown1 := hown1.below hb
            refine ⟨v2, rfl, hs2, ?_⟩
            clear hb
            go_frame
            refine ord_to (some 86) 15 Tryz.func15 (by kernel_rfl) (by kernel_rfl) [v1, v2] _ _ _ rfl rfl rfl (by first | exact wanted_none rfl | exact wanted_if rfl rfl rfl rfl) rfl ?_
            refine (same_ints v1 v2 (intoL g a) (intoL g a) _ (hown1.ints HIL.out) (hown2.ints HIL.out)).mono ?_
            rintro e z3 ⟨rfl, m1, hm1⟩
            have hs3 : Below w6.heap.size w6 z3 := by rw [hm1]; exact below_drewN hs2 m1
            refine ⟨.bool true, by rw [beq_self_eq_true], hs3, ?_⟩
            clear hm1 hown1 hown2
            go_frame
            refine ord_move (some 87) (.bool true) _ _ rfl rfl rfl (by first | exact wanted_none rfl | exact wanted_if rfl rfl rfl rfl) hs3 rfl ?_
            go_frame
            refine ord_load (some 88) (.agg ⟨[c0, c1, c2, c3, c4, .slice A g.length c]⟩) _ rfl rfl (by first | exact wanted_none rfl | exact wanted_if rfl rfl rfl rfl) hs3 (fun z hz => exec_sload 27 rfl w.heap.size 0 [c0, c1, c2, c3, c4, .slice A g.length c] _ rfl (rangeAt_below HR6.out hz HS6.out) Tryz.underlying27 rfl (by kernel_rfl)) ?_
            go_frame
            refine ord_move (some 89) (.int .i64 a) _ _ rfl rfl rfl (by first | exact wanted_none rfl | exact wanted_if rfl rfl rfl rfl) hs3 rfl ?_
            go_frame
            refine ord_move (some 90) (.int .i64 p) _ _ rfl rfl rfl (by first | exact wanted_none rfl | exact wanted_if rfl rfl rfl rfl) hs3 rfl ?_
            go_frame
            refine ord_load (some 92) (.agg ⟨[c0, c1, c2, c3, c4, .slice A g.length c]⟩) _ rfl rfl (by first | exact wanted_none rfl | exact wanted_if rfl rfl rfl rfl) hs3 (fun z hz => exec_sload 27 rfl w.heap.size 0 [c0, c1, c2, c3, c4, .slice A g.length c] _ rfl (rangeAt_below HR6.out hz HS6.out) Tryz.underlying27 rfl (by kernel_rfl)) ?_
            go_frame
            refine ord_move (some 93) (.int .i64 a) _ _ rfl rfl rfl (by first | exact wanted_none rfl | exact wanted_if rfl rfl rfl rfl) hs3 rfl ?_
            go_frame
            refine ord_move (some 94) (.int .i64 p) _ _ rfl rfl rfl (by first | exact wanted_none rfl | exact wanted_if rfl rfl rfl rfl) hs3 rfl ?_
            go_frame
            refine ord_to (some 91) 18 Tryz.func18 (by kernel_rfl) (by kernel_rfl) [.agg ⟨[c0, c1, c2, c3, c4, .slice A g.length c]⟩, .int .i64 a, .int .i64 p] _ _ _ rfl rfl rfl (by first | exact wanted_none rfl | exact wanted_if rfl rfl rfl rfl) rfl ?_
            refine (out_any g a p c0 c1 c2 c3 c4 (.slice A g.length c) _ (HG6.out.next hs3) HL1.out).mono ?_
            rintro e z4 ⟨he, hb⟩
            have hs4 : Below w6.heap.size w6 z4 := hs3.trans (hb.mono hs3.size)
            refine ⟨(.int .i64 ov), by rw [he, HOV.out], hs4, ?_⟩
            clear hb he
            go_frame
            refine ord_to (some 95) 19 Tryz.func19 (by kernel_rfl) (by kernel_rfl) [.agg ⟨[c0, c1, c2, c3, c4, .slice A g.length c]⟩, .int .i64 a, .int .i64 p] _ _ _ rfl rfl rfl (by first | exact wanted_none rfl | exact wanted_if rfl rfl rfl rfl) rfl ?_
            refine (rout_any g a p c0 c1 c2 c3 c4 (.slice A g.length c) _ (HG6.out.next hs4) HL1.out).mono ?_
            rintro e z5 ⟨he, hb⟩
            have hs5 : Below w6.heap.size w6 z5 := hs4.trans (hb.mono hs4.size)
            refine ⟨(.int .i64 ov), by rw [he, HOV.out], hs5, ?_⟩
            clear hb he
            go_frame
            refine ord_load (some 96) (.bool true) _ rfl rfl (by first | exact wanted_none rfl | exact wanted_if rfl rfl rfl rfl) hs5 (fun z hz => by go_simp) ?_
            go_frame
            refine ord_pick (some 97) (.bool true) _ _ _ _ true rfl rfl rfl rfl (by first | exact wanted_none rfl | exact wanted_if rfl rfl rfl rfl) hs5 rfl ?_
            go_frame
            refine ord_move (some 98) (.bool true) _ _ rfl rfl rfl (by first | exact wanted_none rfl | exact wanted_if rfl rfl rfl rfl) hs5 rfl ?_
            go_frame
            refine ord_load (some 99) (.agg ⟨[c0, c1, c2, c3, c4, .slice A g.length c]⟩) _ rfl rfl (by first | exact wanted_none rfl | exact wanted_if rfl rfl rfl rfl) hs5 (fun z hz => exec_sload 27 rfl w.heap.size 0 [c0, c1, c2, c3, c4, .slice A g.length c] _ rfl (rangeAt_below HR6.out hz HS6.out) Tryz.underlying27 rfl (by kernel_rfl)) ?_
            go_frame
            refine ord_move (some 100) (.int .i64 a) _ _ rfl rfl rfl (by first | exact wanted_none rfl | exact wanted_if rfl rfl rfl rfl) hs5 rfl ?_
            go_frame
            refine ord_load (some 102) (.agg ⟨[c0, c1, c2, c3, c4, .slice A g.length c]⟩) _ rfl rfl (by first | exact wanted_none rfl | exact wanted_if rfl rfl rfl rfl) hs5 (fun z hz => exec_sload 27 rfl w.heap.size 0 [c0, c1, c2, c3, c4, .slice A g.length c] _ rfl (rangeAt_below HR6.out hz HS6.out) Tryz.underlying27 rfl (by kernel_rfl)) ?_
            go_frame
            refine ord_move (some 103) (.int .i64 a) _ _ rfl rfl rfl (by first | exact wanted_none rfl | exact wanted_if rfl rfl rfl rfl) hs5 rfl ?_
            go_frame
            refine ord_to (some 101) 20 Tryz.func20 (by kernel_rfl) (by kernel_rfl) [.agg ⟨[c0, c1, c2, c3, c4, .slice A g.length c]⟩, .int .i64 a] _ _ _ rfl rfl rfl (by first | exact wanted_none rfl | exact wanted_if rfl rfl rfl rfl) rfl ?_
            refine (reach_any g a c0 c1 c2 c3 c4 (.slice A g.length c) _ (HG6.out.next hs5) HL1.out HL2.out).mono ?_
            rintro e z6 ⟨v3, rfl, hown1, hb⟩
            have hs6 : Below w6.heap.size w6 z6 := hs5.trans (hb.mono hs5.size)
            refine ⟨v3, rfl, hs6, ?_⟩
            clear hb
            go_frame
            refine ord_to (some 104) 21 Tryz.func21 (by kernel_rfl) (by kernel_rfl) [.agg ⟨[c0, c1, c2, c3, c4, .slice A g.length c]⟩, .int .i64 a] _ _ _ rfl rfl rfl (by first | exact wanted_none rfl | exact wanted_if rfl rfl rfl rfl) rfl ?_
            refine (rreach_any g a c0 c1 c2 c3 c4 (.slice A g.length c) _ (HG6.out.next hs6) HL1.out HL2.out).mono ?_
            rintro e z7 ⟨v4, rfl, hown2, hb⟩
            have hs7 : Below w6.heap.size w6 z7 := hs6.trans (hb.mono hs6.size)
            replace hown1 := hown1.below hb
            refine ⟨v4, rfl, hs7, ?_⟩
            clear hb
            go_frame
            refine ord_to (some 105) 15 Tryz.func15 (by kernel_rfl) (by kernel_rfl) [v3, v4] _ _ _ rfl rfl rfl (by first | exact wanted_none rfl | exact wanted_if rfl rfl rfl rfl) rfl ?_
            refine (same_ints v3 v4 (reachL g a) (reachL g a) _ (hown1.ints HRL.out) (hown2.ints HRL.out)).mono ?_
            rintro e z8 ⟨rfl, m1, hm1⟩
            have hs8 : Below w6.heap.size w6 z8 := by rw [hm1]; exact below_drewN hs7 m1
            refine ⟨.bool true, by rw [beq_self_eq_true], hs8, ?_⟩
            clear hm1 hown1 hown2
            go_frame
            refine ord_pick (some 106) (.bool true) _ _ _ _ true rfl rfl rfl rfl (by first | exact wanted_none rfl | exact wanted_if rfl rfl rfl rfl) hs8 rfl ?_
            go_frame
            refine ord_assign (some 6) (.bool true) _ _ rfl rfl rfl (by first | exact wanted_none rfl | exact wanted_if rfl rfl rfl rfl) hs8 rfl ?_
            go_frame
            refine ord_end ?_
            have HKE := Lib.hid hs8
            clear hs0 hs1 hs2 hs3 hs4 hs5 hs6 hs7 hs8
            go_wp2
            go_ret
            exact ⟨rfl, HBW6.out.trans (HKE.out.mono HBW6.out.size)⟩

set_option maxRecDepth 100000 in
/-- the row's step, argument by argument -/
theorem modelGraph_lifted (os : Os) (started : os.Started) (H : Type) (enc : TypeId × Value → H) :
    ReturnsInHanded {} Tryz.checked os 4 .any (Rows.modelGraphSpec.pre6 enc Tryz.prog Tryz.f4 Rows.modelGraphRow.domain false) (Rows.modelGraphSpec.post enc Tryz.prog Tryz.f4 false true false false) := by
  refine returnsInHanded_of_change (C := Tryz.checked) own started (by kernel_rfl) Tryz.func4
    (ChangeSpec.witness6 (enc := enc) (C := Tryz.checked) false ⟨#[], #[.agg #[.int .i64 0, .slice none 0 0, .slice none 0 0, .slice none 0 0, .slice none 0 0, .slice none 0 0], .int .i64 0, .int .i64 0], []⟩ 8 (by kernel_rfl) (by kernel_rfl) (by kernel_rfl) (by kernel_rfl)) ?_
  intro W base args ds gs before hval0 hW hcnd _
  have hval : ∀ (j : Nat) t v, Tryz.f4.params[j]? = some t → args[j]? = some v → Value.okWide Tryz.prog W .any base t v := hval0
  have hW' := hW
  obtain ⟨p, q, hA0, hV, rfl, hfz, hnd⟩ := hW
  have hA : DataW.TrodAll enc Tryz.prog W 0 (fun _ => true) true Tryz.f4.params.toList args.toList ds p := hA0
  rw [Tryz.params4] at hA hval
  obtain ⟨v0, vs0, d0, ds0, p0, q0, hargs, rfl, rfl, h0, r0⟩ := trodAll_cons hA
  obtain ⟨v1, vs1, d1, ds1, p1, q1, rfl, rfl, rfl, h1, r1⟩ := trodAll_cons r0
  obtain ⟨v2, vs2, d2, ds2, p2, q2, rfl, rfl, rfl, h2, r2⟩ := trodAll_cons r1
  obtain ⟨rfl, rfl, rfl⟩ := trodAll_nil r2
  obtain rfl : args = #[v0, v1, v2] := by cases args; simp_all
  obtain ⟨rfl, rfl⟩ := trodVars_none hV
  have k0 := h0
  have lt0 := lt_of_trod k0
  obtain ⟨cs0, m0, rfl, hm0⟩ := model_arg (hval 0 27 v0 rfl rfl) h0
  obtain ⟨a1, rfl, rfl, rfl, w1⟩ := open_int Tryz.underlying3 (hval 1 3 v1 rfl rfl) h1
  obtain ⟨a2, rfl, rfl, rfl, w2⟩ := open_int Tryz.underlying3 (hval 2 3 v2 rfl rfl) h2
  clear hA0 hval0
  refine (modelGraph_walk W cs0 m0 hm0 a1 w1 a2 w2).mono fun e W' ⟨he, bel⟩ => ?_
  subst he
  exact ⟨_, rfl, _, _, _, [], _, [], hW', trodAll_mk1 (shut_bool Tryz.underlying4 _), (trodAll_cons_mk (Below.trod laidOut (by kernel_rfl) (of_decide_eq_true (by kernel_rfl)) k0 bel lt0) (trodAll_cons_mk (shut_int Tryz.underlying3 w1) (trodAll_cons_mk (shut_int Tryz.underlying3 w2) trodAll_mk0))), rfl, bel.frame _, fun h => by cases h⟩

theorem modelGraph_proved : Rows.ModelGraphSaid :=
  OpenClaim.holds_of_wide 4 Tryz.f4 rfl rfl rfl rfl rfl rfl rfl ⟨rfl, rfl, rfl, rfl, rfl⟩ rfl rfl rfl rfl rfl (by kernel_rfl) Tryz.func4 (by kernel_rfl)
    (of_decide_eq_true (by kernel_rfl)) (by unfold Func.isWrapper; first | (rw [if_pos (by decide +kernel)]; kernel_rfl) | (rw [if_neg (by decide +kernel)]; exact ⟨rfl, rfl⟩))
    (fun os started H enc _ => modelGraph_lifted os started H enc)
#print axioms modelGraph_proved

end Go.Proofs.YtlfefikhmdbbfaaGreat
