/- THE STATEMENT RegionLeast is proved: for every model and every root the Go function RegionLeast returns true, and its arguments read afterwards as before; without conditions. -/
import Derived.Test.YtedajbpjokmlaaaLaw15b
import Derived.Test.YtedajbpjokmlaaaOpen
namespace Go.Proofs.Ytedajbpjokmlaaa
open Go.ChangeShapes Go.WideShapes Go.ChangeAt Go.RowKit Go
set_option linter.unusedVariables false

set_option maxHeartbeats 8000000 in
set_option maxRecDepth 100000 in
theorem regionLeast_walk (w : World) (cs : List Value) (m : ModelT) (hv : ModelAt w w.heap.size cs m) (a : Int) (_wa : (Lit.int .i64 a).wf = true) :
    Calls Try.prog 6 #[.agg ⟨cs⟩, .int .i64 a] w fun e w' => e = .returned (.bool true) ∧ Below w.heap.size w w' := by
  have HM := Lib.hid hv
  obtain ⟨c1, c2, c3, c4, v5, rfl, hg⟩ := hv.graph
  have hgg : GraphAt w w.heap.size v5 (gOf m) := hg
  have HSG := Lib.hid (fun (h : SmallM m) => small_g h)
  generalize gOf m = g at *
  obtain ⟨c0, hc0⟩ : ∃ c0, c0 = Value.int .i64 m.labels := ⟨_, rfl⟩
  rw [← hc0] at HM
  rw [← hc0]
  clear hg hc0
  have HG := Lib.hid hgg
  obtain ⟨hgl, A, c, rfl, hA⟩ := hgg
  clear hA hgl
  go_enter Try.func6, Try.ntmps6
  go_upto_region 1 with (fail)
  have HB1 := Lib.hid (box_below w (.cells ⟨[c0, c1, c2, c3, c4, .slice A g.length c]⟩ 27))
  have HS1 := Lib.hid (box_size w (.cells ⟨[c0, c1, c2, c3, c4, .slice A g.length c]⟩ 27))
  have HC1 := Lib.hid (cells_box w [c0, c1, c2, c3, c4, .slice A g.length c] 27 5 _ rfl)
  have HR1 := Lib.hid (range_box w [c0, c1, c2, c3, c4, .slice A g.length c] 27)
  generalize w.alloc (.cells ⟨[c0, c1, c2, c3, c4, .slice A g.length c]⟩ 27) = W1 at *
  go_wp2_with (go_at_call 10; fail)
  refine (awake15 _).mono ?_
  rintro e w2 ⟨rfl, hb2⟩
  have HR2 := Lib.hid (rangeAt_below HR1.out hb2 HS1.out)
  have HBW2 := Lib.hid (HB1.out.trans (hb2.mono HB1.out.size))
  have HS2 := Lib.hid (Nat.lt_of_lt_of_le HS1.out hb2.size)
  have HC2 := Lib.hid ((hb2.cell (p := ⟨w.heap.size, 5, none⟩) HS1.out).trans HC1.out)
  clear HR1 HB1 HS1 HC1 hb2
  go_wp2_with (first | ((with_reducible refine wl_sload 27 _ rfl ?hw2 w.heap.size 0 [c0, c1, c2, c3, c4, .slice A g.length c] _ rfl HR2.out Try.underlying27 rfl ?hi2 ?_); (case hw2 => first | exact wanted_none rfl | exact wanted_if rfl rfl rfl rfl); (case hi2 => kernel_rfl)) | (go_at_call 11; fail))
  refine (msmall m _ w2 (HM.out.next HBW2.out)).mono ?_
  rintro e w3 ⟨b, rfl, hb3, hsm⟩
  have HR3 := Lib.hid (rangeAt_below HR2.out hb3 HS2.out)
  have HBW3 := Lib.hid (HBW2.out.trans (hb3.mono HBW2.out.size))
  have HS3 := Lib.hid (Nat.lt_of_lt_of_le HS2.out hb3.size)
  have HC3 := Lib.hid ((hb3.cell (p := ⟨w.heap.size, 5, none⟩) HS2.out).trans HC2.out)
  clear HR2 HBW2 HS2 HC2 hb3
  cases b with
  | false =>
    clear hsm
    go_wp2_with (go_at_call 10; fail)
    refine (awake15 _).mono ?_
    rintro e w4 ⟨rfl, hb4⟩
    have HBW4 := Lib.hid (HBW3.out.trans (hb4.mono HBW3.out.size))
    clear hb4
    go_wp2
    go_ret
    exact ⟨rfl, HBW4.out⟩
  | true =>
    have hsg := HSG.out (hsm rfl)
    have HN : Hid (g.length ≤ 100) := Lib.hid hsg.1
    have HEN : Hid ((edgesOf g).length ≤ 4100) := Lib.hid hsg.2
    have HL1 : Hid ((edgesOf g).length ≤ 10000) := Lib.hid (by have := HEN.out; omega)
    have HL2 : Hid (g.length ≤ 10000) := Lib.hid (by have := HN.out; omega)
    have HL3 : Hid (g.length ≤ 5000) := Lib.hid (by have := HN.out; omega)
    have HG3 := Lib.hid (HG.out.next HBW3.out)
    have hn2 : (g.length : Int) ≤ 100 := by have := HN.out; omega
    clear hsg hsm HG HSG
    have HCO := Lib.hid (weights_any g c0 c1 c2 c3 c4 (.slice A g.length c) w3 HG3.out HL1.out HL2.out)
    go_upto_region 4 with (first | ((with_reducible refine wl_sload 27 _ rfl ?hw2 w.heap.size 0 [c0, c1, c2, c3, c4, .slice A g.length c] _ rfl HR3.out Try.underlying27 rfl ?hi2 ?_); (case hw2 => first | exact wanted_none rfl | exact wanted_if rfl rfl rfl rfl); (case hi2 => kernel_rfl)) | (go_at_call 16; refine HCO.out.mono ?_; rintro e w4 ⟨vw, rfl, hints, hb⟩; have HVW := Lib.hid hints; have HB4 := Lib.hid hb; clear hints hb))
    have HR4 := Lib.hid (rangeAt_below HR3.out HB4.out HS3.out)
    have HBW4 := Lib.hid (HBW3.out.trans (HB4.out.mono HBW3.out.size))
    have HS4 := Lib.hid (Nat.lt_of_lt_of_le HS3.out HB4.out.size)
    have HC4 := Lib.hid ((HB4.out.cell (p := ⟨w.heap.size, 5, none⟩) HS3.out).trans HC3.out)
    have HG4 := Lib.hid (HG3.out.next HB4.out)
    clear HR3 HBW3 HS3 HC3 HG3
    clear HCO
    cases hok : okOf g with
    | false =>
      clear hok
      go_wp2
      go_ret
      exact ⟨rfl, HBW4.out⟩
    | true =>
      have HWL : Hid (weightsL g = weightsOf g.length (graphE g) (orderOf g.length (graphE g))) := Lib.hid (by unfold weightsL; rw [if_pos hok])
      have HIL : Hid ((orderOf g.length (graphE g)).length = g.length) := Lib.hid (by unfold okOf at hok; simpa using hok)
      have HTP : Hid (Topo g.length (graphE g) (orderOf g.length (graphE g))) := Lib.hid (order_topo (n := g.length) (E := graphE g) g.length (Topo.nil _ _))
      have HGE := Lib.hid (fun e he => graphE_lt (g := g) e he)
      rw [HWL.out] at HVW
      have HWI := Lib.hid (weights_in g.length (graphE g) (orderOf g.length (graphE g)))
      have HWN := Lib.hid (weights_len g.length (graphE g) (orderOf g.length (graphE g)))
      have HWS := Lib.hid (fun i hi => weights_sum HTP.out HIL.out (fun e he => (HGE.out e he).2) (i := i) hi)
      have HND := Lib.hid (fun i t he p y hy => doms_no_back hok (a := a) (i := i) (t := t) he (p := p) (y := y) hy)
      have HDL := Lib.hid (fun i => doms_len g a i)
      have HLF := Lib.hid (fun i x hx h1 h2 => outs_leaf (g := g) (i := i) (x := x) hx h1 h2)
      clear HTP HIL HWL
      generalize weightsOf g.length (graphE g) (orderOf g.length (graphE g)) = W at *
      obtain ⟨hwl, Aw, cw, hvw, hAw⟩ := HVW.out.ints
      rw [HWN.out] at hvw
      subst hvw
      have HAW := Lib.hid hAw
      clear hwl hAw HVW hok
      have HCO := Lib.hid (dominators_any g a c0 c1 c2 c3 c4 (.slice A g.length c) w4 HG4.out HL1.out HL3.out)
      go_upto_region 7 with (first | ((with_reducible refine wl_sload 27 _ rfl ?hw2 w.heap.size 0 [c0, c1, c2, c3, c4, .slice A g.length c] _ rfl HR4.out Try.underlying27 rfl ?hi2 ?_); (case hw2 => first | exact wanted_none rfl | exact wanted_if rfl rfl rfl rfl); (case hi2 => kernel_rfl)) | (go_at_call 13; refine HCO.out.mono ?_; rintro e w5 ⟨sb, C, V, rfl, hst, hb, _⟩; have HST := Lib.hid hst; have HB5 := Lib.hid hb; clear hst hb))
      have HR5 := Lib.hid (rangeAt_below HR4.out HB5.out HS4.out)
      have HBW5 := Lib.hid (HBW4.out.trans (HB5.out.mono HBW4.out.size))
      have HS5 := Lib.hid (Nat.lt_of_lt_of_le HS4.out HB5.out.size)
      have HC5 := Lib.hid ((HB5.out.cell (p := ⟨w.heap.size, 5, none⟩) HS4.out).trans HC4.out)
      have HG5 := Lib.hid (HG4.out.next HB5.out)
      clear HR4 HBW4 HS4 HC4 HG4
      have HAW5 : Hid (0 < W.length → ∃ b o, Aw = some ⟨b, o, none⟩ ∧ b < w5.heap.size ∧ ∀ (i : Nat) x, W[i]? = some x → w5.cell? ⟨b, o + i, none⟩ = some (.int .i64 x)) := Lib.hid fun h0 => by
        obtain ⟨b, o, h1, h2, h3⟩ := HAW.out h0
        exact ⟨b, o, h1, Nat.lt_of_lt_of_le h2 HB5.out.size, fun i x hx => (HB5.out.cell (p := ⟨b, o + i, none⟩) h2).trans (h3 i x hx)⟩
      clear HAW HCO HB5 HB4
      have HCE := Lib.hid (edges_any g c0 c1 c2 c3 c4 (.slice A g.length c) w5 HG5.out HL1.out)
      have HIN : Hid (∀ e, e ∈ edgesOf g → okE g.length e = true → (e.1, e.2.2.toNat) ∈ graphE g) := Lib.hid fun e he hok => List.mem_map.2 ⟨e, List.mem_filter.2 ⟨he, hok⟩, rfl⟩
      have HEF : Hid (∀ e, e ∈ edgesOf g → e.1 < g.length) := Lib.hid fun e he => edges_from he
      go_wp2_with (first | ((with_reducible refine wl_sload 27 _ rfl ?hw2 w.heap.size 0 [c0, c1, c2, c3, c4, .slice A g.length c] _ rfl HR5.out Try.underlying27 rfl ?hi2 ?_); (case hw2 => first | exact wanted_none rfl | exact wanted_if rfl rfl rfl rfl); (case hi2 => kernel_rfl)) | (go_at_call 18; fail))
      refine HCE.out.mono ?_
      rintro e w6 ⟨v6, rfl, hown, hb⟩
      obtain ⟨hel, EA, ec, rfl, hea⟩ := hown.at encE_len (by have := HEN.out; omega)
      have HEB := Lib.hid hea
      have HB6 := Lib.hid hb
      clear hown hb hel hea HCE
      generalize edgesOf g = E at *
      have hle2 : (E.length : Int) ≤ 4100 := by have := HEN.out; omega
      go_wp2
      go_loopg [35] E.length (fun q x u => ∃ j : Nat, j + q = E.length ∧ x = .int .i64 j ∧ Below w6.heap.size w6 u)
      case atStart => exact ⟨0, by omega, rfl, Below.refl _ _⟩
      case round =>
        obtain ⟨j, hj, rfl, hb⟩ := hrel
        have HBK := Lib.hid hb
        clear hb
        have HB12 := Lib.hid (HB6.out.trans (HBK.out.mono HB6.out.size))
        have HC12 := Lib.hid ((HB12.out.cell (p := ⟨w.heap.size, 5, none⟩) HS5.out).trans HC5.out)
        cases gk with
        | zero =>
          obtain rfl : j = E.length := by omega
          have hge : ¬ ((E.length : Int) < (E.length : Int)) := by omega
          have d5 := HC12.out
          obtain ⟨_, Ag, cg, hvg, hAg⟩ := (HG5.out.next HB12.out)
          injection hvg with e1 e3 e2
          clear e3
          subst e1 e2
          have HAG := Lib.hid hAg
          have HB13 := Lib.hid (HBW5.out.trans (HB12.out.mono HBW5.out.size))
          clear hAg
          obtain ⟨W0, rfl⟩ : ∃ W0, W0 = wr := ⟨_, rfl⟩
          go_wp2
          clear d5 hge
          go_loopg [88] g.length (fun q x u => ∃ j : Nat, j + q = g.length ∧ x = .int .i64 j ∧ Below W0.heap.size W0 u)
          case atStart => exact ⟨0, by omega, rfl, Below.refl _ _⟩
          case round =>
            obtain ⟨j, hj, rfl, hb⟩ := hrel
            have HBN := Lib.hid hb
            clear hb
            cases gk with
            | zero =>
              have hge : ¬ ((j : Int) < (g.length : Int)) := by omega
              go_wp2
              go_ret
              exact ⟨rfl, HB13.out.trans (HBN.out.mono HB13.out.size)⟩
            | succ q =>
              have hlt : (j : Int) < (g.length : Int) := by omega
              have hjn : j < g.length := by omega
              obtain ⟨y, hy⟩ : ∃ y, g[j]? = some y := ⟨_, List.getElem?_eq_getElem (by omega)⟩
              obtain ⟨b, o, rfl, hbb, hc⟩ := HAG.out (by omega)
              obtain ⟨ks, hcl, hr, hR⟩ := hc j y hy
              have HRK := Lib.hid (rangeAt_below hr HBN.out hbb)
              have HKL := Lib.hid hcl
              have HVA := Lib.hid (hR.under (HBN.out))
              obtain ⟨vn, hvn, hns⟩ := hR.next
              obtain ⟨hnl, NA, nc, rfl, hna⟩ := hns
              have HVN := Lib.hid hvn
              have HLY := Lib.hid (HLF.out j y hy)
              have hwn := HWS.out j hjn
              clear hc hcl hr hR hvn hna hy
              go_upto_region 23 with (first | ((with_reducible refine wl_sload 55 _ rfl ?hw b (o + j * 29) ks _ rfl HRK.out Try.underlying55 rfl ?hi ?_); (case hw => first | exact wanted_none rfl | exact wanted_if rfl rfl rfl rfl); (case hi => rw [HKL.out]; kernel_rfl)) | ((with_reducible refine wl_sbox 55 _ _ rfl ?hw wr ?zn ks ?hwld ?hz ?hx ?hy ?hi ?h1 ?_); (case hwld => rfl); (case hx => rfl); (case hy => rfl); (case hw => first | exact wanted_none rfl | exact wanted_if rfl rfl rfl rfl); (case hz => rw [HKL.out]; rfl); (case hi => rw [HKL.out]; kernel_rfl); (case h1 => exact HVA.out.one); intro Z hbx; have HX := Lib.hid hbx; clear hbx))
              have HBZ := Lib.hid (HBN.out.trans (HX.out.below.mono HBN.out.size))
              have HBZ5 := Lib.hid (HB12.out.trans (HBZ.out.mono HB12.out.size))
              obtain ⟨nb, hnb⟩ : ∃ nb, wr.heap.size = nb := ⟨_, rfl⟩
              have dn : Z.cell? ⟨nb, 2, none⟩ = some (.slice NA y.next.length nc) := by rw [← hnb]; exact HX.out.cell 2 HVN.out
              have dk : Z.cell? ⟨nb, 26, none⟩ = some (.int .i64 y.catch_) := by rw [← hnb]; exact HX.out.cell 26 HVA.out.catch_
              rw [hnb]
              clear hnb HX HRK
              by_cases hn0 : y.next.length = 0
              · have t1 : ((y.next.length : Int) == 0) = true := by rw [hn0]; rfl
                by_cases hk0 : y.catch_ < 0
                · have t2 : decide (y.catch_ < 0) = true := by simpa using hk0
                  obtain ⟨bw, ow, rfl, hbw, hcw⟩ := HAW5.out (by rw [HWN.out]; omega)
                  have dw := (HBZ5.out.cell (p := ⟨bw, ow + j, none⟩) hbw).trans (hcw j (W.getD j 0) (by rw [List.getD_eq_getElem?_getD, List.getElem?_eq_getElem (by rw [HWN.out]; exact hjn)]; rfl))
                  rw [hwn, HLY.out (List.eq_nil_of_length_eq_zero hn0) hk0, show wFold W [] = 1 from rfl] at dw
                  clear hn0 hk0 hwn hcw
                  go_wp2
                  go_roundg q
                  case measure => omega
                  case rel => exact ⟨j + 1, by omega, by go_num, HBZ.out⟩
                · have t2 : decide (y.catch_ < 0) = false := by simpa using hk0
                  clear hn0 hk0 hwn
                  go_wp2
                  go_roundg q
                  case measure => omega
                  case rel => exact ⟨j + 1, by omega, by go_num, HBZ.out⟩
              · have t1 : ((y.next.length : Int) == 0) = false := by rw [beq_eq_false_iff_ne]; omega
                clear hn0 hwn
                go_wp2
                go_roundg q
                case measure => omega
                case rel => exact ⟨j + 1, by omega, by go_num, HBZ.out⟩
        | succ q =>
          have hlt2 : (j : Int) < (E.length : Int) := by omega
          obtain ⟨e, he⟩ : ∃ e, E[j]? = some e := ⟨_, List.getElem?_eq_getElem (by omega)⟩
          obtain ⟨b, o, rfl, hbl, hc⟩ := HEB.out (by omega)
          have HRE : Hid (wr.rangeAt b (o + j * 3) [.int .i64 e.1, .int .i64 e.2.1, .int .i64 e.2.2]) := Lib.hid (by
            obtain ⟨ks, h1, h2, h3⟩ := hc j e he
            have h3' : ks = encE e := h3
            subst h3'
            exact rangeAt_below h2 HBK.out hbl)
          have HEM := Lib.hid (List.mem_of_getElem? he)
          clear hc he
          go_upto_region 10 with (first | ((with_reducible refine wl_sload 41 _ rfl ?hw b (o + j * 3) [.int .i64 e.1, .int .i64 e.2.1, .int .i64 e.2.2] _ rfl HRE.out Try.underlying41 rfl ?hi ?_); (case hw => first | exact wanted_none rfl | exact wanted_if rfl rfl rfl rfl); (case hi => kernel_rfl)) | ((with_reducible refine wl_sbox 41 _ _ rfl ?hw wr ?z (encE e) ?hwld ?hz ?hx ?hy ?hi ?h1 ?_); (case hwld => rfl); (case hx => rfl); (case hy => rfl); (case hw => first | exact wanted_none rfl | exact wanted_if rfl rfl rfl rfl); (case hz => rfl); (case hi => kernel_rfl); (case h1 => exact encE_one e); intro Z hbx; have HX := Lib.hid hbx; clear hbx))
          have HBZ := Lib.hid (HBK.out.trans (HX.out.below.mono HBK.out.size))
          have HBZ2 := Lib.hid (HB12.out.trans (HX.out.below.mono HB12.out.size))
          obtain ⟨eb, heb⟩ : ∃ eb, wr.heap.size = eb := ⟨_, rfl⟩
          have d0 : Z.cell? ⟨eb, 0, none⟩ = some (.int .i64 e.1) := heb ▸ HX.out.cell 0 rfl
          have d2 : Z.cell? ⟨eb, 2, none⟩ = some (.int .i64 e.2.2) := heb ▸ HX.out.cell 2 rfl
          have HEZ : Hid (eb < Z.heap.size) := Lib.hid (heb ▸ HX.out.size)
          have d5 := (HBZ2.out.cell (p := ⟨w.heap.size, 5, none⟩) HS5.out).trans HC5.out
          rw [heb]
          clear heb HX HRE
          by_cases hneg : e.2.2 < 0
          · have t3 : decide (e.2.2 < 0) = true := by simpa using hneg
            clear hneg
            go_wp2
            go_roundg q
            case measure => omega
            case rel => exact ⟨j + 1, by omega, by go_num, HBZ.out⟩
          · have t3 : decide (e.2.2 < 0) = false := by simpa using hneg
            by_cases hbig : (g.length : Int) ≤ e.2.2
            · have t4 : decide ((g.length : Int) ≤ e.2.2) = true := by simpa using hbig
              clear hneg hbig
              go_wp2
              go_roundg q
              case measure => omega
              case rel => exact ⟨j + 1, by omega, by go_num, HBZ.out⟩
            · obtain ⟨t, ht⟩ : ∃ t : Nat, e.2.2 = t := ⟨e.2.2.toNat, by omega⟩
              have htn : t < g.length := by omega
              have ht2 : (t : Int) < (g.length : Int) := by omega
              have hok : okE g.length e = true := okE_iff.2 ⟨by omega, by omega⟩
              have htt : e.2.2.toNat = t := by omega
              have hedge := HIN.out e HEM.out hok
              rw [htt] at hedge
              have hfn := HEF.out e HEM.out
              have hf2 : (e.1 : Int) < (g.length : Int) := by omega
              have hsum := HWS.out e.1 hfn
              have hge := wFold_ge HWI.out (mem_outs.2 hedge)
              rw [← hsum] at hge
              have HNO := Lib.hid (HND.out e.1 t hedge)
              rw [ht] at d2 t3
              have t4 : decide ((g.length : Int) ≤ (t : Int)) = false := by simp; omega
              obtain ⟨bw, ow, rfl, hbw, hcw⟩ := HAW5.out (by rw [HWN.out]; omega)
              have dw := (HBZ2.out.cell (p := ⟨bw, ow + t, none⟩) hbw).trans (hcw t (W.getD t 0) (by rw [List.getD_eq_getElem?_getD, List.getElem?_eq_getElem (by rw [HWN.out]; exact htn)]; rfl))
              have dv := (HBZ2.out.cell (p := ⟨bw, ow + e.1, none⟩) hbw).trans (hcw e.1 (W.getD e.1 0) (by rw [List.getD_eq_getElem?_getD, List.getElem?_eq_getElem (by rw [HWN.out]; exact hfn)]; rfl))
              have HSZ := Lib.hid (HST.out.below HBZ2.out)
              have hdl := HDL.out e.1
              obtain ⟨_, Ad, cd, hVd, hAd⟩ := (HSZ.out.ints hfn (by have := HN.out; omega)).ints
              have HAD := Lib.hid hAd
              have dd := HSZ.out.row.c e.1 hfn
              rw [hVd] at dd
              have hd2 : ((domsOf g a e.1).length : Int) ≤ 100 := by have := HN.out; omega
              generalize domsOf g a e.1 = R at *
              clear hneg hbig htt hok hedge hcw hsum hAd hVd hdl
              go_upto_region 11 with (fail)
              clear t3 t4
              by_cases hle : W.getD e.1 0 ≤ W.getD t 0
              · have t6 : decide (W.getD e.1 0 ≤ W.getD t 0) = true := by simpa using hle
                have t7 : decide (W.getD t 0 < 1000000000) = false := decide_eq_false (by omega)
                clear hle hge
                generalize W.getD t 0 = at1 at *
                generalize W.getD e.1 0 = at2 at *
                go_quiet (fail)
                have HBQ := Lib.hid (below_drewN HBZ.out nq)
                have HQZ := Lib.hid (below_drewN (Below.refl Z.heap.size Z) nq)
                have HE2 : Hid (eb < (Z.drewN nq).heap.size) := Lib.hid HEZ.out
                have x0 : (Z.drewN nq).cell? ⟨eb, 0, none⟩ = some (.int .i64 e.1) := d0
                have x2 : (Z.drewN nq).cell? ⟨eb, 2, none⟩ = some (.int .i64 t) := d2
                have xd := dd
                have HAQ : Hid (0 < R.length → ∃ b o, Ad = some ⟨b, o, none⟩ ∧ b < (Z.drewN nq).heap.size ∧ ∀ (i : Nat) x, R[i]? = some x → (Z.drewN nq).cell? ⟨b, o + i, none⟩ = some (.int .i64 x)) := Lib.hid HAD.out
                change (Z.drewN nq).cell? ⟨sb, e.1, none⟩ = _ at xd
                clear d0 d2 dd d5 dw dv
                generalize Z.drewN nq = Y at *
                go_wp2
                go_loopg [75] R.length (fun q2 x u => ∃ p : Nat, p + q2 = R.length ∧ x = .int .i64 p ∧ u = Y)
                case atStart => exact ⟨0, by omega, rfl, rfl⟩
                case round =>
                  obtain ⟨p, hp, rfl, rfl⟩ := hrel
                  cases gk with
                  | zero =>
                    obtain rfl : p = R.length := by omega
                    have hge2 : ¬ ((R.length : Int) < (R.length : Int)) := by omega
                    go_wp2
                    go_roundg q
                    case measure => omega
                    case rel => exact ⟨j + 1, by omega, by go_num, HBQ.out⟩
                  | succ q2 =>
                    have hlt3 : (p : Int) < (R.length : Int) := by omega
                    obtain ⟨y, hy⟩ : ∃ y, R[p]? = some y := ⟨_, List.getElem?_eq_getElem (by omega)⟩
                    obtain ⟨b3, o3, rfl, _, hc3⟩ := HAQ.out (by omega)
                    have dy := hc3 p y hy
                    have hyt := HNO.out p y hy
                    have t8 : (y == (t : Int)) = false := by rw [beq_eq_false_iff_ne]; exact hyt
                    clear hc3 hy hyt
                    go_wp2
                    go_roundg q2
                    case measure => omega
                    case rel => exact ⟨p + 1, by omega, by go_num, rfl⟩
              · have t6 : decide (W.getD e.1 0 ≤ W.getD t 0) = false := by simpa using hle
                clear hle hge
                generalize W.getD t 0 = at1 at *
                generalize W.getD e.1 0 = at2 at *
                go_quiet (fail)
                have HBQ := Lib.hid (below_drewN HBZ.out nq)
                have HQZ := Lib.hid (below_drewN (Below.refl Z.heap.size Z) nq)
                have HE2 : Hid (eb < (Z.drewN nq).heap.size) := Lib.hid HEZ.out
                have x0 : (Z.drewN nq).cell? ⟨eb, 0, none⟩ = some (.int .i64 e.1) := d0
                have x2 : (Z.drewN nq).cell? ⟨eb, 2, none⟩ = some (.int .i64 t) := d2
                have xd := dd
                have HAQ : Hid (0 < R.length → ∃ b o, Ad = some ⟨b, o, none⟩ ∧ b < (Z.drewN nq).heap.size ∧ ∀ (i : Nat) x, R[i]? = some x → (Z.drewN nq).cell? ⟨b, o + i, none⟩ = some (.int .i64 x)) := Lib.hid HAD.out
                change (Z.drewN nq).cell? ⟨sb, e.1, none⟩ = _ at xd
                clear d0 d2 dd d5 dw dv
                generalize Z.drewN nq = Y at *
                go_wp2
                go_loopg [75] R.length (fun q2 x u => ∃ p : Nat, p + q2 = R.length ∧ x = .int .i64 p ∧ u = Y)
                case atStart => exact ⟨0, by omega, rfl, rfl⟩
                case round =>
                  obtain ⟨p, hp, rfl, rfl⟩ := hrel
                  cases gk with
                  | zero =>
                    obtain rfl : p = R.length := by omega
                    have hge2 : ¬ ((R.length : Int) < (R.length : Int)) := by omega
                    go_wp2
                    go_roundg q
                    case measure => omega
                    case rel => exact ⟨j + 1, by omega, by go_num, HBQ.out⟩
                  | succ q2 =>
                    have hlt3 : (p : Int) < (R.length : Int) := by omega
                    obtain ⟨y, hy⟩ : ∃ y, R[p]? = some y := ⟨_, List.getElem?_eq_getElem (by omega)⟩
                    obtain ⟨b3, o3, rfl, _, hc3⟩ := HAQ.out (by omega)
                    have dy := hc3 p y hy
                    have hyt := HNO.out p y hy
                    have t8 : (y == (t : Int)) = false := by rw [beq_eq_false_iff_ne]; exact hyt
                    clear hc3 hy hyt
                    go_wp2
                    go_roundg q2
                    case measure => omega
                    case rel => exact ⟨p + 1, by omega, by go_num, rfl⟩

set_option maxRecDepth 100000 in
/-- the row's step, argument by argument -/
theorem regionLeast_lifted (os : Os) (started : os.Started) (H : Type) (enc : TypeId × Value → H) :
    ReturnsInHanded {} Try.checked os 6 .any (Rows.regionLeastSpec.pre6 enc Try.prog Try.f6 Rows.regionLeastRow.domain false) (Rows.regionLeastSpec.post enc Try.prog Try.f6 false true false false) := by
  refine returnsInHanded_of_change (C := Try.checked) own started (by kernel_rfl) Try.func6
    (ChangeSpec.witness6 (enc := enc) (C := Try.checked) false ⟨#[], #[.agg #[.int .i64 0, .slice none 0 0, .slice none 0 0, .slice none 0 0, .slice none 0 0, .slice none 0 0], .int .i64 0], []⟩ 8 (by kernel_rfl) (by kernel_rfl) (by kernel_rfl) (by kernel_rfl)) ?_
  intro W base args ds gs before hval0 hW hcnd _
  have hval : ∀ (j : Nat) t v, Try.f6.params[j]? = some t → args[j]? = some v → Value.okWide Try.prog W .any base t v := hval0
  have hW' := hW
  obtain ⟨p, q, hA0, hV, rfl, hfz, hnd⟩ := hW
  have hA : DataW.TrodAll enc Try.prog W 0 (fun _ => true) true Try.f6.params.toList args.toList ds p := hA0
  rw [Try.params6] at hA hval
  obtain ⟨v0, vs0, d0, ds0, p0, q0, hargs, rfl, rfl, h0, r0⟩ := trodAll_cons hA
  obtain ⟨v1, vs1, d1, ds1, p1, q1, rfl, rfl, rfl, h1, r1⟩ := trodAll_cons r0
  obtain ⟨rfl, rfl, rfl⟩ := trodAll_nil r1
  obtain rfl : args = #[v0, v1] := by cases args; simp_all
  obtain ⟨rfl, rfl⟩ := trodVars_none hV
  have k0 := h0
  have lt0 := lt_of_trod k0
  obtain ⟨cs0, m0, rfl, hm0⟩ := model_arg (hval 0 27 v0 rfl rfl) h0
  obtain ⟨a1, rfl, rfl, rfl, w1⟩ := open_int Try.underlying3 (hval 1 3 v1 rfl rfl) h1
  clear hA0 hval0
  refine (regionLeast_walk W cs0 m0 hm0 a1 w1).mono fun e W' ⟨he, bel⟩ => ?_
  subst he
  exact ⟨_, rfl, _, _, _, [], _, [], hW', trodAll_mk1 (shut_bool Try.underlying4 _), (trodAll_cons_mk (Below.trod laidOut (by kernel_rfl) (of_decide_eq_true (by kernel_rfl)) k0 bel lt0) (trodAll_cons_mk (shut_int Try.underlying3 w1) trodAll_mk0)), rfl, bel.frame _, fun h => by cases h⟩

theorem regionLeast_proved : Rows.RegionLeastSaid :=
  OpenClaim.holds_of_wide 6 Try.f6 rfl rfl rfl rfl rfl rfl rfl ⟨rfl, rfl, rfl, rfl, rfl⟩ rfl rfl rfl rfl rfl (by kernel_rfl) Try.func6 (by kernel_rfl)
    (of_decide_eq_true (by kernel_rfl)) (by unfold Func.isWrapper; first | (rw [if_pos (by decide +kernel)]; kernel_rfl) | (rw [if_neg (by decide +kernel)]; exact ⟨rfl, rfl⟩))
    (fun os started H enc _ => regionLeast_lifted os started H enc)
#print axioms regionLeast_proved

end Go.Proofs.Ytedajbpjokmlaaa
