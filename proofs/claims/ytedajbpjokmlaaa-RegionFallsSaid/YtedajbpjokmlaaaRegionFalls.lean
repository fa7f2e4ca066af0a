/- THE STATEMENT RegionFalls is proved: for every model the Go function RegionFalls returns true, and its argument reads afterwards as before; without conditions. -/
import Derived.Test.YtedajbpjokmlaaaLaw15
import Derived.Test.YtedajbpjokmlaaaOpen
namespace Go.Proofs.Ytedajbpjokmlaaa
open Go.ChangeShapes Go.WideShapes Go.ChangeAt Go.RowKit Go
set_option linter.unusedVariables false

set_option maxHeartbeats 8000000 in
set_option maxRecDepth 100000 in
theorem regionFalls_walk (w : World) (cs : List Value) (m : ModelT) (hv : ModelAt w w.heap.size cs m) :
    Calls Try.prog 4 #[.agg ⟨cs⟩] w fun e w' => e = .returned (.bool true) ∧ Below w.heap.size w w' := by
  have HM := Lib.hid hv
  obtain ⟨c1, c2, c3, c4, v5, rfl, hg⟩ := hv.graph
  have hgg : GraphAt w w.heap.size v5 (gOf m) := hg
  have HSG := Lib.hid (fun (h : SmallM m) => small_g h)
  generalize gOf m = g at *
  obtain ⟨c0, hc0⟩ : ∃ c0, c0 = Value.int .i64 m.labels := ⟨_, rfl⟩
  rw [← hc0] at HM
  rw [← hc0]
  clear hg hc0
  have HG := Lib.hid hgg
  obtain ⟨hgl, A, c, rfl, hA⟩ := hgg
  clear hA hgl
  go_enter Try.func4, Try.ntmps4
  go_upto_region 1 with (fail)
  have HB1 := Lib.hid (box_below w (.cells ⟨[c0, c1, c2, c3, c4, .slice A g.length c]⟩ 27))
  have HS1 := Lib.hid (box_size w (.cells ⟨[c0, c1, c2, c3, c4, .slice A g.length c]⟩ 27))
  have HC1 := Lib.hid (cells_box w [c0, c1, c2, c3, c4, .slice A g.length c] 27 5 _ rfl)
  have HR1 := Lib.hid (range_box w [c0, c1, c2, c3, c4, .slice A g.length c] 27)
  generalize w.alloc (.cells ⟨[c0, c1, c2, c3, c4, .slice A g.length c]⟩ 27) = W1 at *
  go_wp2_with (go_at_call 10; fail)
  refine (awake15 _).mono ?_
  rintro e w2 ⟨rfl, hb2⟩
  have HR2 := Lib.hid (rangeAt_below HR1.out hb2 HS1.out)
  have HBW2 := Lib.hid (HB1.out.trans (hb2.mono HB1.out.size))
  have HS2 := Lib.hid (Nat.lt_of_lt_of_le HS1.out hb2.size)
  have HC2 := Lib.hid ((hb2.cell (p := ⟨w.heap.size, 5, none⟩) HS1.out).trans HC1.out)
  clear HR1 HB1 HS1 HC1 hb2
  go_wp2_with (first | ((with_reducible refine wl_sload 27 _ rfl ?hw2 w.heap.size 0 [c0, c1, c2, c3, c4, .slice A g.length c] _ rfl HR2.out Try.underlying27 rfl ?hi2 ?_); (case hw2 => first | exact wanted_none rfl | exact wanted_if rfl rfl rfl rfl); (case hi2 => kernel_rfl)) | (go_at_call 11; fail))
  refine (msmall m _ w2 (HM.out.next HBW2.out)).mono ?_
  rintro e w3 ⟨b, rfl, hb3, hsm⟩
  have HR3 := Lib.hid (rangeAt_below HR2.out hb3 HS2.out)
  have HBW3 := Lib.hid (HBW2.out.trans (hb3.mono HBW2.out.size))
  have HS3 := Lib.hid (Nat.lt_of_lt_of_le HS2.out hb3.size)
  have HC3 := Lib.hid ((hb3.cell (p := ⟨w.heap.size, 5, none⟩) HS2.out).trans HC2.out)
  clear HR2 HBW2 HS2 HC2 hb3
  cases b with
  | false =>
    clear hsm
    go_wp2_with (go_at_call 10; fail)
    refine (awake15 _).mono ?_
    rintro e w4 ⟨rfl, hb4⟩
    have HBW4 := Lib.hid (HBW3.out.trans (hb4.mono HBW3.out.size))
    clear hb4
    go_wp2
    go_ret
    exact ⟨rfl, HBW4.out⟩
  | true =>
    have hsg := HSG.out (hsm rfl)
    have HN : Hid (g.length ≤ 100) := Lib.hid hsg.1
    have HEN : Hid ((edgesOf g).length ≤ 4100) := Lib.hid hsg.2
    have HL1 : Hid ((edgesOf g).length ≤ 10000) := Lib.hid (by have := HEN.out; omega)
    have HL2 : Hid (g.length ≤ 10000) := Lib.hid (by have := HN.out; omega)
    have HL3 : Hid (g.length ≤ 5000) := Lib.hid (by have := HN.out; omega)
    have HG3 := Lib.hid (HG.out.next HBW3.out)
    have hn2 : (g.length : Int) ≤ 100 := by have := HN.out; omega
    clear hsg hsm HG HSG
    have HCO := Lib.hid (order_any g c0 c1 c2 c3 c4 (.slice A g.length c) w3 HG3.out HL1.out HL2.out)
    have HEX := Lib.hid (ok_loops g)
    go_upto_region 4 with (first | ((with_reducible refine wl_sload 27 _ rfl ?hw2 w.heap.size 0 [c0, c1, c2, c3, c4, .slice A g.length c] _ rfl HR3.out Try.underlying27 rfl ?hi2 ?_); (case hw2 => first | exact wanted_none rfl | exact wanted_if rfl rfl rfl rfl); (case hi2 => kernel_rfl)) | (go_at_call 15; refine HCO.out.mono ?_; rintro e w4 ⟨vl, rfl, hown, hb⟩; have HVL := Lib.hid hown; have HB4 := Lib.hid hb; clear hown hb))
    have HR4 := Lib.hid (rangeAt_below HR3.out HB4.out HS3.out)
    have HBW4 := Lib.hid (HBW3.out.trans (HB4.out.mono HBW3.out.size))
    have HS4 := Lib.hid (Nat.lt_of_lt_of_le HS3.out HB4.out.size)
    have HC4 := Lib.hid ((HB4.out.cell (p := ⟨w.heap.size, 5, none⟩) HS3.out).trans HC3.out)
    have HG4 := Lib.hid (HG3.out.next HB4.out)
    clear HR3 HBW3 HS3 HC3 HG3
    clear HCO
    have HCO := Lib.hid (weights_any g c0 c1 c2 c3 c4 (.slice A g.length c) w4 HG4.out HL1.out HL2.out)
    go_upto_region 5 with (first | ((with_reducible refine wl_sload 27 _ rfl ?hw2 w.heap.size 0 [c0, c1, c2, c3, c4, .slice A g.length c] _ rfl HR4.out Try.underlying27 rfl ?hi2 ?_); (case hw2 => first | exact wanted_none rfl | exact wanted_if rfl rfl rfl rfl); (case hi2 => kernel_rfl)) | (go_at_call 16; refine HCO.out.mono ?_; rintro e w5 ⟨vw, rfl, hints, hb⟩; have HVW := Lib.hid hints; have HB5 := Lib.hid hb; clear hints hb))
    have HR5 := Lib.hid (rangeAt_below HR4.out HB5.out HS4.out)
    have HBW5 := Lib.hid (HBW4.out.trans (HB5.out.mono HBW4.out.size))
    have HS5 := Lib.hid (Nat.lt_of_lt_of_le HS4.out HB5.out.size)
    have HC5 := Lib.hid ((HB5.out.cell (p := ⟨w.heap.size, 5, none⟩) HS4.out).trans HC4.out)
    have HG5 := Lib.hid (HG4.out.next HB5.out)
    clear HR4 HBW4 HS4 HC4 HG4
    have HVL5 := Lib.hid (HVL.out.below HB5.out)
    clear HCO HVL HB4
    have HCO := Lib.hid (loops_any g c0 c1 c2 c3 c4 (.slice A g.length c) w5 HG5.out HL1.out HL2.out)
    cases hok : okOf g with
    | false =>
      have HNE : Hid (0 < (loopsOf g).length) := Lib.hid (by
        rcases Nat.eq_zero_or_pos (loopsOf g).length with h | h
        · have := (ok_loops g).2 (List.eq_nil_of_length_eq_zero h)
          rw [hok] at this; cases this
        · exact h)
      have HO0 : Hid (ordL g = []) := Lib.hid (by unfold ordL; rw [if_neg (by rw [hok]; simp)])
      have HW0 : Hid (weightsL g = []) := Lib.hid (by unfold weightsL; rw [if_neg (by rw [hok]; simp)])
      rw [HO0.out] at HVL5
      rw [HW0.out] at HVW
      obtain ⟨Al, cl, hvl⟩ := own_sl HVL5.out
      subst hvl
      obtain ⟨_, Aw, cw, hvw, _⟩ := HVW.out
      subst hvw
      clear hok
      have t6 : (((loopsOf g).length : Int) == 0) = false := by rw [beq_eq_false_iff_ne]; have := HNE.out; omega
      go_upto_region 7 with (first | ((with_reducible refine wl_sload 27 _ rfl ?hw2 w.heap.size 0 [c0, c1, c2, c3, c4, .slice A g.length c] _ rfl HR5.out Try.underlying27 rfl ?hi2 ?_); (case hw2 => first | exact wanted_none rfl | exact wanted_if rfl rfl rfl rfl); (case hi2 => kernel_rfl)) | (go_at_call 17; refine HCO.out.mono ?_; rintro e w6 ⟨v6, rfl, hown, hb⟩; obtain ⟨A6, c6, hv6⟩ := own_sl hown; subst hv6; have HB6 := Lib.hid hb; clear hown hb))
      have HBW6 := Lib.hid (HBW5.out.trans (HB6.out.mono HBW5.out.size))
      go_wp2
      go_ret
      exact ⟨rfl, HBW6.out⟩
    | true =>
      have HE0 : Hid (loopsOf g = []) := Lib.hid ((ok_loops g).1 hok)
      have HOL : Hid (ordL g = natsI (orderOf g.length (graphE g))) := Lib.hid (by unfold ordL; rw [if_pos hok])
      have HWL : Hid (weightsL g = weightsOf g.length (graphE g) (orderOf g.length (graphE g))) := Lib.hid (by unfold weightsL; rw [if_pos hok])
      have HIL : Hid ((orderOf g.length (graphE g)).length = g.length) := Lib.hid (by unfold okOf at hok; simpa using hok)
      have HTP := Lib.hid (order_topo (n := g.length) (E := graphE g) g.length (Topo.nil _ _))
      have HGE := Lib.hid (fun e he => graphE_lt (g := g) e he)
      rw [HE0.out] at HCO
      rw [HOL.out] at HVL5
      rw [HWL.out] at HVW
      obtain ⟨Al, cl, hvl⟩ := own_sl HVL5.out
      rw [natsI_len, HIL.out] at hvl
      subst hvl
      have HTP2 : Hid (Topo g.length (graphE g) (orderOf g.length (graphE g))) := Lib.hid HTP.out
      have HWI := Lib.hid (weights_in g.length (graphE g) (orderOf g.length (graphE g)))
      have HWN := Lib.hid (weights_len g.length (graphE g) (orderOf g.length (graphE g)))
      have HWS := Lib.hid (fun i hi => weights_sum HTP2.out HIL.out (fun e he => (HGE.out e he).2) (i := i) hi)
      have HAR := Lib.hid (fun i k he => at_rises HTP2.out HIL.out (fun e he => (HGE.out e he).2) (i := i) (k := k) he)
      have HOA := Lib.hid (own_nats HVL5.out (by rw [HIL.out]; exact HL2.out))
      clear hok HTP
      generalize weightsOf g.length (graphE g) (orderOf g.length (graphE g)) = W at *
      have HDL := Lib.hid HTP2.out.lt
      generalize orderOf g.length (graphE g) = D at *
      obtain ⟨hwl, Aw, cw, hvw, hAw⟩ := HVW.out.ints
      rw [HWN.out] at hvw
      subst hvw
      have HAW := Lib.hid hAw
      clear hwl hAw
      go_upto_region 7 with (first | ((with_reducible refine wl_sload 27 _ rfl ?hw2 w.heap.size 0 [c0, c1, c2, c3, c4, .slice A g.length c] _ rfl HR5.out Try.underlying27 rfl ?hi2 ?_); (case hw2 => first | exact wanted_none rfl | exact wanted_if rfl rfl rfl rfl); (case hi2 => kernel_rfl)) | (go_at_call 17; refine HCO.out.mono ?_; rintro e w6 ⟨v6, rfl, hown, hb⟩; obtain ⟨A6, c6, hv6⟩ := own_sl hown; subst hv6; have HB6 := Lib.hid hb; clear hown hb))
      have HR6 := Lib.hid (rangeAt_below HR5.out HB6.out HS5.out)
      have HBW6 := Lib.hid (HBW5.out.trans (HB6.out.mono HBW5.out.size))
      have HS6 := Lib.hid (Nat.lt_of_lt_of_le HS5.out HB6.out.size)
      have HC6 := Lib.hid ((HB6.out.cell (p := ⟨w.heap.size, 5, none⟩) HS5.out).trans HC5.out)
      have HG6 := Lib.hid (HG5.out.next HB6.out)
      have HOA6 := Lib.hid ((HOA.out.below HB6.out))
      have HAW6 : Hid (0 < W.length → ∃ b o, Aw = some ⟨b, o, none⟩ ∧ b < w6.heap.size ∧ ∀ (i : Nat) x, W[i]? = some x → w6.cell? ⟨b, o + i, none⟩ = some (.int .i64 x)) := Lib.hid fun h0 => by
        obtain ⟨b, o, h1, h2, h3⟩ := HAW.out h0
        exact ⟨b, o, h1, Nat.lt_of_lt_of_le h2 HB6.out.size, fun i x hx => (HB6.out.cell (p := ⟨b, o + i, none⟩) h2).trans (h3 i x hx)⟩
      have HSZ6 : Hid (w5.heap.size ≤ w6.heap.size) := Lib.hid HB6.out.size
      clear HR5 HBW5 HS5 HC5 HG5 HVL5 HVW HCO HOA HAW HB5 HB6
      obtain ⟨i0, hi, hz0, hz1, hz2⟩ := info_parts' info_int
      have HI0 := Lib.hid hi
      have HZ0 := Lib.hid hz0
      have HZ1 := Lib.hid hz1
      have HZ2 := Lib.hid hz2
      clear hi hz0 hz1 hz2
      have d5 := HC6.out
      go_upto_region 10 with ((with_reducible refine wl_make 34 3 _ _ rfl ?hw i0 (.int .i64 0) 8 g.length Try.underlying34 HI0.out HZ0.out HZ1.out HZ2.out (by decide) rfl ?hx ?hy HL2.out ?_); (case hw => first | exact wanted_none rfl | exact wanted_if rfl rfl rfl rfl); (case hx => rfl); (case hy => rfl); intro w7 hrow htag hb1 hs1; have HROW := Lib.hid hrow; have HB7 := Lib.hid hb1; have HS7 := Lib.hid hs1; clear hrow htag hb1 hs1)
      clear d5
      obtain ⟨lb, hlb⟩ : ∃ lb, w6.heap.size = lb := ⟨_, rfl⟩
      have HLB : Hid (w6.heap.size ≤ lb) := Lib.hid (by omega)
      have HLW : Hid (w.heap.size < lb) := Lib.hid (by have := HS6.out; omega)
      have HRL7 : Hid (RowL w7 lb (atK g.length D 0)) := Lib.hid (RowL.of (by rw [← hlb]; exact HROW.out) (atK_len _ _ 0) (fun i hi => by rw [atK_zero]; simp [List.getD_eq_getElem?_getD, hi]))
      rw [hlb] at HS7
      rw [hlb]
      clear HROW hlb
      obtain ⟨A6, c6, hv6, hA6⟩ := HOA6.out.ex
      injection hv6 with e1 e3 e2
      clear e3
      subst e1 e2
      have HAL := Lib.hid hA6
      clear hA6
      go_wp2
      go_loopg [59] g.length (fun q x u => ∃ j : Nat, j + q = g.length ∧ x = .int .i64 j ∧ RowL u lb (atK g.length D j) ∧ Below w6.heap.size w6 u ∧ lb < u.heap.size)
      case atStart => exact ⟨0, by omega, rfl, HRL7.out, HB7.out, HS7.out⟩
      case round =>
        obtain ⟨j, hj, rfl, hrow, hb, hsz⟩ := hrel
        have HROW := Lib.hid hrow
        have HB := Lib.hid hb
        have HSZ := Lib.hid hsz
        clear hrow hb hsz HRL7
        cases gk with
        | succ q =>
          have hlt : (j : Int) < (g.length : Int) := by omega
          obtain ⟨x, hx⟩ : ∃ x, D[j]? = some x := ⟨_, List.getElem?_eq_getElem (by have := HIL.out; omega)⟩
          obtain ⟨b, rfl, hbl, hc⟩ := HAL.out (by have := HIL.out; omega)
          have da := (HB.out.cell (p := ⟨b, j, none⟩) (Nat.lt_of_lt_of_le hbl HSZ6.out)).trans (hc j x hx)
          have hxn := HDL.out x (List.mem_of_getElem? hx)
          have hx2 : (x : Int) < (g.length : Int) := by omega
          have HXL : Hid (x < (atK g.length D j).length) := Lib.hid (by rw [atK_len]; exact hxn)
          have dl := HROW.out.at HXL.out
          have fl := HROW.out.fz x HXL.out
          have HR2 := Lib.hid (HROW.out.set HXL.out (j : Int))
          rw [show (atK g.length D j).set x (j : Int) = atK g.length D (j + 1) by rw [atK_succ, show D.getD j 0 = x by rw [List.getD_eq_getElem?_getD, hx]; rfl]] at HR2
          clear hc hx
          go_wp2
          go_roundg q
          case measure => omega
          case rel => exact ⟨j + 1, by omega, by go_num, HR2.out, below_put HB.out HLB.out _, by simpa [World.setCell] using HSZ.out⟩
        | zero =>
          obtain rfl : j = g.length := by omega
          have hge : ¬ ((g.length : Int) < (g.length : Int)) := by omega
          have HC8 := Lib.hid ((HB.out.cell (p := ⟨w.heap.size, 5, none⟩) HS6.out).trans HC6.out)
          have d5 := HC8.out
          obtain ⟨W8, rfl⟩ : ∃ W8, W8 = wr := ⟨_, rfl⟩
          go_wp2
          clear hge d5
          go_loopg [72] g.length (fun q x u => ∃ i : Nat, i + q = g.length ∧ x = .int .i64 i ∧ Below W8.heap.size W8 u)
          case atStart => exact ⟨0, by omega, rfl, Below.refl _ _⟩
          case round =>
            obtain ⟨i, hi, rfl, hb⟩ := hrel
            have HBI := Lib.hid hb
            clear hb
            have HB9 := Lib.hid (HB.out.trans (HBI.out.mono HB.out.size))
            have HC9 := Lib.hid ((HB9.out.cell (p := ⟨w.heap.size, 5, none⟩) HS6.out).trans HC6.out)
            cases gk with
            | zero =>
              obtain rfl : i = g.length := by omega
              have hge : ¬ ((g.length : Int) < (g.length : Int)) := by omega
              have d5 := HC9.out
              go_wp2
              go_ret
              exact ⟨rfl, HBW6.out.trans (HB9.out.mono HBW6.out.size)⟩
            | succ q =>
              have hlt : (i : Int) < (g.length : Int) := by omega
              have hin : i < g.length := by omega
              have HR9 := Lib.hid (rangeAt_below HR6.out HB9.out HS6.out)
              have HCE := Lib.hid (edges_any g c0 c1 c2 c3 c4 (.slice A g.length c) wr (HG6.out.next HB9.out) HL1.out)
              have HWSI := Lib.hid (HWS.out i hin)
              go_wp2_with (first | ((with_reducible refine wl_sload 27 _ rfl ?hw2 w.heap.size 0 [c0, c1, c2, c3, c4, .slice A g.length c] _ rfl HR9.out Try.underlying27 rfl ?hi2 ?_); (case hw2 => first | exact wanted_none rfl | exact wanted_if rfl rfl rfl rfl); (case hi2 => kernel_rfl)) | (go_at_call 18; fail))
              refine HCE.out.mono ?_
              rintro e w10 ⟨v10, rfl, hown, hb⟩
              obtain ⟨hel, EA, ec, rfl, hea⟩ := hown.at encE_len (by have := HEN.out; omega)
              have HEB := Lib.hid hea
              have HB10 := Lib.hid hb
              clear hown hb hel hea
              have HBJ := Lib.hid (HBI.out.trans (HB10.out.mono HBI.out.size))
              have HEF : Hid (∀ e, e ∈ edgesOf g → e.1 < g.length) := Lib.hid fun e he => edges_from he
              have HIN : Hid (∀ e, e ∈ edgesOf g → okE g.length e = true → (e.1, e.2.2.toNat) ∈ graphE g) := Lib.hid fun e he hok => List.mem_map.2 ⟨e, List.mem_filter.2 ⟨he, hok⟩, rfl⟩
              have HGO : Hid (graphE g = inE g.length (edgesOf g)) := Lib.hid rfl
              clear HCE HR9
              generalize edgesOf g = E at *
              have hle2 : (E.length : Int) ≤ 4100 := by have := HEN.out; omega
              go_wp2
              go_loopg [11, 78] E.length (fun q2 s x u => ∃ j : Nat, j + q2 = E.length ∧ x = .int .i64 j ∧ s = .int .i64 (sumK W g.length E i j) ∧ Below w10.heap.size w10 u)
              case atStart => exact ⟨0, by omega, rfl, rfl, Below.refl _ _⟩
              case round =>
                obtain ⟨j, hj, rfl, rfl, hb⟩ := hrel
                have HBK := Lib.hid hb
                clear hb
                have HB11 := Lib.hid (HBJ.out.trans (HBK.out.mono HBJ.out.size))
                have HB12 := Lib.hid (HB.out.trans (HB11.out.mono HB.out.size))
                cases gk with
                | zero =>
                  obtain rfl : j = E.length := by omega
                  have hge : ¬ ((E.length : Int) < (E.length : Int)) := by omega
                  obtain ⟨x, hx⟩ : ∃ x, W[i]? = some x := ⟨_, List.getElem?_eq_getElem (by rw [HWN.out]; exact hin)⟩
                  obtain ⟨b, o, rfl, hbl, hc⟩ := HAW6.out (by rw [HWN.out]; omega)
                  have dw := (HB12.out.cell (p := ⟨b, o + i, none⟩) hbl).trans (hc i x hx)
                  have hxx : sumK W g.length E i E.length = x := by
                    unfold sumK
                    rw [List.take_of_length_le (Nat.le_refl _), ← HGO.out, ← HWSI.out, List.getD_eq_getElem?_getD, hx]; rfl
                  rw [hxx]
                  clear hc hx hxx
                  go_wp2
                  go_roundg q
                  case measure => omega
                  case rel => exact ⟨i + 1, by omega, by go_num, HB11.out⟩
                | succ q2 =>
                  have hlt2 : (j : Int) < (E.length : Int) := by omega
                  obtain ⟨e, he⟩ : ∃ e, E[j]? = some e := ⟨_, List.getElem?_eq_getElem (by omega)⟩
                  obtain ⟨b, o, rfl, hbl, hc⟩ := HEB.out (by omega)
                  have HRE : Hid (wr.rangeAt b (o + j * 3) [.int .i64 e.1, .int .i64 e.2.1, .int .i64 e.2.2]) := Lib.hid (by
                    obtain ⟨ks, h1, h2, h3⟩ := hc j e he
                    have h3' : ks = encE e := h3
                    subst h3'
                    exact rangeAt_below h2 HBK.out hbl)
                  have HEM := Lib.hid (List.mem_of_getElem? he)
                  have HSN := Lib.hid (sumK_succ (W := W) (n := g.length) (i := i) he)
                  have HSR := Lib.hid (sumK_range HWI.out g.length E i j)
                  clear hc he
                  go_upto_region 22 with (first | ((with_reducible refine wl_sload 41 _ rfl ?hw b (o + j * 3) [.int .i64 e.1, .int .i64 e.2.1, .int .i64 e.2.2] _ rfl HRE.out Try.underlying41 rfl ?hi ?_); (case hw => first | exact wanted_none rfl | exact wanted_if rfl rfl rfl rfl); (case hi => kernel_rfl)) | ((with_reducible refine wl_sbox 41 _ _ rfl ?hw wr ?z (encE e) ?hwld ?hz ?hx ?hy ?hi ?h1 ?_); (case hwld => rfl); (case hx => rfl); (case hy => rfl); (case hw => first | exact wanted_none rfl | exact wanted_if rfl rfl rfl rfl); (case hz => rfl); (case hi => kernel_rfl); (case h1 => exact encE_one e); intro Z hbx; have HX := Lib.hid hbx; clear hbx))
                  have HBZ := Lib.hid (HBK.out.trans (HX.out.below.mono HBK.out.size))
                  have HBZ2 := Lib.hid (HB12.out.trans (HX.out.below.mono HB12.out.size))
                  have HBZ8 := Lib.hid (HB11.out.trans (HX.out.below.mono HB11.out.size))
                  obtain ⟨eb, heb⟩ : ∃ eb, wr.heap.size = eb := ⟨_, rfl⟩
                  have d0 : Z.cell? ⟨eb, 0, none⟩ = some (.int .i64 e.1) := heb ▸ HX.out.cell 0 rfl
                  have d2 : Z.cell? ⟨eb, 2, none⟩ = some (.int .i64 e.2.2) := heb ▸ HX.out.cell 2 rfl
                  have d5 := (HBZ2.out.cell (p := ⟨w.heap.size, 5, none⟩) HS6.out).trans HC6.out
                  rw [heb]
                  clear heb HX HRE
                  by_cases hf : e.1 = i
                  · have t1 : ((e.1 : Int) == (i : Int)) = true := by simp; omega
                    by_cases hneg : e.2.2 < 0
                    · have t3 : decide ((0 : Int) ≤ e.2.2) = false := by simp; omega
                      have HSK : Hid (sumK W g.length E i (j + 1) = sumK W g.length E i j) := Lib.hid (by rw [HSN.out, if_neg]; intro h; have := okE_iff.1 h.1; omega)
                      clear hneg hf
                      go_wp2
                      go_roundg q2
                      case measure => omega
                      case rel => exact ⟨j + 1, by omega, by go_num, by rw [HSK.out], HBZ.out⟩
                    · have t3 : decide ((0 : Int) ≤ e.2.2) = true := by simp; omega
                      by_cases hbig : (g.length : Int) ≤ e.2.2
                      · have t4 : decide (e.2.2 < (g.length : Int)) = false := by simp; omega
                        have HSK : Hid (sumK W g.length E i (j + 1) = sumK W g.length E i j) := Lib.hid (by rw [HSN.out, if_neg]; intro h; have := okE_iff.1 h.1; omega)
                        clear hneg hf hbig
                        go_wp2
                        go_roundg q2
                        case measure => omega
                        case rel => exact ⟨j + 1, by omega, by go_num, by rw [HSK.out], HBZ.out⟩
                      · obtain ⟨t, ht⟩ : ∃ t : Nat, e.2.2 = t := ⟨e.2.2.toNat, by omega⟩
                        have htn : t < g.length := by omega
                        have ht2 : (t : Int) < (g.length : Int) := by omega
                        have hok : okE g.length e = true := okE_iff.2 ⟨by omega, by omega⟩
                        have htt : e.2.2.toNat = t := by omega
                        have hedge := HIN.out e HEM.out hok
                        rw [htt, hf] at hedge
                        have hris := HAR.out i t hedge
                        have HSK : Hid (sumK W g.length E i (j + 1) = min (sumK W g.length E i j + W.getD t 0) 1000000000) := Lib.hid (by rw [HSN.out, if_pos ⟨hok, hf⟩, htt])
                        have hwt := inW_at HWI.out t
                        rw [ht] at d2 t3
                        have t4 : decide ((t : Int) < (g.length : Int)) = true := by simp; omega
                        have HTL : Hid (t < (atK g.length D g.length).length) := Lib.hid (by rw [atK_len]; exact htn)
                        have HIL2 : Hid (i < (atK g.length D g.length).length) := Lib.hid (by rw [atK_len]; exact hin)
                        have HRZ := Lib.hid (HROW.out.below (HBZ8.out.mono (Nat.le_refl _)) HSZ.out)
                        have dt := HRZ.out.at HTL.out
                        have di := HRZ.out.at HIL2.out
                        obtain ⟨bw, ow, rfl, hbw, hcw⟩ := HAW6.out (by rw [HWN.out]; omega)
                        have dw := (HBZ2.out.cell (p := ⟨bw, ow + t, none⟩) hbw).trans (hcw t (W.getD t 0) (by rw [List.getD_eq_getElem?_getD, List.getElem?_eq_getElem (by rw [HWN.out]; exact htn)]; rfl))
                        generalize (atK g.length D g.length).getD t 0 = at1 at *
                        generalize (atK g.length D g.length).getD i 0 = at2 at *
                        generalize W.getD t 0 = y at *
                        have hsr := HSR.out
                        generalize sumK W g.length E i j = s at *
                        have t6 : decide (at1 ≤ at2) = false := by simp; omega
                        have hs1 : 1 ≤ s := hsr.1
                        have hs2 : s ≤ 1000000000 := hsr.2
                        have hy1 : 0 ≤ y := hwt.1
                        have hy2 : y ≤ 1000000000 := hwt.2
                        have hwr : IntKind.i64.wrap (s + y) = s + y := by rw [IntKind.wrap_i64]; omega
                        clear hneg hf hbig htt hok hedge hcw ht hris hsr hwt HSN
                        go_upto_region 23 with (fail)
                        go_quiet (fail)
                        have HBN := Lib.hid (below_drewN HBZ.out nq)
                        clear d0 d5 dt di
                        go_wp2
                        go_roundg q2
                        case measure => omega
                        case rel => exact ⟨j + 1, by omega, by go_num, by rw [HSK.out], HBN.out⟩
                  · have t1 : ((e.1 : Int) == (i : Int)) = false := by simp; omega
                    have HSK : Hid (sumK W g.length E i (j + 1) = sumK W g.length E i j) := Lib.hid (by rw [HSN.out, if_neg (fun h => hf h.2)])
                    clear hf
                    go_wp2
                    go_roundg q2
                    case measure => omega
                    case rel => exact ⟨j + 1, by omega, by go_num, by rw [HSK.out], HBZ.out⟩

set_option maxRecDepth 100000 in
/-- the row's step, argument by argument -/
theorem regionFalls_lifted (os : Os) (started : os.Started) (H : Type) (enc : TypeId × Value → H) :
    ReturnsInHanded {} Try.checked os 4 .any (Rows.regionFallsSpec.pre6 enc Try.prog Try.f4 Rows.regionFallsRow.domain false) (Rows.regionFallsSpec.post enc Try.prog Try.f4 false true false false) := by
  refine returnsInHanded_of_change (C := Try.checked) own started (by kernel_rfl) Try.func4
    (ChangeSpec.witness6 (enc := enc) (C := Try.checked) false ⟨#[], #[.agg #[.int .i64 0, .slice none 0 0, .slice none 0 0, .slice none 0 0, .slice none 0 0, .slice none 0 0]], []⟩ 8 (by kernel_rfl) (by kernel_rfl) (by kernel_rfl) (by kernel_rfl)) ?_
  intro W base args ds gs before hval0 hW hcnd _
  have hval : ∀ (j : Nat) t v, Try.f4.params[j]? = some t → args[j]? = some v → Value.okWide Try.prog W .any base t v := hval0
  have hW' := hW
  obtain ⟨p, q, hA0, hV, rfl, hfz, hnd⟩ := hW
  have hA : DataW.TrodAll enc Try.prog W 0 (fun _ => true) true Try.f4.params.toList args.toList ds p := hA0
  rw [Try.params4] at hA hval
  obtain ⟨v0, vs0, d0, ds0, p0, q0, hargs, rfl, rfl, h0, r0⟩ := trodAll_cons hA
  obtain ⟨rfl, rfl, rfl⟩ := trodAll_nil r0
  obtain rfl : args = #[v0] := by cases args; simp_all
  obtain ⟨rfl, rfl⟩ := trodVars_none hV
  have k0 := h0
  have lt0 := lt_of_trod k0
  obtain ⟨cs0, m0, rfl, hm0⟩ := model_arg (hval 0 27 v0 rfl rfl) h0
  clear hA0 hval0
  refine (regionFalls_walk W cs0 m0 hm0).mono fun e W' ⟨he, bel⟩ => ?_
  subst he
  exact ⟨_, rfl, _, _, _, [], _, [], hW', trodAll_mk1 (shut_bool Try.underlying4 _), (trodAll_cons_mk (Below.trod laidOut (by kernel_rfl) (of_decide_eq_true (by kernel_rfl)) k0 bel lt0) trodAll_mk0), rfl, bel.frame _, fun h => by cases h⟩

theorem regionFalls_proved : Rows.RegionFallsSaid :=
  OpenClaim.holds_of_wide 4 Try.f4 rfl rfl rfl rfl rfl rfl rfl ⟨rfl, rfl, rfl, rfl, rfl⟩ rfl rfl rfl rfl rfl (by kernel_rfl) Try.func4 (by kernel_rfl)
    (of_decide_eq_true (by kernel_rfl)) (by unfold Func.isWrapper; first | (rw [if_pos (by decide +kernel)]; kernel_rfl) | (rw [if_neg (by decide +kernel)]; exact ⟨rfl, rfl⟩))
    (fun os started H enc _ => regionFalls_lifted os started H enc)
#print axioms regionFalls_proved

end Go.Proofs.Ytedajbpjokmlaaa
