/- THE STATEMENT ModelReach is proved: for every model and every node the Go function ModelReach returns true, and its arguments read afterwards as before; without conditions. -/
import Derived.Test.YtedajbpjokmlaaaAwake12
import Derived.Test.YtedajbpjokmlaaaReachP
import Derived.Test.YtedajbpjokmlaaaOpen
namespace Go.Proofs.Ytedajbpjokmlaaa
open Go.ChangeShapes Go.WideShapes Go.ChangeAt Go.RowKit Go
set_option linter.unusedVariables false

set_option maxHeartbeats 8000000 in
set_option maxRecDepth 100000 in
theorem modelReach_walk (w : World) (cs : List Value) (m : ModelT) (hv : ModelAt w w.heap.size cs m) (a : Int) (_wa : (Lit.int .i64 a).wf = true) :
    Calls Try.prog 8 #[.agg ⟨cs⟩, .int .i64 a] w fun e w' => e = .returned (.bool true) ∧ Below w.heap.size w w' := by
  have HM := Lib.hid hv
  obtain ⟨c1, c2, c3, c4, v5, rfl, hg⟩ := hv.graph
  have hgg : GraphAt w w.heap.size v5 (gOf m) := hg
  have HSG := Lib.hid (fun (h : SmallM m) => small_g h)
  generalize gOf m = g at *
  obtain ⟨c0, hc0⟩ : ∃ c0, c0 = Value.int .i64 m.labels := ⟨_, rfl⟩
  rw [← hc0] at HM
  rw [← hc0]
  clear hg hc0
  have HG := Lib.hid hgg
  obtain ⟨hgl, A, c, rfl, hA⟩ := hgg
  clear hA hgl
  go_enter Try.func8, Try.ntmps8
  go_upto_region 1 with (fail)
  have HB1 := Lib.hid (box_below w (.cells ⟨[c0, c1, c2, c3, c4, .slice A g.length c]⟩ 27))
  have HS1 := Lib.hid (box_size w (.cells ⟨[c0, c1, c2, c3, c4, .slice A g.length c]⟩ 27))
  have HC1 := Lib.hid (cells_box w [c0, c1, c2, c3, c4, .slice A g.length c] 27 5 _ rfl)
  have HR1 := Lib.hid (range_box w [c0, c1, c2, c3, c4, .slice A g.length c] 27)
  generalize w.alloc (.cells ⟨[c0, c1, c2, c3, c4, .slice A g.length c]⟩ 27) = W1 at *
  go_wp2_with (go_at_call 26; fail)
  refine (awake12 _).mono ?_
  rintro e w2 ⟨rfl, hb2⟩
  have HR2 := Lib.hid (rangeAt_below HR1.out hb2 HS1.out)
  have HBW2 := Lib.hid (HB1.out.trans (hb2.mono HB1.out.size))
  have HS2 := Lib.hid (Nat.lt_of_lt_of_le HS1.out hb2.size)
  have HC2 := Lib.hid ((hb2.cell (p := ⟨w.heap.size, 5, none⟩) HS1.out).trans HC1.out)
  clear HR1 HB1 HS1 HC1 hb2
  go_wp2_with (first | ((with_reducible refine wl_sload 27 _ rfl ?hw2 w.heap.size 0 [c0, c1, c2, c3, c4, .slice A g.length c] _ rfl HR2.out Try.underlying27 rfl ?hi2 ?_); (case hw2 => first | exact wanted_none rfl | exact wanted_if rfl rfl rfl rfl); (case hi2 => kernel_rfl)) | (go_at_call 11; fail))
  refine (msmall m _ w2 (HM.out.next HBW2.out)).mono ?_
  rintro e w3 ⟨b, rfl, hb3, hsm⟩
  have HR3 := Lib.hid (rangeAt_below HR2.out hb3 HS2.out)
  have HBW3 := Lib.hid (HBW2.out.trans (hb3.mono HBW2.out.size))
  have HS3 := Lib.hid (Nat.lt_of_lt_of_le HS2.out hb3.size)
  have HC3 := Lib.hid ((hb3.cell (p := ⟨w.heap.size, 5, none⟩) HS2.out).trans HC2.out)
  clear HR2 HBW2 HS2 HC2 hb3
  cases b with
  | false =>
    clear hsm
    go_wp2_with (go_at_call 26; fail)
    refine (awake12 _).mono ?_
    rintro e w4 ⟨rfl, hb4⟩
    have HBW4 := Lib.hid (HBW3.out.trans (hb4.mono HBW3.out.size))
    clear hb4
    go_wp2
    go_ret
    exact ⟨rfl, HBW4.out⟩
  | true =>
    have d5 := HC3.out
    have hsg := HSG.out (hsm rfl)
    have HN : Hid (g.length ≤ 100) := Lib.hid hsg.1
    have HEN : Hid ((edgesOf g).length ≤ 4100) := Lib.hid hsg.2
    have HL1 : Hid ((edgesOf g).length ≤ 10000) := Lib.hid (by have := HEN.out; omega)
    have HL2 : Hid (g.length ≤ 10000) := Lib.hid (by have := HN.out; omega)
    have HL3 : Hid (g.length ≤ 5000) := Lib.hid (by have := HN.out; omega)
    have HG3 := Lib.hid (HG.out.next HBW3.out)
    have hn2 : (g.length : Int) ≤ 100 := by have := HN.out; omega
    clear hsg hsm HG HSG
    by_cases hn0 : g.length = 0
    · have t0 : ((g.length : Int) == 0) = true := by rw [hn0]; rfl
      clear hn0
      go_wp2_with (go_at_call 26; fail)
      refine (awake12 _).mono ?_
      rintro e w4 ⟨rfl, hb4⟩
      have HBW4 := Lib.hid (HBW3.out.trans (hb4.mono HBW3.out.size))
      clear hb4
      go_wp2
      go_ret
      exact ⟨rfl, HBW4.out⟩
    · have t0 : ((g.length : Int) == 0) = false := by rw [beq_eq_false_iff_ne]; omega
      have hn1 : (g.length : Int) ≠ 0 := by omega
      obtain ⟨r, hr, hrn⟩ := root_mod a hn0 HN.out
      go_upto_region 4 with (fail)
      rw [hr]
      clear t0 hn0 hr
      have hr2 : (r : Int) < (g.length : Int) := by omega
      obtain ⟨ib, hi, hz0, hz1, hz2⟩ := info_parts' info_bool
      have HIB := Lib.hid hi
      have HZ0 := Lib.hid hz0
      have HZ1 := Lib.hid hz1
      have HZ2 := Lib.hid hz2
      clear hi hz0 hz1 hz2
      go_upto_region 5 with ((with_reducible refine wl_make 44 4 _ _ rfl ?hw ib (.bool false) 1 g.length Try.underlying44 HIB.out HZ0.out HZ1.out HZ2.out (by decide) rfl ?hx ?hy HL2.out ?_); (case hw => first | exact wanted_none rfl | exact wanted_if rfl rfl rfl rfl); (case hx => rfl); (case hy => rfl); intro w4 hrow htag hb1 hs1; have HROW := Lib.hid hrow; have HB4 := Lib.hid hb1; have HSM := Lib.hid hs1; clear hrow htag hb1 hs1)
      clear d5
      have HR4 := Lib.hid (rangeAt_below HR3.out HB4.out HS3.out)
      have HG4 := Lib.hid (HG3.out.next HB4.out)
      obtain ⟨rb, hrb⟩ : ∃ rb, w3.heap.size = rb := ⟨_, rfl⟩
      have HGR : Hid (GraphAt w3 rb (.slice A g.length c) g) := Lib.hid (hrb ▸ HG3.out)
      have HRB : Hid (w.heap.size < rb) := Lib.hid (hrb ▸ HS3.out)
      have HB34 : Hid (Below rb w3 w4) := Lib.hid (hrb ▸ HB4.out)
      have HBW34 : Hid (Below w.heap.size w w3) := Lib.hid HBW3.out
      rw [hrb] at HROW HSM
      rw [hrb]
      have HSB : Hid (rb < w4.heap.size) := Lib.hid (by have := HSM.out; omega)
      have HS0 : Hid (rb ≤ w3.heap.size) := Lib.hid (Nat.le_of_eq hrb.symm)
      clear hrb HSM
      have HCO := Lib.hid (reach_any g (r : Int) c0 c1 c2 c3 c4 (.slice A g.length c) w4 HG4.out HL1.out HL2.out)
      go_upto_region 6 with (first | ((with_reducible refine wl_sload 27 _ rfl ?hw2 w.heap.size 0 [c0, c1, c2, c3, c4, .slice A g.length c] _ rfl HR4.out Try.underlying27 rfl ?hi2 ?_); (case hw2 => first | exact wanted_none rfl | exact wanted_if rfl rfl rfl rfl); (case hi2 => kernel_rfl)) | (go_at_call 19; refine HCO.out.mono ?_; rintro e w5 ⟨v5, rfl, hown, hb⟩; obtain ⟨AR, cR, hvR⟩ := own_sl hown; subst hvR; have HOW := Lib.hid hown; have HB5 := Lib.hid hb; clear hown hb))
      clear HCO
      have hrl := reachL_len g (r : Int)
      have HOR : Hid (0 < (reachL g (r : Int)).length → ∃ b o, AR = some ⟨b, o, none⟩ ∧ (b < w5.heap.size ∧ b ≠ rb) ∧ ∀ (j : Nat) x, (reachL g (r : Int))[j]? = some x → w5.cell? ⟨b, o + j, none⟩ = some (.int .i64 x)) := Lib.hid fun h0 => by
        obtain ⟨_, A', c', h1, h2⟩ := (HOW.out.ints (by have := HN.out; omega)).ints
        injection h1 with h1 _ _
        subst h1
        obtain ⟨b, o, h3, h4, h5⟩ := h2 h0
        subst h3
        have := HOW.out.block (b := b) rfl
        have := HSB.out
        exact ⟨b, o, rfl, ⟨h4, by omega⟩, h5⟩
      have HROW5 : Hid (RowF w5 rb g.length (boolsF (hasK (reachL g (r : Int)) 0))) := Lib.hid ((HROW.out.below HB5.out HSB.out).congr fun j hj => rfl)
      have HSB5 : Hid (rb < w5.heap.size) := Lib.hid (Nat.lt_of_lt_of_le HSB.out HB5.out.size)
      have HB35 : Hid (Below rb w3 w5) := Lib.hid (HB34.out.trans (HB5.out.mono (Nat.le_of_lt HSB.out)))
      have HRA := Lib.hid (fun k x h => reachL_mem (g := g) (r := r) (k := k) (x := x) hrn h)
      have HKE := Lib.hid (fun j hj => hasR_end (g := g) (r := r) (j := j) hrn hj)
      have HED := Lib.hid (fun e y (he : e ∈ edgesOf g) hy hyn h => reachM_edge (g := g) (r := r) (e := e) (y := y) he hy hyn h)
      have HTR := Lib.hid (fun x y h1 h2 => reachM_trans (g := g) (r := r) (x := x) (y := y) h1 h2)
      have HRX := Lib.hid (fun x hx k y h => reachL_mem (g := g) (r := x) (k := k) (x := y) hx h)
      have HRN : Hid (∀ a, (reachL g a).length ≤ 100) := Lib.hid (fun a => Nat.le_trans (reachL_len g a) HN.out)
      generalize hRL : reachL g (r : Int) = RL at *
      have hrl2 : (RL.length : Int) ≤ 100 := by have := HN.out; omega
      clear hRL HROW HOW HR4 HG4 HB4 HB5 HB34 hrl HSB
      go_wp2
      go_loopg [46] RL.length (fun q x u => ∃ k : Nat, k + q = RL.length ∧ x = .int .i64 k ∧ RowF u rb g.length (boolsF (hasK RL k)) ∧ But w5 u rb rb)
      case atStart => exact ⟨0, by omega, rfl, HROW5.out, But.refl _ _ _⟩
      case round =>
        obtain ⟨k, hk, rfl, hrow, hbut⟩ := hrel
        clear HROW5
        have HROW := Lib.hid hrow
        have HBU := Lib.hid hbut
        clear hrow hbut
        cases gk with
        | succ q2 =>
          have hlt3 : (k : Int) < (RL.length : Int) := by omega
          obtain ⟨y, hy⟩ : ∃ y, RL[k]? = some y := ⟨_, List.getElem?_eq_getElem (by omega)⟩
          obtain ⟨y, rfl, hyn, _⟩ := HRA.out k y hy
          obtain ⟨b3, o3, rfl, ⟨hb3, hb4⟩, hc3⟩ := HOR.out (by omega)
          have dy := (HBU.out.cell (o := o3 + k) hb3 hb4 hb4).trans (hc3 k y hy)
          have hyn2 : (y : Int) < (g.length : Int) := by omega
          have dr := HROW.out.c y hyn
          have fr := HROW.out.fz y hyn
          unfold boolsF at dr
          have HR2 : Hid (RowF (wr.setCell ⟨rb, y, none⟩ (.bool true)) rb g.length (boolsF (hasK RL (k + 1)))) := Lib.hid (HROW.out.setB hyn fun j hj => hasK_succ hy j)
          have HB2 : Hid (But w5 (wr.setCell ⟨rb, y, none⟩ (.bool true)) rb rb) := Lib.hid (HBU.out.trans (But.set1 _ _ _ _ _))
          clear hc3 hy
          go_wp2
          go_roundg q2
          case measure => omega
          case rel => exact ⟨k + 1, by omega, by go_num, HR2.out, HB2.out⟩
        | zero =>
          obtain rfl : k = RL.length := by omega
          have hge : ¬ ((RL.length : Int) < (RL.length : Int)) := by omega
          have HRF : Hid (∀ j, j < g.length → wr.cell? ⟨rb, j, none⟩ = some (.bool (reachM g r j))) := Lib.hid fun j hj => by rw [HROW.out.c j hj]; unfold boolsF; rw [HKE.out j hj]
          have HOR6 : Hid (0 < RL.length → ∃ b o, AR = some ⟨b, o, none⟩ ∧ b < wr.heap.size ∧ ∀ (j : Nat) x, RL[j]? = some x → wr.cell? ⟨b, o + j, none⟩ = some (.int .i64 x)) := Lib.hid fun h0 => by
            obtain ⟨b, o, h1, ⟨h2, h3⟩, h4⟩ := HOR.out h0
            exact ⟨b, o, h1, Nat.lt_of_lt_of_le h2 HBU.out.size, fun j x hx => (HBU.out.cell (o := o + j) h2 h3 h3).trans (h4 j x hx)⟩
          have HB6 := Lib.hid (HB35.out.trans (HBU.out.below (Nat.le_of_lt HSB5.out) (Nat.le_refl _) (Nat.le_refl _)))
          have HSB6 : Hid (rb < wr.heap.size) := Lib.hid (Nat.lt_of_lt_of_le HSB5.out HBU.out.size)
          have HR6 := Lib.hid (rangeAt_below HR3.out HB6.out HRB.out)
          have HC6 := Lib.hid ((HB6.out.cell (p := ⟨w.heap.size, 5, none⟩) HRB.out).trans HC3.out)
          have HG6 : Hid (GraphAt wr wr.heap.size (.slice A g.length c) g) := Lib.hid ((HGR.out.under HB6.out).more (Nat.le_of_lt HSB6.out))
          have HBW6 := Lib.hid (HBW34.out.trans (HB6.out.mono (Nat.le_of_lt HRB.out)))
          have HS6 : Hid (w.heap.size < wr.heap.size) := Lib.hid (Nat.lt_trans HRB.out HSB6.out)
          clear HROW HBU HKE HOR HB35 HSB5 HB6 HR3 HC3 HG3 HGR HBW3 HBW34 HS3 HS0
          generalize reachM g r = M at *
          have HCE := Lib.hid (edges_any g c0 c1 c2 c3 c4 (.slice A g.length c) wr HG6.out HL1.out)
          go_upto_region 12 with (first | ((with_reducible refine wl_sload 27 _ rfl ?hw2 w.heap.size 0 [c0, c1, c2, c3, c4, .slice A g.length c] _ rfl HR6.out Try.underlying27 rfl ?hi2 ?_); (case hw2 => first | exact wanted_none rfl | exact wanted_if rfl rfl rfl rfl); (case hi2 => kernel_rfl)) | (go_at_call 18; refine HCE.out.mono ?_; rintro e w7 ⟨v7, rfl, hown, hb⟩; obtain ⟨hel, EA, ec, hvE, hea⟩ := hown.at encE_len (by have := HL1.out; omega); subst hvE; have HEB := Lib.hid hea; have HB7 := Lib.hid hb; clear hown hb hel hea))
          clear HCE
          have HRX2 := Lib.hid (fun x (hx : x < g.length) j (hj : j < g.length) => hj)
          have HR7 := Lib.hid (rangeAt_below HR6.out HB7.out HS6.out)
          have HC7 := Lib.hid ((HB7.out.cell (p := ⟨w.heap.size, 5, none⟩) HS6.out).trans HC6.out)
          have HG7 := Lib.hid (HG6.out.next HB7.out)
          have HBW7 := Lib.hid (HBW6.out.trans (HB7.out.mono (Nat.le_of_lt HS6.out)))
          have HS7 : Hid (w.heap.size < w7.heap.size ∧ rb < w7.heap.size) := Lib.hid ⟨Nat.lt_of_lt_of_le HS6.out HB7.out.size, Nat.lt_of_lt_of_le HSB6.out HB7.out.size⟩
          have HRF7 : Hid (∀ j, j < g.length → w7.cell? ⟨rb, j, none⟩ = some (.bool (M j))) := Lib.hid fun j hj => (HB7.out.cell (p := ⟨rb, j, none⟩) HSB6.out).trans (HRF.out j hj)
          have HOR7 : Hid (0 < RL.length → ∃ b o, AR = some ⟨b, o, none⟩ ∧ b < w7.heap.size ∧ ∀ (j : Nat) x, RL[j]? = some x → w7.cell? ⟨b, o + j, none⟩ = some (.int .i64 x)) := Lib.hid fun h0 => by
            obtain ⟨b, o, h1, h2, h3⟩ := HOR6.out h0
            exact ⟨b, o, h1, Nat.lt_of_lt_of_le h2 HB7.out.size, fun j x hx => (HB7.out.cell (p := ⟨b, o + j, none⟩) h2).trans (h3 j x hx)⟩
          clear HRF HOR6 HSB6 HR6 HC6 HG6 HBW6 HS6 HB7 HRX2
          have HFE := Lib.hid (fun e (he : e ∈ edgesOf g) => edges_from he)
          have hle2 : ((edgesOf g).length : Int) ≤ 10000 := by have := HL1.out; omega
          have HRY := Lib.hid (fun (y : Int) z (hz : GraphAt z z.heap.size (.slice A g.length c) g) => reach_any g y c0 c1 c2 c3 c4 (.slice A g.length c) z hz HL1.out HL2.out)
          generalize edgesOf g = E at *
          obtain ⟨W0, rfl⟩ : ∃ W0, W0 = wr := ⟨_, rfl⟩
          clear hge
          go_wp2
          go_loopg [57] E.length (fun q x u => ∃ j : Nat, j + q = E.length ∧ x = .int .i64 j ∧ Below w7.heap.size w7 u)
          case atStart => exact ⟨0, by omega, rfl, Below.refl _ _⟩
          case round =>
            obtain ⟨j, hj, rfl, hb⟩ := hrel
            have HBK := Lib.hid hb
            clear hb
            cases gk with
            | succ q =>
              have hlt2 : (j : Int) < (E.length : Int) := by omega
              obtain ⟨e, he⟩ : ∃ e, E[j]? = some e := ⟨_, List.getElem?_eq_getElem (by omega)⟩
              obtain ⟨b, o, rfl, hbl, hc⟩ := HEB.out (by omega)
              have HRE : Hid (wr.rangeAt b (o + j * 3) [.int .i64 e.1, .int .i64 e.2.1, .int .i64 e.2.2]) := Lib.hid (by
                obtain ⟨ks, h1, h2, h3⟩ := hc j e he
                have h3' : ks = encE e := h3
                subst h3'
                exact rangeAt_below h2 HBK.out hbl)
              have hem := List.mem_of_getElem? he
              have hen := HFE.out e hem
              have HEK := Lib.hid (fun y hy hyn h => HED.out e y hem hy hyn h)
              clear hc he hem
              go_upto_region 14 with (first | ((with_reducible refine wl_sload 41 _ rfl ?hw b (o + j * 3) [.int .i64 e.1, .int .i64 e.2.1, .int .i64 e.2.2] _ rfl HRE.out Try.underlying41 rfl ?hi ?_); (case hw => first | exact wanted_none rfl | exact wanted_if rfl rfl rfl rfl); (case hi => kernel_rfl)) | ((with_reducible refine wl_sbox 41 _ _ rfl ?hw wr ?z (encE e) ?hwld ?hz ?hx ?hy ?hi ?h1 ?_); (case hwld => rfl); (case hx => rfl); (case hy => rfl); (case hw => first | exact wanted_none rfl | exact wanted_if rfl rfl rfl rfl); (case hz => rfl); (case hi => kernel_rfl); (case h1 => exact encE_one e); intro Z hbx; have HX := Lib.hid hbx; clear hbx))
              have HBZ := Lib.hid (HBK.out.trans (HX.out.below.mono HBK.out.size))
              have d0 : Z.cell? ⟨wr.heap.size, 0, none⟩ = some (.int .i64 e.1) := HX.out.cell 0 rfl
              have d2 : Z.cell? ⟨wr.heap.size, 2, none⟩ = some (.int .i64 e.2.2) := HX.out.cell 2 rfl
              have dn := (HBZ.out.cell (p := ⟨w.heap.size, 5, none⟩) HS7.out.1).trans HC7.out
              have df := (HBZ.out.cell (p := ⟨rb, e.1, none⟩) HS7.out.2).trans (HRF7.out e.1 hen)
              obtain ⟨eb, heb⟩ : ∃ eb, wr.heap.size = eb := ⟨_, rfl⟩
              rw [heb] at d0 d2
              rw [heb]
              clear heb HX HRE
              have hen2 : (e.1 : Int) < (g.length : Int) := by omega
              by_cases h0 : 0 ≤ e.2.2
              · by_cases h1 : e.2.2 < g.length
                · obtain ⟨y, hy⟩ : ∃ y : Nat, e.2.2 = y := ⟨e.2.2.toNat, by omega⟩
                  have hyn : y < g.length := by omega
                  have hyn2 : (y : Int) < (g.length : Int) := by omega
                  have hy0 : (0 : Int) ≤ (y : Int) := by omega
                  have dt := (HBZ.out.cell (p := ⟨rb, y, none⟩) HS7.out.2).trans (HRF7.out y hyn)
                  rw [hy] at d2
                  have HK := Lib.hid (HEK.out y hy hyn)
                  clear hy h0 h1 HEK
                  by_cases hfr : e.1 = r
                  · have hM := HK.out (.inl hfr)
                    have t1 : ((e.1 : Int) == (r : Int)) = true := by rw [hfr]; exact beq_self_eq_true _
                    rw [hM] at dt
                    clear hfr
                    go_wp2
                    go_roundg q
                    case measure => omega
                    case rel => exact ⟨j + 1, by omega, by go_num, HBZ.out⟩
                  · have t1 : ((e.1 : Int) == (r : Int)) = false := by rw [beq_eq_false_iff_ne]; omega
                    clear hfr
                    cases hm : M e.1 with
                    | false =>
                      rw [hm] at df
                      go_wp2
                      go_roundg q
                      case measure => omega
                      case rel => exact ⟨j + 1, by omega, by go_num, HBZ.out⟩
                    | true =>
                      have hM := HK.out (.inr hm)
                      rw [hm] at df
                      rw [hM] at dt
                      go_wp2
                      go_roundg q
                      case measure => omega
                      case rel => exact ⟨j + 1, by omega, by go_num, HBZ.out⟩
                · have h1' : (g.length : Int) ≤ e.2.2 := by omega
                  have t1 : decide (0 ≤ e.2.2) = true := decide_eq_true h0
                  have t2 : decide (e.2.2 < (g.length : Int)) = false := decide_eq_false h1
                  clear h0 h1
                  go_wp2
                  go_roundg q
                  case measure => omega
                  case rel => exact ⟨j + 1, by omega, by go_num, HBZ.out⟩
              · have t1 : decide (0 ≤ e.2.2) = false := decide_eq_false h0
                have h0' : e.2.2 < 0 := by omega
                clear h0
                go_wp2
                go_roundg q
                case measure => omega
                case rel => exact ⟨j + 1, by omega, by go_num, HBZ.out⟩
            | zero =>
              have hge : ¬ ((j : Int) < (E.length : Int)) := by omega
              have HR8 := Lib.hid (rangeAt_below HR7.out HBK.out HS7.out.1)
              have HG8 := Lib.hid (HG7.out.next HBK.out)
              have HBW8 := Lib.hid (HBW7.out.trans (HBK.out.mono (Nat.le_of_lt HS7.out.1)))
              have HS8 : Hid (w.heap.size < wr.heap.size ∧ rb < wr.heap.size) := Lib.hid ⟨Nat.lt_of_lt_of_le HS7.out.1 HBK.out.size, Nat.lt_of_lt_of_le HS7.out.2 HBK.out.size⟩
              have HRF8 : Hid (∀ j, j < g.length → wr.cell? ⟨rb, j, none⟩ = some (.bool (M j))) := Lib.hid fun j hj => (HBK.out.cell (p := ⟨rb, j, none⟩) HS7.out.2).trans (HRF7.out j hj)
              have HOR8 : Hid (0 < RL.length → ∃ b o, AR = some ⟨b, o, none⟩ ∧ b < wr.heap.size ∧ ∀ (j : Nat) x, RL[j]? = some x → wr.cell? ⟨b, o + j, none⟩ = some (.int .i64 x)) := Lib.hid fun h0 => by
                obtain ⟨b, o, h1, h2, h3⟩ := HOR7.out h0
                exact ⟨b, o, h1, Nat.lt_of_lt_of_le h2 HBK.out.size, fun j x hx => (HBK.out.cell (p := ⟨b, o + j, none⟩) h2).trans (h3 j x hx)⟩
              clear HR7 HC7 HG7 HBW7 HS7 HRF7 HOR7 HBK HEB HFE HED
              obtain ⟨W8, rfl⟩ : ∃ W8, W8 = wr := ⟨_, rfl⟩
              go_wp2
              clear hge
              go_loopg [96] RL.length (fun q x u => ∃ k : Nat, k + q = RL.length ∧ x = .int .i64 k ∧ Below W8.heap.size W8 u)
              case atStart => exact ⟨0, by omega, rfl, Below.refl _ _⟩
              case round =>
                obtain ⟨k, hk, rfl, hb⟩ := hrel
                have HBK := Lib.hid hb
                clear hb
                cases gk with
                | zero =>
                  have hge : ¬ ((k : Int) < (RL.length : Int)) := by omega
                  go_wp2
                  go_ret
                  exact ⟨rfl, HBW8.out.trans (HBK.out.mono (Nat.le_of_lt HS8.out.1))⟩
                | succ q =>
                  have hlt3 : (k : Int) < (RL.length : Int) := by omega
                  obtain ⟨y, hy⟩ : ∃ y, RL[k]? = some y := ⟨_, List.getElem?_eq_getElem (by omega)⟩
                  obtain ⟨y, rfl, hyn, hmy⟩ := HRA.out k y hy
                  obtain ⟨b3, o3, rfl, hb3, hc3⟩ := HOR8.out (by omega)
                  have dy := (HBK.out.cell (p := ⟨b3, o3 + k, none⟩) hb3).trans (hc3 k y hy)
                  have HR9 := Lib.hid (rangeAt_below HR8.out HBK.out HS8.out.1)
                  have HCY := Lib.hid (HRY.out (y : Int) wr (HG8.out.next HBK.out))
                  clear hc3 hy
                  go_upto_region 21 with (first | ((with_reducible refine wl_sload 27 _ rfl ?hw2 w.heap.size 0 [c0, c1, c2, c3, c4, .slice A g.length c] _ rfl HR9.out Try.underlying27 rfl ?hi2 ?_); (case hw2 => first | exact wanted_none rfl | exact wanted_if rfl rfl rfl rfl); (case hi2 => kernel_rfl)) | (go_at_call 19; refine HCY.out.mono ?_; rintro e w9 ⟨v9, rfl, hown, hb9⟩; obtain ⟨A9, c9, hv9⟩ := own_sl hown; subst hv9; have HOY := Lib.hid hown; have HB9 := Lib.hid hb9; clear hown hb9))
                  clear HCY HR9 dy
                  have HBU := Lib.hid (HBK.out.trans (HB9.out.mono HBK.out.size))
                  have HOA : Hid (0 < (reachL g (y : Int)).length → ∃ b o, A9 = some ⟨b, o, none⟩ ∧ b < w9.heap.size ∧ ∀ (j : Nat) x, (reachL g (y : Int))[j]? = some x → w9.cell? ⟨b, o + j, none⟩ = some (.int .i64 x)) := Lib.hid fun h0 => by
                    obtain ⟨_, A', c', h1, h2⟩ := (HOY.out.ints (by have := HRN.out (y : Int); omega)).ints
                    injection h1 with h1 _ _
                    subst h1
                    exact h2 h0
                  have HYX := Lib.hid (fun k x h => HRX.out y hyn k x h)
                  have hln : ((reachL g (y : Int)).length : Int) ≤ 100 := by have := HRN.out (y : Int); omega
                  generalize reachL g (y : Int) = L at *
                  clear HBK HB9 HOY
                  go_wp2
                  go_loopg [104] L.length (fun q2 x u => ∃ m : Nat, m + q2 = L.length ∧ x = .int .i64 m ∧ u = w9)
                  case atStart => exact ⟨0, by omega, rfl, rfl⟩
                  case round =>
                    obtain ⟨m, hm, rfl, rfl⟩ := hrel
                    cases gk with
                    | zero =>
                      have hge : ¬ ((m : Int) < (L.length : Int)) := by omega
                      go_wp2
                      go_roundg q
                      case measure => omega
                      case rel => exact ⟨k + 1, by omega, by go_num, HBU.out⟩
                    | succ q2 =>
                      have hlt4 : (m : Int) < (L.length : Int) := by omega
                      obtain ⟨z, hz⟩ : ∃ z, L[m]? = some z := ⟨_, List.getElem?_eq_getElem (by omega)⟩
                      obtain ⟨z, rfl, hzn, hmz⟩ := HYX.out m z hz
                      obtain ⟨b4, o4, rfl, hb4, hc4⟩ := HOA.out (by omega)
                      have dz := hc4 m z hz
                      have hzn2 : (z : Int) < (g.length : Int) := by omega
                      have hz0 : (0 : Int) ≤ (z : Int) := by omega
                      have dr := (HBU.out.cell (p := ⟨rb, z, none⟩) HS8.out.2).trans (HRF8.out z hzn)
                      rw [HTR.out y z hmy hmz] at dr
                      clear hc4 hz
                      go_wp2
                      go_roundg q2
                      case measure => omega
                      case rel => exact ⟨m + 1, by omega, by go_num, rfl⟩

set_option maxRecDepth 100000 in
/-- the row's step, argument by argument -/
theorem modelReach_lifted (os : Os) (started : os.Started) (H : Type) (enc : TypeId × Value → H) :
    ReturnsInHanded {} Try.checked os 8 .any (Rows.modelReachSpec.pre6 enc Try.prog Try.f8 Rows.modelReachRow.domain false) (Rows.modelReachSpec.post enc Try.prog Try.f8 false true false false) := by
  refine returnsInHanded_of_change (C := Try.checked) own started (by kernel_rfl) Try.func8
    (ChangeSpec.witness6 (enc := enc) (C := Try.checked) false ⟨#[], #[.agg #[.int .i64 0, .slice none 0 0, .slice none 0 0, .slice none 0 0, .slice none 0 0, .slice none 0 0], .int .i64 0], []⟩ 8 (by kernel_rfl) (by kernel_rfl) (by kernel_rfl) (by kernel_rfl)) ?_
  intro W base args ds gs before hval0 hW hcnd _
  have hval : ∀ (j : Nat) t v, Try.f8.params[j]? = some t → args[j]? = some v → Value.okWide Try.prog W .any base t v := hval0
  have hW' := hW
  obtain ⟨p, q, hA0, hV, rfl, hfz, hnd⟩ := hW
  have hA : DataW.TrodAll enc Try.prog W 0 (fun _ => true) true Try.f8.params.toList args.toList ds p := hA0
  rw [Try.params8] at hA hval
  obtain ⟨v0, vs0, d0, ds0, p0, q0, hargs, rfl, rfl, h0, r0⟩ := trodAll_cons hA
  obtain ⟨v1, vs1, d1, ds1, p1, q1, rfl, rfl, rfl, h1, r1⟩ := trodAll_cons r0
  obtain ⟨rfl, rfl, rfl⟩ := trodAll_nil r1
  obtain rfl : args = #[v0, v1] := by cases args; simp_all
  obtain ⟨rfl, rfl⟩ := trodVars_none hV
  have k0 := h0
  have lt0 := lt_of_trod k0
  obtain ⟨cs0, m0, rfl, hm0⟩ := model_arg (hval 0 27 v0 rfl rfl) h0
  obtain ⟨a1, rfl, rfl, rfl, w1⟩ := open_int Try.underlying3 (hval 1 3 v1 rfl rfl) h1
  clear hA0 hval0
  refine (modelReach_walk W cs0 m0 hm0 a1 w1).mono fun e W' ⟨he, bel⟩ => ?_
  subst he
  exact ⟨_, rfl, _, _, _, [], _, [], hW', trodAll_mk1 (shut_bool Try.underlying4 _), (trodAll_cons_mk (Below.trod laidOut (by kernel_rfl) (of_decide_eq_true (by kernel_rfl)) k0 bel lt0) (trodAll_cons_mk (shut_int Try.underlying3 w1) trodAll_mk0)), rfl, bel.frame _, fun h => by cases h⟩

theorem modelReach_proved : Rows.ModelReachSaid :=
  OpenClaim.holds_of_wide 8 Try.f8 rfl rfl rfl rfl rfl rfl rfl ⟨rfl, rfl, rfl, rfl, rfl⟩ rfl rfl rfl rfl rfl (by kernel_rfl) Try.func8 (by kernel_rfl)
    (of_decide_eq_true (by kernel_rfl)) (by unfold Func.isWrapper; first | (rw [if_pos (by decide +kernel)]; kernel_rfl) | (rw [if_neg (by decide +kernel)]; exact ⟨rfl, rfl⟩))
    (fun os started H enc _ => modelReach_lifted os started H enc)
#print axioms modelReach_proved

end Go.Proofs.Ytedajbpjokmlaaa
