/- The document's longest wait. -/
import Derived.Test.YtedajbpjokmlaaaNWeights
import Derived.Test.YtedajbpjokmlaaaLongest
namespace Go.Proofs.Ytedajbpjokmlaaa
open Go Go.RowKit
set_option linter.unusedVariables false

theorem far_drop {n : Nat} {E : List (Nat × Nat)} {ws : List Int} {D : List Nat} {j i : Nat} (h : D[j]? = some i) :
    farOf n E ws (D.drop j) = (fStep E ws (farOf n E ws (D.drop (j + 1))).1 i, max (farOf n E ws (D.drop (j + 1))).2 ((fStep E ws (farOf n E ws (D.drop (j + 1))).1 i).getD i 0)) := by
  obtain ⟨h1, h2⟩ := List.getElem?_eq_some_iff.1 h
  rw [List.drop_eq_getElem_cons h1, h2]
  rfl

set_option maxHeartbeats 4000000 in
set_option maxRecDepth 100000 in
theorem nlongest_any (g : List GN) (c0 c1 c2 c3 c4 v5 : Value) (w : World) (hg : GraphAt w w.heap.size v5 g) (hlen : (edgesOf g).length ≤ 10000) (hgn : g.length ≤ 5000) :
    Calls Try.prog 23 #[.agg ⟨[c0, c1, c2, c3, c4, v5]⟩] w (NumPost w (longestOf g) (okOf g)) := by
  have HG := Lib.hid hg
  obtain ⟨hgl, A, c, rfl, hA⟩ := hg
  have HLEN := Lib.hid hlen
  have HG5 := Lib.hid hgn
  have HWA : Hid (WaitsAt w w.heap.size A g) := Lib.hid fun i x hx => by
    obtain ⟨b, o, rfl, hb, hc⟩ := hA (by have := (List.getElem?_eq_some_iff.1 hx).1; omega)
    obtain ⟨ks, h1, h2, h3⟩ := hc i x hx
    exact ⟨b, o, rfl, hb, range_cell h2 27 h3.wait⟩
  clear hA hlen hgl
  obtain ⟨i0, hi, hz0, hz1, hz2⟩ := info_parts' info_int
  have HI0 := Lib.hid hi
  have HZ0 := Lib.hid hz0
  have HZ1 := Lib.hid hz1
  have HZ2 := Lib.hid hz2
  clear hi hz0 hz1 hz2
  go_enter Try.func23, Try.ntmps23
  go_upto_region 1 with (fail)
  have HB := Lib.hid (box_below w (.cells ⟨[c0, c1, c2, c3, c4, .slice A g.length c]⟩ 27))
  have HSZ := Lib.hid (box_size w (.cells ⟨[c0, c1, c2, c3, c4, .slice A g.length c]⟩ 27))
  have HC5 := Lib.hid (cells_box w [c0, c1, c2, c3, c4, .slice A g.length c] 27 5 _ rfl)
  have HR := Lib.hid (range_box w [c0, c1, c2, c3, c4, .slice A g.length c] 27)
  generalize w.alloc (.cells ⟨[c0, c1, c2, c3, c4, .slice A g.length c]⟩ 27) = W at *
  have HCO := Lib.hid (norder_any g c0 c1 c2 c3 c4 (.slice A g.length c) W (HG.out.next HB.out) HLEN.out HG5.out)
  cases hok : okOf g with
  | false =>
    have HT := Lib.hid hok
    have HL : Hid (longestOf g = 0) := Lib.hid (by unfold longestOf; rw [if_neg (by rw [hok]; simp)])
    rw [hok] at HCO
    clear hok
    go_wp2_with (first | ((with_reducible refine wl_sload 27 _ rfl ?hw2 w.heap.size 0 [c0, c1, c2, c3, c4, .slice A g.length c] _ rfl HR.out Try.underlying27 rfl ?hi2 ?_); (case hw2 => first | exact wanted_none rfl | exact wanted_if rfl rfl rfl rfl); (case hi2 => kernel_rfl)) | (go_at_call 20; refine HCO.out.mono ?_; rintro e w3 ⟨v3, rfl, hown3, hb3⟩; have HB3 := Lib.hid hb3; clear hown3 hb3))
    go_ret2
    exact ⟨by rw [HT.out, HL.out]; rfl, HB.out.trans (HB3.out.mono HB.out.size)⟩
  | true =>
    have HT := Lib.hid hok
    have HL : Hid (longestOf g = (farOf g.length (graphE g) (waitsL g) (orderOf g.length (graphE g))).2) := Lib.hid (by unfold longestOf; rw [if_pos hok])
    have HOL : Hid (ordL g = natsI (orderOf g.length (graphE g))) := Lib.hid (by unfold ordL; rw [if_pos hok])
    have HIL : Hid ((orderOf g.length (graphE g)).length = g.length) := Lib.hid (by unfold okOf at hok; simpa using hok)
    rw [hok] at HCO
    clear hok
    go_upto_region 4 with (first | ((with_reducible refine wl_sload 27 _ rfl ?hw2 w.heap.size 0 [c0, c1, c2, c3, c4, .slice A g.length c] _ rfl HR.out Try.underlying27 rfl ?hi2 ?_); (case hw2 => first | exact wanted_none rfl | exact wanted_if rfl rfl rfl rfl); (case hi2 => kernel_rfl)) | (go_at_call 20; refine HCO.out.mono ?_; rintro e w3 ⟨v3, rfl, hown3, hb3⟩; rw [HOL.out] at hown3; have HO3 := Lib.hid hown3; have HB3 := Lib.hid hb3; clear hown3 hb3))
    have HB4 := Lib.hid (HB.out.trans (HB3.out.mono HB.out.size))
    have d5 := (HB3.out.cell (p := ⟨w.heap.size, 5, none⟩) HSZ.out).trans HC5.out
    have HC3 := Lib.hid d5
    have HR3 := Lib.hid (rangeAt_below HR.out HB3.out HSZ.out)
    have HS3 := Lib.hid (Nat.lt_of_lt_of_le HSZ.out HB3.out.size)
    have HGN : Hid (g.length ≤ 10000) := Lib.hid (by have := HG5.out; omega)
    have hgn2 : (g.length : Int) ≤ 5000 := by omega
    obtain ⟨A4, c4', hv4⟩ := own_sl HO3.out
    rw [natsI_len] at hv4
    subst hv4
    have HOA := Lib.hid (own_nats HO3.out (by rw [HIL.out]; exact HGN.out))
    clear HB HB3 HC5 HR HSZ HCO HO3
    go_upto_region 5 with ((with_reducible refine wl_make 34 3 _ _ rfl ?hw i0 (.int .i64 0) 8 g.length Try.underlying34 HI0.out HZ0.out HZ1.out HZ2.out (by decide) rfl ?hx ?hy HGN.out ?_); (case hw => first | exact wanted_none rfl | exact wanted_if rfl rfl rfl rfl); (case hx => rfl); (case hy => rfl); intro w4 hrow htag hb1 hs1; have HROW := Lib.hid hrow; have HB5 := Lib.hid hb1; have HS5 := Lib.hid hs1; clear hrow htag hb1 hs1)
    clear d5
    have HB6 := Lib.hid (HB4.out.trans (HB5.out.mono HB4.out.size))
    have HR4 := Lib.hid (rangeAt_below HR3.out HB5.out HS3.out)
    have HE := Lib.hid (nedges_any g c0 c1 c2 c3 c4 (.slice A g.length c) w4 (HG.out.next HB6.out) HLEN.out)
    go_upto_region 6 with (first | ((with_reducible refine wl_sload 27 _ rfl ?hw2 w.heap.size 0 [c0, c1, c2, c3, c4, .slice A g.length c] _ rfl HR4.out Try.underlying27 rfl ?hi2 ?_); (case hw2 => first | exact wanted_none rfl | exact wanted_if rfl rfl rfl rfl); (case hi2 => kernel_rfl)) | (go_at_call 47; refine HE.out.mono ?_; rintro e w5 ⟨v5, rfl, hown5, hb5⟩; have HO5 := Lib.hid hown5; have HB7 := Lib.hid hb5; clear hown5 hb5))
    obtain ⟨lb, hlb⟩ : ∃ r, w3.heap.size = r := ⟨_, rfl⟩
    have HDB : Hid (w.heap.size ≤ lb) := Lib.hid (by have := HS3.out; omega)
    have HDS : Hid (lb < w5.heap.size) := Lib.hid (by rw [← hlb]; exact Nat.lt_of_lt_of_le HS5.out HB7.out.size)
    have HRL5 : Hid (RowL w5 lb (List.replicate g.length 0)) := Lib.hid (RowL.of (by rw [← hlb]; exact HROW.out.below HB7.out HS5.out) (by simp) (fun i hi => by simp [List.getD_eq_getElem?_getD, hi]))
    have HBW5 := Lib.hid (HB6.out.trans (HB7.out.mono HB6.out.size))
    have HCM : Hid (w5.cell? ⟨w.heap.size, 5, none⟩ = some (.slice A g.length c)) := Lib.hid (((HB5.out.trans (HB7.out.mono HB5.out.size)).cell (p := ⟨w.heap.size, 5, none⟩) HS3.out).trans HC3.out)
    have HML : Hid (w.heap.size < lb ∧ w.heap.size < w5.heap.size) := Lib.hid ⟨by have := HS3.out; omega, by have := HS3.out; have := HDS.out; omega⟩
    clear HC3
    have HDS4 : Hid (lb < w4.heap.size) := Lib.hid (by rw [← hlb]; exact HS5.out)
    have HOA5 := Lib.hid ((HOA.out.below (HB5.out.trans (HB7.out.mono HB5.out.size))))
    rw [hlb] at HOA5
    rw [hlb]
    obtain ⟨hel, EA, ec, rfl, hea⟩ := HO5.out.at encE_len (Nat.le_trans (List.length_filter_le _ _) (by have := HLEN.out; omega))
    have HEB : Hid (0 < (okEs g).length → ∃ b o, EA = some ⟨b, o, none⟩ ∧ b < w5.heap.size ∧ b ≠ lb ∧ ∀ (i : Nat) x, (okEs g)[i]? = some x → w5.rangeAt b (o + i * 3) (encE x)) := Lib.hid fun h0 => by
      obtain ⟨b, o, rfl, hlt, hc⟩ := hea h0
      refine ⟨b, o, rfl, hlt, fun hne => ?_, fun i x hx => ?_⟩
      · have := HO5.out.block (b := b) rfl
        have := HDS4.out
        omega
      · obtain ⟨ks, h1, h2, h3⟩ := hc i x hx
        have h3' : ks = encE x := h3
        subst h3'
        exact h2
    have HEL : Hid ((okEs g).length ≤ 10000) := Lib.hid (Nat.le_trans (List.length_filter_le _ _) HLEN.out)
    have HEM := Lib.hid (fun e (he : e ∈ okEs g) => okEs_mem he)
    have HPG : Hid (graphE g = pairsK (okEs g)) := Lib.hid rfl
    have HDT := Lib.hid (order_topo (n := g.length) (E := graphE g) g.length (Topo.nil _ _))
    have HDN : Hid (∀ i ∈ orderOf g.length (graphE g), i < g.length) := Lib.hid HDT.out.lt
    clear hlb hel hea HO5 HB7 HROW HS5 HB6 HB5 HB4 HS3 HR3 HR4 HE HDS4 HOA
    have hfold : (edgesOf g).filter (okE g.length) = okEs g := rfl
    rw [hfold]
    clear hfold
    generalize okEs g = Es at *
    have HNO : Hid (∀ i ∈ orderOf g.length (graphE g), i ∉ outs (graphE g) i) := Lib.hid fun i hi h => HDT.out.acyclic hi (Way.one (mem_outs.1 h))
    have HFI := Lib.hid (fun D => far_in g.length (graphE g) (waitsL g) D)
    have HFD := Lib.hid (fun D j i h => far_drop (n := g.length) (E := graphE g) (ws := waitsL g) (D := D) (j := j) (i := i) h)
    clear HDT
    generalize orderOf g.length (graphE g) = D at *
    have hle : (Es.length : Int) ≤ 10000 := by have := HEL.out; omega
    have hdl : (D.length : Int) ≤ 5000 := by have := HIL.out; omega
    have HR5 : Hid (RowL w5 lb (farOf g.length (graphE g) (waitsL g) (D.drop D.length)).1 ∧ (farOf g.length (graphE g) (waitsL g) (D.drop D.length)).2 = 0) := Lib.hid (by rw [List.drop_length]; exact ⟨HRL5.out, rfl⟩)
    obtain ⟨A4', c4'', hv4, hA4⟩ := HOA5.out.ex
    injection hv4 with e1 _ e2
    subst e1 e2
    have HA4 := Lib.hid hA4
    clear hA4
    go_wp2
    go_loopg [8, 9] (D.length + 1) (fun q bv v u => ∃ m : Nat, m + 1 = q ∧ v = .int .i64 ((m : Int) - 1) ∧ bv = .int .i64 (farOf g.length (graphE g) (waitsL g) (D.drop m)).2 ∧ m ≤ D.length ∧ RowL u lb (farOf g.length (graphE g) (waitsL g) (D.drop m)).1 ∧ But w5 u lb lb)
    case atStart => exact ⟨D.length, rfl, by go_num, by rw [HR5.out.2], Nat.le_refl _, HR5.out.1, But.refl _ _ _⟩
    case round =>
      obtain ⟨m, rfl, rfl, rfl, hml, hrow, hbut⟩ := hrel
      clear HR5 HRL5
      have HROW := Lib.hid hrow
      have HBUT := Lib.hid hbut
      clear hrow hbut
      cases m with
      | zero =>
        have e0 : ((0 : Nat) : Int) - 1 = -1 := rfl
        rw [e0]
        have HBF := Lib.hid (HBW5.out.trans (HBUT.out.below HBW5.out.size HDB.out HDB.out))
        go_wp2
        go_ret2
        exact ⟨by rw [HT.out, HL.out]; rfl, HBF.out⟩
      | succ m =>
        have e0 : ((m + 1 : Nat) : Int) - 1 = (m : Int) := by omega
        rw [e0]
        obtain ⟨i, hi⟩ : ∃ i, D[m]? = some i := ⟨_, List.getElem?_eq_getElem (by omega)⟩
        have hin := HDN.out i (List.mem_of_getElem? hi)
        have HIO := Lib.hid (HNO.out i (List.mem_of_getElem? hi))
        have hin2 : (i : Int) < (g.length : Int) := by omega
        have hm2 : (m : Int) < (D.length : Int) := by omega
        obtain ⟨b4, rfl, hb4, hc4⟩ := HA4.out (by omega)
        have h4 : b4 < w5.heap.size ∧ b4 ≠ lb := ⟨Nat.lt_trans hb4 HDS.out, by omega⟩
        have d4 := (HBUT.out.cell h4.1 h4.2 h4.2).trans (hc4 m i hi)
        have HFD2 := Lib.hid (HFD.out D m i hi)
        have HPR := Lib.hid (HFI.out (D.drop (m + 1)))
        have HPL : Hid ((D.drop (m + 1)).length ≤ 5000) := Lib.hid (by rw [List.length_drop]; omega)
        clear hi hc4 h4 hb4
        generalize farOf g.length (graphE g) (waitsL g) (D.drop (m + 1)) = s0 at *
        obtain ⟨o, mx⟩ := s0
        have HROW0 : Hid (RowL wr lb o) := Lib.hid HROW.out
        clear HROW
        have hm1 : 0 ≤ mx := HPR.out.2.2.1
        have hm3 : mx ≤ 10000000 := by have h1 : mx ≤ 1000 * ((D.drop (m + 1)).length : Int) := HPR.out.2.2.2; have := HPL.out; omega
        have HPI : Hid (inF 10000000 o) := Lib.hid fun y hy => by have h1 := HPR.out.1 y hy; have := HPL.out; omega
        have HOLN : Hid (o.length = g.length) := Lib.hid HPR.out.2.1
        have HIL2 : Hid (i < o.length) := Lib.hid (by rw [HOLN.out]; exact hin)
        have HR0 : Hid (RowL wr lb (o.set i (fFold o (o.getD i 0) (outs (pairsK (Es.take 0)) i)))) := Lib.hid (by show RowL wr lb (o.set i (o.getD i 0)); rw [set_self HIL2.out]; exact HROW0.out)
        have HBUT0 := Lib.hid HBUT.out
        clear HBUT HPR HPL
        go_wp2
        clear d4
        go_loopg [11] Es.length (fun q kv u => ∃ k : Nat, k + q = Es.length ∧ kv = .int .i64 k ∧ RowL u lb (o.set i (fFold o (o.getD i 0) (outs (pairsK (Es.take k)) i))) ∧ But w5 u lb lb)
        case atStart => exact ⟨0, by omega, rfl, HR0.out, HBUT0.out⟩
        case round =>
          obtain ⟨j, hj, rfl, hrow, hbut⟩ := hrel
          have HROW := Lib.hid hrow
          have HBUT := Lib.hid hbut
          clear hrow hbut HROW0 HR0 HBUT0
          have HLI : Hid (i < (o.set i (fFold o (o.getD i 0) (outs (pairsK (Es.take j)) i))).length) := Lib.hid (by rw [List.length_set]; exact HIL2.out)
          have HLBR : Hid (lb < wr.heap.size) := Lib.hid (Nat.lt_of_lt_of_le HDS.out HBUT.out.size)
          have dr := HROW.out.at HLI.out
          have fr := HROW.out.fz i HLI.out
          rw [getD_set HIL2.out, if_pos rfl] at dr
          have ha := inF_at (by omega) HPI.out i
          have hs1 := fFold_range (by omega) HPI.out (outs (pairsK (Es.take j)) i) (o.getD i 0) ha.1 ha.2
          cases gk with
          | zero =>
            obtain rfl : j = Es.length := by omega
            have hge : ¬ ((Es.length : Int) < (Es.length : Int)) := by omega
            rw [List.take_of_length_le (Nat.le_refl _), ← HPG.out] at dr hs1 HROW
            obtain ⟨y, hy⟩ : ∃ y, g[i]? = some y := ⟨_, List.getElem?_eq_getElem hin⟩
            have HBWR := Lib.hid (HBW5.out.trans (HBUT.out.below HBW5.out.size HDB.out HDB.out))
            obtain ⟨b, o', rfl, hbw, hcw⟩ := HWA.out i y hy
            have dw := (HBWR.out.cell (p := ⟨b, o' + i * 29 + 27, none⟩) hbw).trans hcw
            have dm := (HBUT.out.cell (o := 5) HML.out.2 (Nat.ne_of_lt HML.out.1) (Nat.ne_of_lt HML.out.1)).trans HCM.out
            have HWT := Lib.hid (waitsL_at hy)
            have HFS0 : Hid (fStep (graphE g) (waitsL g) o i = o.set i (fFold o (o.getD i 0) (outs (graphE g) i) + waitOf (waitsL g) i)) := Lib.hid rfl
            have HWO : Hid (waitOf (waitsL g) i = if 0 ≤ y.wait ∧ y.wait ≤ 1000 then y.wait else 0) := Lib.hid (by unfold waitOf; rw [HWT.out])
            have hs3 : fFold o (o.getD i 0) (outs (graphE g) i) ≤ 10000000 := hs1.2
            have hs4 : 0 ≤ fFold o (o.getD i 0) (outs (graphE g) i) := hs1.1
            generalize fFold o (o.getD i 0) (outs (graphE g) i) = s at *
            generalize y.wait = wt at *
            clear hcw hy hs1 ha HLI
            by_cases hw : 0 ≤ wt ∧ wt ≤ 1000
            · rw [if_pos hw] at HWO
              have HFS : Hid (fStep (graphE g) (waitsL g) o i = o.set i (s + wt)) := Lib.hid (by rw [HFS0.out, HWO.out])
              have hw1 := hw.1
              have hw2 := hw.2
              have t1 : decide ((0 : Int) ≤ wt) = true := by simpa using hw1
              have t2 : decide (wt ≤ 1000) = true := by simpa using hw2
              have hwr : IntKind.i64.wrap (s + wt) = s + wt := by rw [IntKind.wrap_i64]; omega
              clear hw
              have HRY : Hid (RowL (wr.setCell ⟨lb, i, none⟩ (.int .i64 (s + wt))).drew lb (o.set i (s + wt))) := Lib.hid (by
                have := (HROW.out.below (Below.refl _ wr).drew HLBR.out).set (i := i) (by rw [List.length_set]; exact HIL2.out) (s + wt)
                rw [List.set_set] at this
                exact this)
              have HBY : Hid (But w5 (wr.setCell ⟨lb, i, none⟩ (.int .i64 (s + wt))).drew lb lb) := Lib.hid ((HBUT.out.trans (But.of_below (Below.refl _ wr).drew _ _)).trans (But.set1 _ _ _ _ _))
              have HLI2 : Hid (i < (o.set i (s + wt)).length) := Lib.hid (by rw [List.length_set]; exact HIL2.out)
              have HFR : Hid (wr.drew.frozen? ⟨lb, i, none⟩ = false) := Lib.hid fr
              go_upto_region 17 with (fail)
              have hs : wr.drew.cell? ⟨lb, i, none⟩ = some (.int .i64 s) ∧ wr.drew.cell? ⟨w.heap.size, 5, none⟩ = some (.slice (some ⟨b, o', none⟩) g.length c) ∧ wr.drew.cell? ⟨b, o' + i * 29 + 27, none⟩ = some (.int .i64 wt) := ⟨dr, dm, dw⟩
              clear dr fr dm dw t1 t2
              refine wp_region_ord_tail 12 [(0, true), (1, true), (2, true), (3, true), (4, true), (5, true), (6, true), (7, true), (8, true), (9, true), (10, true), (11, true)]
                (fun z => z.cell? ⟨lb, i, none⟩ = some (.int .i64 s) ∧ z.cell? ⟨w.heap.size, 5, none⟩ = some (.slice (some ⟨b, o', none⟩) g.length c) ∧ z.cell? ⟨b, o' + i * 29 + 27, none⟩ = some (.int .i64 wt)) (by kernel_rfl) (by kernel_rfl) rfl (by intro c a d v w h; cases d <;> exact h) ?_
              refine ord_move (some 81) (.slice (some ⟨lb, 0, none⟩) g.length g.length) _ _ rfl rfl rfl (by first | exact wanted_none rfl | exact wanted_if rfl rfl rfl rfl) hs rfl ?_
              go_frame
              refine ord_move (some 82) (.int .i64 i) _ _ rfl rfl rfl (by first | exact wanted_none rfl | exact wanted_if rfl rfl rfl rfl) hs rfl ?_
              go_frame
              refine ord_load (some 83) (.pointer (some ⟨lb, i, none⟩)) _ rfl rfl (by first | exact wanted_none rfl | exact wanted_if rfl rfl rfl rfl) hs (fun z hz => by go_simp) ?_
              go_frame
              refine ord_load (some 84) (.int .i64 s) _ rfl rfl (by first | exact wanted_none rfl | exact wanted_if rfl rfl rfl rfl) hs (fun z hz => by have dd := hz.1; go_simp) ?_
              go_frame
              refine ord_load (some 85) (.pointer (some ⟨w.heap.size, 5, none⟩)) _ rfl rfl (by first | exact wanted_none rfl | exact wanted_if rfl rfl rfl rfl) hs (fun z hz => by go_simp) ?_
              go_frame
              refine ord_load (some 86) (.slice (some ⟨b, o', none⟩) g.length c) _ rfl rfl (by first | exact wanted_none rfl | exact wanted_if rfl rfl rfl rfl) hs (fun z hz => by have dd := hz.2.1; go_simp) ?_
              go_frame
              refine ord_move (some 87) (.int .i64 i) _ _ rfl rfl rfl (by first | exact wanted_none rfl | exact wanted_if rfl rfl rfl rfl) hs rfl ?_
              go_frame
              refine ord_load (some 88) (.pointer (some ⟨b, o' + i * 29, none⟩)) _ rfl rfl (by first | exact wanted_none rfl | exact wanted_if rfl rfl rfl rfl) hs (fun z hz => by go_simp) ?_
              go_frame
              refine ord_load (some 89) (.pointer (some ⟨b, o' + i * 29 + 27, none⟩)) _ rfl rfl (by first | exact wanted_none rfl | exact wanted_if rfl rfl rfl rfl) hs (fun z hz => by go_simp) ?_
              go_frame
              refine ord_load (some 90) (.int .i64 wt) _ rfl rfl (by first | exact wanted_none rfl | exact wanted_if rfl rfl rfl rfl) hs (fun z hz => by have dd := hz.2.2; go_simp) ?_
              go_frame
              refine ord_load (some 91) (.int .i64 (s + wt)) _ rfl rfl (by first | exact wanted_none rfl | exact wanted_if rfl rfl rfl rfl) hs (fun z hz => by go_simp) ?_
              go_frame
              refine ord_load (some 92) (.pointer (some ⟨lb, i, none⟩)) _ rfl rfl (by first | exact wanted_none rfl | exact wanted_if rfl rfl rfl rfl) hs (fun z hz => by go_simp) ?_
              go_frame
              refine ord_tail ?_
              have d7 := hs.1
              have f7 : wr.drew.frozen? ⟨lb, i, none⟩ = false := HFR.out
              clear hs
              go_upto_region 18 with (fail)
              clear f7 d7
              generalize (wr.setCell ⟨lb, i, none⟩ (.int .i64 (s + wt))).drew = W6 at *
              have d8 := HRY.out.at HLI2.out
              rw [getD_set HIL2.out, if_pos rfl] at d8
              go_wp2
              go_roundg (m + 1)
              case measure => omega
              case rel =>
                refine ⟨m, rfl, by go_num, ?_, by omega, ?_, HBY.out⟩
                · rw [HFD2.out]
                  show _ = Value.int .i64 (max mx ((fStep (graphE g) (waitsL g) o i).getD i 0))
                  rw [HFS.out, getD_set HIL2.out, if_pos rfl]
                · rw [HFD2.out]
                  show RowL _ lb (fStep (graphE g) (waitsL g) o i)
                  rw [HFS.out]
                  exact HRY.out
            · rw [if_neg hw] at HWO
              have HFS : Hid (fStep (graphE g) (waitsL g) o i = o.set i s) := Lib.hid (by rw [HFS0.out, HWO.out, Int.add_zero])
              have HLI2 : Hid (i < (o.set i s).length) := Lib.hid (by rw [List.length_set]; exact HIL2.out)
              have HRY : Hid (RowL wr lb (o.set i s)) := HROW
              have HBY : Hid (But w5 wr lb lb) := HBUT
              by_cases hneg : wt < 0
              · have t1 : decide ((0 : Int) ≤ wt) = false := by simpa using hneg
                clear hneg hw
                go_upto_region 18 with (fail)
                clear dr fr dm dw t1
                have d8 := HRY.out.at HLI2.out
                rw [getD_set HIL2.out, if_pos rfl] at d8
                go_wp2
                go_roundg (m + 1)
                case measure => omega
                case rel =>
                  refine ⟨m, rfl, by go_num, ?_, by omega, ?_, HBY.out⟩
                  · rw [HFD2.out]
                    show _ = Value.int .i64 (max mx ((fStep (graphE g) (waitsL g) o i).getD i 0))
                    rw [HFS.out, getD_set HIL2.out, if_pos rfl]
                  · rw [HFD2.out]
                    show RowL _ lb (fStep (graphE g) (waitsL g) o i)
                    rw [HFS.out]
                    exact HRY.out
              · have t1 : decide ((0 : Int) ≤ wt) = true := by simp; omega
                have t2 : decide (wt ≤ 1000) = false := by simp; omega
                clear hneg hw
                go_upto_region 18 with (fail)
                clear dr fr dm dw t1 t2
                have d8 := HRY.out.at HLI2.out
                rw [getD_set HIL2.out, if_pos rfl] at d8
                go_wp2
                go_roundg (m + 1)
                case measure => omega
                case rel =>
                  refine ⟨m, rfl, by go_num, ?_, by omega, ?_, HBY.out⟩
                  · rw [HFD2.out]
                    show _ = Value.int .i64 (max mx ((fStep (graphE g) (waitsL g) o i).getD i 0))
                    rw [HFS.out, getD_set HIL2.out, if_pos rfl]
                  · rw [HFD2.out]
                    show RowL _ lb (fStep (graphE g) (waitsL g) o i)
                    rw [HFS.out]
                    exact HRY.out
          | succ q2 =>
            have hlt3 : (j : Int) < (Es.length : Int) := by omega
            obtain ⟨e, he⟩ : ∃ e, Es[j]? = some e := ⟨_, List.getElem?_eq_getElem (by omega)⟩
            obtain ⟨b, o', rfl, hbl, hbd, hc⟩ := HEB.out (by omega)
            have HRE : Hid (∀ u, But w5 u lb lb → u.rangeAt b (o' + j * 3) (encE e)) := Lib.hid fun u hu x v hv => (hu.cell (o := o' + j * 3 + x) hbl hbd hbd).trans (hc j e he x v hv)
            have d0 : wr.cell? ⟨b, o' + j * 3, none⟩ = some (.int .i64 e.1) := range_cell (HRE.out wr HBUT.out) 0 rfl
            obtain ⟨hef, t, ht, htn⟩ := HEM.out e (List.mem_of_getElem? he)
            have HSU := Lib.hid (outsK_succ he i)
            have HTN : Hid (e.2.2.toNat = t) := Lib.hid (by omega)
            have HOI : Hid (e.1 = i → t ≠ i) := Lib.hid fun h1 h2 => HIO.out (by
              rw [HPG.out]
              refine mem_outs.2 (List.mem_map.2 ⟨e, List.mem_of_getElem? he, ?_⟩)
              rw [HTN.out, h1, h2])
            clear hc he
            by_cases hto : e.1 = i
            · have HNX : Hid (o.set i (fFold o (o.getD i 0) (outs (pairsK (Es.take (j + 1))) i)) = (o.set i (fFold o (o.getD i 0) (outs (pairsK (Es.take j)) i))).set i (max (fFold o (o.getD i 0) (outs (pairsK (Es.take j)) i)) (o.getD t 0))) := Lib.hid (by rw [HSU.out, if_pos hto, fFold_snoc, HTN.out, List.set_set])
              have t1 : ((e.1 : Int) == (i : Int)) = true := by simp; omega
              have htn2 : (t : Int) < (g.length : Int) := by omega
              have hti := HOI.out hto
              have HLT : Hid (t < (o.set i (fFold o (o.getD i 0) (outs (pairsK (Es.take j)) i))).length) := Lib.hid (by rw [List.length_set, HOLN.out]; exact htn)
              clear hto
              go_upto_region 15 with (fail)
              have HFR : Hid (wr.drew.frozen? ⟨lb, i, none⟩ = false) := Lib.hid fr
              have d2 : wr.drew.cell? ⟨b, o' + j * 3 + 2, none⟩ = some (.int .i64 e.2.2) := range_cell (HRE.out wr HBUT.out) 2 rfl
              rw [ht] at d2
              have dt := HROW.out.at HLT.out
              rw [getD_set HIL2.out, if_neg hti] at dt
              generalize fFold o (o.getD i 0) (outs (pairsK (Es.take j)) i) = s at *
              generalize o.getD t 0 = y at *
              have hs : wr.drew.cell? ⟨lb, i, none⟩ = some (.int .i64 s) ∧ wr.drew.cell? ⟨lb, t, none⟩ = some (.int .i64 y) ∧ wr.drew.cell? ⟨b, o' + j * 3 + 2, none⟩ = some (.int .i64 t) := ⟨dr, dt, d2⟩
              clear dr dt d2 fr d0 t1 hs1 ha
              refine wp_region_ord_tail 16 [(0, true), (1, true), (2, true), (3, true), (4, true), (5, true), (6, true), (7, true), (8, true), (9, true), (10, true), (11, true), (12, true), (13, true), (14, true), (15, true)]
                (fun z => z.cell? ⟨lb, i, none⟩ = some (.int .i64 s) ∧ z.cell? ⟨lb, t, none⟩ = some (.int .i64 y) ∧ z.cell? ⟨b, o' + j * 3 + 2, none⟩ = some (.int .i64 t)) (by kernel_rfl) (by kernel_rfl) rfl (by intro c a d v w h; cases d <;> exact h) ?_
              refine ord_move (some 49) (.slice (some ⟨lb, 0, none⟩) g.length g.length) _ _ rfl rfl rfl (by first | exact wanted_none rfl | exact wanted_if rfl rfl rfl rfl) hs rfl ?_
              go_frame
              refine ord_move (some 50) (.int .i64 i) _ _ rfl rfl rfl (by first | exact wanted_none rfl | exact wanted_if rfl rfl rfl rfl) hs rfl ?_
              go_frame
              refine ord_move (some 51) (.slice (some ⟨lb, 0, none⟩) g.length g.length) _ _ rfl rfl rfl (by first | exact wanted_none rfl | exact wanted_if rfl rfl rfl rfl) hs rfl ?_
              go_frame
              refine ord_move (some 52) (.int .i64 i) _ _ rfl rfl rfl (by first | exact wanted_none rfl | exact wanted_if rfl rfl rfl rfl) hs rfl ?_
              go_frame
              refine ord_load (some 53) (.pointer (some ⟨lb, i, none⟩)) _ rfl rfl (by first | exact wanted_none rfl | exact wanted_if rfl rfl rfl rfl) hs (fun z hz => by go_simp) ?_
              go_frame
              refine ord_load (some 54) (.int .i64 s) _ rfl rfl (by first | exact wanted_none rfl | exact wanted_if rfl rfl rfl rfl) hs (fun z hz => by have dd := hz.1; go_simp) ?_
              go_frame
              refine ord_move (some 55) (.slice (some ⟨lb, 0, none⟩) g.length g.length) _ _ rfl rfl rfl (by first | exact wanted_none rfl | exact wanted_if rfl rfl rfl rfl) hs rfl ?_
              go_frame
              refine ord_move (some 56) (.slice (some ⟨b, o', none⟩) Es.length ec) _ _ rfl rfl rfl (by first | exact wanted_none rfl | exact wanted_if rfl rfl rfl rfl) hs rfl ?_
              go_frame
              refine ord_move (some 57) (.int .i64 j) _ _ rfl rfl rfl (by first | exact wanted_none rfl | exact wanted_if rfl rfl rfl rfl) hs rfl ?_
              go_frame
              refine ord_load (some 58) (.pointer (some ⟨b, o' + j * 3, none⟩)) _ rfl rfl (by first | exact wanted_none rfl | exact wanted_if rfl rfl rfl rfl) hs (fun z hz => by go_simp) ?_
              go_frame
              refine ord_load (some 59) (.pointer (some ⟨b, o' + j * 3 + 2, none⟩)) _ rfl rfl (by first | exact wanted_none rfl | exact wanted_if rfl rfl rfl rfl) hs (fun z hz => by go_simp) ?_
              go_frame
              refine ord_load (some 60) (.int .i64 t) _ rfl rfl (by first | exact wanted_none rfl | exact wanted_if rfl rfl rfl rfl) hs (fun z hz => by have dd := hz.2.2; go_simp) ?_
              go_frame
              refine ord_load (some 61) (.pointer (some ⟨lb, t, none⟩)) _ rfl rfl (by first | exact wanted_none rfl | exact wanted_if rfl rfl rfl rfl) hs (fun z hz => by go_simp) ?_
              go_frame
              refine ord_load (some 62) (.int .i64 y) _ rfl rfl (by first | exact wanted_none rfl | exact wanted_if rfl rfl rfl rfl) hs (fun z hz => by have dd := hz.2.1; go_simp) ?_
              go_frame
              refine ord_load (some 63) (.int .i64 (max s y)) _ rfl rfl (by first | exact wanted_none rfl | exact wanted_if rfl rfl rfl rfl) hs (fun z hz => by go_simp; done) ?_
              go_frame
              refine ord_load (some 64) (.pointer (some ⟨lb, i, none⟩)) _ rfl rfl (by first | exact wanted_none rfl | exact wanted_if rfl rfl rfl rfl) hs (fun z hz => by go_simp) ?_
              go_frame
              refine ord_tail ?_
              have d7 := hs.1
              have f7 : wr.drew.frozen? ⟨lb, i, none⟩ = false := HFR.out
              have HB7 : Hid (But w5 (wr.drew.setCell ⟨lb, i, none⟩ (.int .i64 (max s y))) lb lb) := Lib.hid ((HBUT.out.trans (But.of_below (Below.refl _ wr).drew _ _)).trans (But.set1 _ _ _ _ _))
              have HR7 : Hid (RowL (wr.drew.setCell ⟨lb, i, none⟩ (.int .i64 (max s y))) lb (o.set i (fFold o (o.getD i 0) (outs (pairsK (Es.take (j + 1))) i)))) := Lib.hid (by rw [HNX.out]; exact RowL.set (w := wr.drew) (HROW.out.below (Below.refl _ wr).drew HLBR.out) HLI.out _)
              clear hs
              go_wp2
              go_roundg q2
              case measure => omega
              case rel => exact ⟨j + 1, by omega, by go_num, HR7.out, HB7.out⟩
            · have t1 : ((e.1 : Int) == (i : Int)) = false := by simp; omega
              have HNX : Hid (o.set i (fFold o (o.getD i 0) (outs (pairsK (Es.take (j + 1))) i)) = o.set i (fFold o (o.getD i 0) (outs (pairsK (Es.take j)) i))) := Lib.hid (by rw [HSU.out, if_neg hto])
              clear hto dr fr hs1 ha
              go_wp2
              go_roundg q2
              case measure => omega
              case rel => exact ⟨j + 1, by omega, by go_num, by rw [HNX.out]; exact HROW.out, HBUT.out⟩
end Go.Proofs.Ytedajbpjokmlaaa
