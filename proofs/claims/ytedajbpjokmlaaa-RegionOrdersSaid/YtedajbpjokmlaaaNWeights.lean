/- The document's weights. -/
import Derived.Test.YtedajbpjokmlaaaNOrder
namespace Go.Proofs.Ytedajbpjokmlaaa
open Go Go.RowKit
set_option linter.unusedVariables false

def pairsK (l : List EdgeT) : List (Nat × Nat) := l.map fun e => (e.1, e.2.2.toNat)
theorem pairsK_succ {l : List EdgeT} {k : Nat} {e : EdgeT} (h : l[k]? = some e) : pairsK (l.take (k + 1)) = pairsK (l.take k) ++ [(e.1, e.2.2.toNat)] := by
  unfold pairsK; rw [take_at h, List.map_append]; rfl
theorem outsK_succ {l : List EdgeT} {k : Nat} {e : EdgeT} (h : l[k]? = some e) (i : Nat) : outs (pairsK (l.take (k + 1))) i = if e.1 = i then outs (pairsK (l.take k)) i ++ [e.2.2.toNat] else outs (pairsK (l.take k)) i := by
  rw [pairsK_succ h, outs_snoc]
theorem weights_drop {n : Nat} {E : List (Nat × Nat)} {D : List Nat} {j i : Nat} (h : D[j]? = some i) : weightsOf n E (D.drop j) = wStep E (weightsOf n E (D.drop (j + 1))) i := by
  obtain ⟨h1, h2⟩ := List.getElem?_eq_some_iff.1 h
  rw [List.drop_eq_getElem_cons h1, h2]
  rfl

set_option maxHeartbeats 4000000 in
set_option maxRecDepth 100000 in
theorem nweights_any (g : List GN) (c0 c1 c2 c3 c4 v5 : Value) (w : World) (hg : GraphAt w w.heap.size v5 g) (hlen : (edgesOf g).length ≤ 10000) (hgn : g.length ≤ 5000) :
    Calls Try.prog 21 #[.agg ⟨[c0, c1, c2, c3, c4, v5]⟩] w (TwoR w (weightsL g) (okOf g)) := by
  have HG := Lib.hid hg
  obtain ⟨hgl, A, c, rfl, hA⟩ := hg
  have HLEN := Lib.hid hlen
  have HG5 := Lib.hid hgn
  clear hA hlen hgl
  obtain ⟨i0, hi, hz0, hz1, hz2⟩ := info_parts' info_int
  have HI0 := Lib.hid hi
  have HZ0 := Lib.hid hz0
  have HZ1 := Lib.hid hz1
  have HZ2 := Lib.hid hz2
  clear hi hz0 hz1 hz2
  go_enter Try.func21, Try.ntmps21
  go_upto_region 1 with (fail)
  have HB := Lib.hid (box_below w (.cells ⟨[c0, c1, c2, c3, c4, .slice A g.length c]⟩ 27))
  have HSZ := Lib.hid (box_size w (.cells ⟨[c0, c1, c2, c3, c4, .slice A g.length c]⟩ 27))
  have HC5 := Lib.hid (cells_box w [c0, c1, c2, c3, c4, .slice A g.length c] 27 5 _ rfl)
  have HR := Lib.hid (range_box w [c0, c1, c2, c3, c4, .slice A g.length c] 27)
  generalize w.alloc (.cells ⟨[c0, c1, c2, c3, c4, .slice A g.length c]⟩ 27) = W at *
  have HCO := Lib.hid (norder_any g c0 c1 c2 c3 c4 (.slice A g.length c) W (HG.out.next HB.out) HLEN.out HG5.out)
  cases hok : okOf g with
  | false =>
    have HT := Lib.hid hok
    have HL : Hid (weightsL g = []) := Lib.hid (by unfold weightsL; rw [if_neg (by rw [hok]; simp)])
    rw [hok] at HCO
    clear hok
    go_wp2_with (first | ((with_reducible refine wl_sload 27 _ rfl ?hw2 w.heap.size 0 [c0, c1, c2, c3, c4, .slice A g.length c] _ rfl HR.out Try.underlying27 rfl ?hi2 ?_); (case hw2 => first | exact wanted_none rfl | exact wanted_if rfl rfl rfl rfl); (case hi2 => kernel_rfl)) | (go_at_call 20; refine HCO.out.mono ?_; rintro e w3 ⟨v3, rfl, hown3, hb3⟩; have HB3 := Lib.hid hb3; clear hown3 hb3))
    go_ret2
    exact ⟨.slice none 0 0, by rw [HT.out]; rfl, by rw [HL.out]; exact SlAt.nil _ _ _ _, HB.out.trans (HB3.out.mono HB.out.size)⟩
  | true =>
    have HT := Lib.hid hok
    have HL : Hid (weightsL g = weightsOf g.length (graphE g) (orderOf g.length (graphE g))) := Lib.hid (by unfold weightsL; rw [if_pos hok])
    have HOL : Hid (ordL g = natsI (orderOf g.length (graphE g))) := Lib.hid (by unfold ordL; rw [if_pos hok])
    have HIL : Hid ((orderOf g.length (graphE g)).length = g.length) := Lib.hid (by unfold okOf at hok; simpa using hok)
    rw [hok] at HCO
    clear hok
    go_upto_region 4 with (first | ((with_reducible refine wl_sload 27 _ rfl ?hw2 w.heap.size 0 [c0, c1, c2, c3, c4, .slice A g.length c] _ rfl HR.out Try.underlying27 rfl ?hi2 ?_); (case hw2 => first | exact wanted_none rfl | exact wanted_if rfl rfl rfl rfl); (case hi2 => kernel_rfl)) | (go_at_call 20; refine HCO.out.mono ?_; rintro e w3 ⟨v3, rfl, hown3, hb3⟩; rw [HOL.out] at hown3; have HO3 := Lib.hid hown3; have HB3 := Lib.hid hb3; clear hown3 hb3))
    have HB4 := Lib.hid (HB.out.trans (HB3.out.mono HB.out.size))
    have d5 := (HB3.out.cell (p := ⟨w.heap.size, 5, none⟩) HSZ.out).trans HC5.out
    have HR3 := Lib.hid (rangeAt_below HR.out HB3.out HSZ.out)
    have HS3 := Lib.hid (Nat.lt_of_lt_of_le HSZ.out HB3.out.size)
    have HGN : Hid (g.length ≤ 10000) := Lib.hid (by have := HG5.out; omega)
    have hgn2 : (g.length : Int) ≤ 5000 := by omega
    obtain ⟨A4, c4', hv4⟩ := own_sl HO3.out
    rw [natsI_len] at hv4
    subst hv4
    have HOA := Lib.hid (own_nats HO3.out (by rw [HIL.out]; exact HGN.out))
    clear HB HB3 HC5 HR HSZ HCO HO3
    go_upto_region 5 with ((with_reducible refine wl_make 34 3 _ _ rfl ?hw i0 (.int .i64 0) 8 g.length Try.underlying34 HI0.out HZ0.out HZ1.out HZ2.out (by decide) rfl ?hx ?hy HGN.out ?_); (case hw => first | exact wanted_none rfl | exact wanted_if rfl rfl rfl rfl); (case hx => rfl); (case hy => rfl); intro w4 hrow htag hb1 hs1; have HROW := Lib.hid hrow; have HB5 := Lib.hid hb1; have HS5 := Lib.hid hs1; clear hrow htag hb1 hs1)
    clear d5
    have HB6 := Lib.hid (HB4.out.trans (HB5.out.mono HB4.out.size))
    have HR4 := Lib.hid (rangeAt_below HR3.out HB5.out HS3.out)
    have HE := Lib.hid (nedges_any g c0 c1 c2 c3 c4 (.slice A g.length c) w4 (HG.out.next HB6.out) HLEN.out)
    go_upto_region 6 with (first | ((with_reducible refine wl_sload 27 _ rfl ?hw2 w.heap.size 0 [c0, c1, c2, c3, c4, .slice A g.length c] _ rfl HR4.out Try.underlying27 rfl ?hi2 ?_); (case hw2 => first | exact wanted_none rfl | exact wanted_if rfl rfl rfl rfl); (case hi2 => kernel_rfl)) | (go_at_call 47; refine HE.out.mono ?_; rintro e w5 ⟨v5, rfl, hown5, hb5⟩; have HO5 := Lib.hid hown5; have HB7 := Lib.hid hb5; clear hown5 hb5))
    obtain ⟨lb, hlb⟩ : ∃ r, w3.heap.size = r := ⟨_, rfl⟩
    have HDB : Hid (w.heap.size ≤ lb) := Lib.hid (by have := HS3.out; omega)
    have HDS : Hid (lb < w5.heap.size) := Lib.hid (by rw [← hlb]; exact Nat.lt_of_lt_of_le HS5.out HB7.out.size)
    have HRL5 : Hid (RowL w5 lb (List.replicate g.length 0)) := Lib.hid (RowL.of (by rw [← hlb]; exact HROW.out.below HB7.out HS5.out) (by simp) (fun i hi => by simp [List.getD_eq_getElem?_getD, hi]))
    have HBW5 := Lib.hid (HB6.out.trans (HB7.out.mono HB6.out.size))
    have HDS4 : Hid (lb < w4.heap.size) := Lib.hid (by rw [← hlb]; exact HS5.out)
    have HOA5 := Lib.hid ((HOA.out.below (HB5.out.trans (HB7.out.mono HB5.out.size))))
    rw [hlb] at HOA5
    rw [hlb]
    obtain ⟨hel, EA, ec, rfl, hea⟩ := HO5.out.at encE_len (Nat.le_trans (List.length_filter_le _ _) (by have := HLEN.out; omega))
    have HEB : Hid (0 < (okEs g).length → ∃ b o, EA = some ⟨b, o, none⟩ ∧ b < w5.heap.size ∧ b ≠ lb ∧ ∀ (i : Nat) x, (okEs g)[i]? = some x → w5.rangeAt b (o + i * 3) (encE x)) := Lib.hid fun h0 => by
      obtain ⟨b, o, rfl, hlt, hc⟩ := hea h0
      refine ⟨b, o, rfl, hlt, fun hne => ?_, fun i x hx => ?_⟩
      · have := HO5.out.block (b := b) rfl
        have := HDS4.out
        omega
      · obtain ⟨ks, h1, h2, h3⟩ := hc i x hx
        have h3' : ks = encE x := h3
        subst h3'
        exact h2
    have HEL : Hid ((okEs g).length ≤ 10000) := Lib.hid (Nat.le_trans (List.length_filter_le _ _) HLEN.out)
    have HEM := Lib.hid (fun e (he : e ∈ okEs g) => okEs_mem he)
    have HPG : Hid (graphE g = pairsK (okEs g)) := Lib.hid rfl
    have HDT := Lib.hid (order_topo (n := g.length) (E := graphE g) g.length (Topo.nil _ _))
    have HDN : Hid (∀ i ∈ orderOf g.length (graphE g), i < g.length) := Lib.hid HDT.out.lt
    clear hlb hel hea HO5 HB7 HROW HS5 HB6 HB5 HB4 HS3 HR3 HR4 HE HDS4 HOA HDT
    have hfold : (edgesOf g).filter (okE g.length) = okEs g := rfl
    rw [hfold]
    clear hfold
    generalize okEs g = Es at *
    have HWL := Lib.hid (fun D => weights_len g.length (graphE g) D)
    have HWI := Lib.hid (fun D => weights_in g.length (graphE g) D)
    have HWD := Lib.hid (fun D j i h => weights_drop (n := g.length) (E := graphE g) (D := D) (j := j) (i := i) h)
    generalize orderOf g.length (graphE g) = D at *
    have hle : (Es.length : Int) ≤ 10000 := by have := HEL.out; omega
    have hdl : (D.length : Int) ≤ 5000 := by have := HIL.out; omega
    have HR5 : Hid (RowL w5 lb (weightsOf g.length (graphE g) (D.drop D.length))) := Lib.hid (by rw [List.drop_length]; exact HRL5.out)
    obtain ⟨A4', c4'', hv4, hA4⟩ := HOA5.out.ex
    injection hv4 with e1 _ e2
    subst e1 e2
    have HA4 := Lib.hid hA4
    clear hA4
    go_wp2
    go_loopg [8] (D.length + 1) (fun q v u => ∃ m : Nat, m + 1 = q ∧ v = .int .i64 ((m : Int) - 1) ∧ m ≤ D.length ∧ RowL u lb (weightsOf g.length (graphE g) (D.drop m)) ∧ But w5 u lb lb)
    case atStart => exact ⟨D.length, rfl, by go_num, Nat.le_refl _, HR5.out, But.refl _ _ _⟩
    case round =>
      obtain ⟨m, rfl, rfl, hml, hrow, hbut⟩ := hrel
      clear HR5 HRL5
      have HROW := Lib.hid hrow
      have HBUT := Lib.hid hbut
      clear hrow hbut
      cases m with
      | zero =>
        have e0 : ((0 : Nat) : Int) - 1 = -1 := rfl
        rw [e0]
        have HBF := Lib.hid (HBW5.out.trans (HBUT.out.below HBW5.out.size HDB.out HDB.out))
        have HLW : Hid ((weightsOf g.length (graphE g) (D.drop 0)).length = g.length) := Lib.hid (HWL.out _)
        go_wp2
        go_ret2
        refine ⟨.slice (some ⟨lb, 0, none⟩) g.length g.length, by rw [HT.out]; rfl, ?_, HBF.out⟩
        have := HROW.out.ints (by rw [HLW.out]; exact HGN.out) (Nat.lt_of_lt_of_le HDS.out HBUT.out.size)
        rw [HLW.out] at this
        rw [HL.out]
        exact this
      | succ m =>
        have e0 : ((m + 1 : Nat) : Int) - 1 = (m : Int) := by omega
        rw [e0]
        obtain ⟨i, hi⟩ : ∃ i, D[m]? = some i := ⟨_, List.getElem?_eq_getElem (by omega)⟩
        have hin := HDN.out i (List.mem_of_getElem? hi)
        have hin2 : (i : Int) < (g.length : Int) := by omega
        have hm2 : (m : Int) < (D.length : Int) := by omega
        obtain ⟨b4, rfl, hb4, hc4⟩ := HA4.out (by omega)
        have h4 : b4 < w5.heap.size ∧ b4 ≠ lb := ⟨Nat.lt_trans hb4 HDS.out, by omega⟩
        have HD4 : Hid (∀ u, But w5 u lb lb → u.cell? ⟨b4, m, none⟩ = some (.int .i64 i)) := Lib.hid fun u hu => (hu.cell h4.1 h4.2 h4.2).trans (hc4 m i hi)
        have HWD2 := Lib.hid (HWD.out D m i hi)
        have HWI2 := Lib.hid (HWI.out (D.drop (m + 1)))
        have HWL2 := Lib.hid (HWL.out (D.drop (m + 1)))
        clear hi hc4 h4 hb4
        generalize weightsOf g.length (graphE g) (D.drop (m + 1)) = o at *
        go_wp2
        go_loopg [9, 10] Es.length (fun q fv kv u => ∃ k : Nat, k + q = Es.length ∧ kv = .int .i64 k ∧ fv = .int .i64 (wFold o (outs (pairsK (Es.take k)) i)) ∧ RowL u lb o ∧ But w5 u lb lb)
        case atStart => exact ⟨0, by omega, rfl, rfl, HROW.out, HBUT.out⟩
        case round =>
          obtain ⟨j, hj, rfl, rfl, hrow, hbut⟩ := hrel
          have HROW := Lib.hid hrow
          have HBUT := Lib.hid hbut
          clear hrow hbut
          have d4 := HD4.out wr HBUT.out
          cases gk with
          | zero =>
            obtain rfl : j = Es.length := by omega
            have hge : ¬ ((Es.length : Int) < (Es.length : Int)) := by omega
            rw [List.take_of_length_le (Nat.le_refl _), ← HPG.out]
            have HLI : Hid (i < o.length) := Lib.hid (by rw [HWL2.out]; exact hin)
            have dl := HROW.out.at HLI.out
            have fl := HROW.out.fz i HLI.out
            have HR6 : Hid (RowL (wr.setCell ⟨lb, i, none⟩ (.int .i64 (wFold o (outs (graphE g) i)))) lb (weightsOf g.length (graphE g) (D.drop m))) := Lib.hid (by rw [HWD2.out]; exact HROW.out.set HLI.out _)
            have HB6 : Hid (But w5 (wr.setCell ⟨lb, i, none⟩ (.int .i64 (wFold o (outs (graphE g) i)))) lb lb) := Lib.hid (HBUT.out.trans (But.set1 _ _ _ _ _))
            go_wp2
            go_roundg (m + 1)
            case measure => omega
            case rel => exact ⟨m, rfl, by go_num, by omega, HR6.out, HB6.out⟩
          | succ q2 =>
            have hlt3 : (j : Int) < (Es.length : Int) := by omega
            obtain ⟨e, he⟩ : ∃ e, Es[j]? = some e := ⟨_, List.getElem?_eq_getElem (by omega)⟩
            obtain ⟨b, o', rfl, hbl, hbd, hc⟩ := HEB.out (by omega)
            have HRE : Hid (∀ u, But w5 u lb lb → u.rangeAt b (o' + j * 3) (encE e)) := Lib.hid fun u hu x v hv => (hu.cell (o := o' + j * 3 + x) hbl hbd hbd).trans (hc j e he x v hv)
            have d0 : wr.cell? ⟨b, o' + j * 3, none⟩ = some (.int .i64 e.1) := range_cell (HRE.out wr HBUT.out) 0 rfl
            obtain ⟨hef, t, ht, htn⟩ := HEM.out e (List.mem_of_getElem? he)
            have HSU := Lib.hid (outsK_succ he i)
            have HWR := Lib.hid (wFold_range HWI2.out (outs (pairsK (Es.take j)) i))
            have HTN : Hid (e.2.2.toNat = t) := Lib.hid (by omega)
            clear hc he
            by_cases hto : e.1 = i
            · have HSU2 : Hid (wFold o (outs (pairsK (Es.take (j + 1))) i) = min (wFold o (outs (pairsK (Es.take j)) i) + o.getD t 0) 1000000000) := Lib.hid (by rw [HSU.out, if_pos hto, wFold_snoc, HTN.out])
              have t1 : ((e.1 : Int) == (i : Int)) = true := by simp; omega
              have htn2 : (t : Int) < (g.length : Int) := by omega
              have HLT : Hid (t < o.length) := Lib.hid (by rw [HWL2.out]; exact htn)
              have hti := inW_at HWI2.out t
              have hs1 := HWR.out
              clear hto
              go_upto_region 13 with (fail)
              go_quiet (fail)
              have HB6 : Hid (But w5 (wr.drewN nq) lb lb) := Lib.hid (HBUT.out.trans (But.of_below (below_drewN (Below.refl _ wr) nq) _ _))
              have HR6 : Hid (RowL (wr.drewN nq) lb o) := Lib.hid (RowL.keep HROW.out rfl)
              clear d4 d0 t1
              generalize wr.drewN nq = wq at *
              have d2 := range_cell (HRE.out wq HB6.out) 2 (v := .int .i64 e.2.2) rfl
              rw [ht] at d2
              have dt := HR6.out.at HLT.out
              generalize wFold o (outs (pairsK (Es.take j)) i) = s at *
              generalize o.getD t 0 = y at *
              have hs3 : s ≤ 1000000000 := hs1.2
              have hs4 : 1 ≤ s := hs1.1
              have hy3 : y ≤ 1000000000 := hti.2
              have hy4 : 0 ≤ y := hti.1
              have hwr : IntKind.i64.wrap (s + y) = s + y := by rw [IntKind.wrap_i64]; omega
              clear hs1 hti
              go_wp2
              go_roundg q2
              case measure => omega
              case rel => exact ⟨j + 1, by omega, by go_num, by rw [HSU2.out], HR6.out, HB6.out⟩
            · have HSU2 : Hid (wFold o (outs (pairsK (Es.take (j + 1))) i) = wFold o (outs (pairsK (Es.take j)) i)) := Lib.hid (by rw [HSU.out, if_neg hto])
              have t1 : ((e.1 : Int) == (i : Int)) = false := by simp; omega
              clear hto
              go_upto_region 13 with (fail)
              go_quiet (fail)
              have HB6 : Hid (But w5 (wr.drewN nq) lb lb) := Lib.hid (HBUT.out.trans (But.of_below (below_drewN (Below.refl _ wr) nq) _ _))
              have HR6 : Hid (RowL (wr.drewN nq) lb o) := Lib.hid (RowL.keep HROW.out rfl)
              clear d4 d0 t1
              go_wp2
              go_roundg q2
              case measure => omega
              case rel => exact ⟨j + 1, by omega, by go_num, by rw [HSU2.out], HR6.out, HB6.out⟩
end Go.Proofs.Ytedajbpjokmlaaa
