/- region.Weights. -/
import Derived.Test.YtedajbpjokmlaaaInRegion
import Derived.Sort.CutIn
namespace Go.Proofs.Ytedajbpjokmlaaa
open Go Go.RowKit Go.Shelf
set_option linter.unusedVariables false
attribute [local go_sem] Oper.semAt_some

theorem orderOf_len_eq {n : Nat} {E : List (Nat × Nat)} (h : ((orderOf n E).length == n) = true) : (orderOf n E).length = n := by simpa using h
def wPre {n : Nat} (E : List (Nat × Nat)) (pre : List (NP n)) : List Int := pre.foldl (fun o (x : NP n) => wStep E o x.1.2) (List.replicate n 0)
theorem wPre_snoc {n : Nat} (E : List (Nat × Nat)) (pre : List (NP n)) (x : NP n) : wPre E (pre ++ [x]) = wStep E (wPre E pre) x.1.2 := by simp [wPre, List.foldl_append]
theorem wPre_of {n : Nat} (E : List (Nat × Nat)) (pre : List (NP n)) : wPre E pre = weightsOf n E (pre.map (fun x => x.1.2)).reverse := by
  unfold wPre weightsOf
  rw [List.foldr_reverse, List.foldl_map]
theorem wPre_end {n : Nat} {E : List (Nat × Nat)} {pre : List (NP n)} {D : List Nat} (h : pre.map (fun x => x.1.2) = D.reverse) : wPre E pre = weightsOf n E D := by rw [wPre_of, h, List.reverse_reverse]
theorem But.weak {w W : World} {q : Nat} (h : But w W q q) (p : Nat) : But w W p q := ⟨h.os, h.tape, h.output, h.size, fun b hb _ h2 => h.block b hb h2 h2⟩
def weightsL (g : List GN) : List Int := if okOf g = true then weightsOf g.length (graphE g) (orderOf g.length (graphE g)) else []

set_option maxHeartbeats 4000000 in
set_option maxRecDepth 100000 in
theorem weights_any (g : List GN) (c0 c1 c2 c3 c4 v5 : Value) (w : World) (hg : GraphAt w w.heap.size v5 g) (hlen : (edgesOf g).length ≤ 10000) (hgn : g.length ≤ 10000) :
    Calls Try.prog 16 #[.agg ⟨[c0, c1, c2, c3, c4, v5]⟩] w (TwoR w (weightsL g) (okOf g)) := by
  have HG := Lib.hid hg
  have HLEN := Lib.hid hlen
  have HGN := Lib.hid hgn
  have HEL := Lib.hid (Nat.le_trans (graphE_len g) hlen)
  have HGE := Lib.hid (graphE_lt (g := g))
  clear hg hlen
  refine (callsIn_wide (n := 9)).1 ?_
  refine callsIn_of_wp_marks Try.func16 rfl trivial ?_ rfl
  refine wpIn_wide.2 ?_
  simp only [Try.ntmps16, List.size_toArray, List.length_cons, List.length_nil, Nat.reduceAdd, Nat.reduceSub, Array.replicate_succ, Array.replicate_zero, List.push_toArray, List.append_toArray, List.nil_append, List.cons_append]
  go_upto_region 1 with (fail)
  have HB0 := Lib.hid (box_below w (.cells ⟨[c0, c1, c2, c3, c4, v5]⟩ 27))
  have HS0 := Lib.hid (box_size w (.cells ⟨[c0, c1, c2, c3, c4, v5]⟩ 27))
  have HR0 := Lib.hid (range_box w [c0, c1, c2, c3, c4, v5] 27)
  have HSE : Hid ((w.alloc (.cells ⟨[c0, c1, c2, c3, c4, v5]⟩ 27)).heap.size = w.heap.size + 1) := Lib.hid (by simp)
  generalize w.alloc (.cells ⟨[c0, c1, c2, c3, c4, v5]⟩ 27) = W0 at *
  have HX1 := Lib.hid (Box1.new W0 (.slice none 0 0) 34)
  have HB1 := Lib.hid (HB0.out.alloc HB0.out.size (.cells #[.slice none 0 0] 34))
  have HR1 := Lib.hid (rangeAt_below HR0.out (box_below W0 (.cells #[.slice none 0 0] 34)) HS0.out)
  have HS1 := Lib.hid (Nat.lt_trans HS0.out (box_size W0 (.cells #[.slice none 0 0] 34)))
  rw [HSE.out] at HX1
  generalize W0.alloc (.cells #[.slice none 0 0] 34) = W at *
  have HC1 := Lib.hid (graphOf_any g c0 c1 c2 c3 c4 v5 w.heap.size W (HG.out.next HB1.out) HR1.out HS1.out HLEN.out HGN.out)
  clear HB0 HS0 HR0
  obtain ⟨lb1, hlb1⟩ : ∃ r, w.heap.size + 1 = r := ⟨_, rfl⟩
  rw [hlb1] at HX1
  rw [hlb1]
  have HL1 : Hid (w.heap.size ≤ lb1) := Lib.hid (by omega)
  clear hlb1 HSE
  go_upto_region 2 with (first | (go_at_call 33; refine HC1.out.mono ?_; rintro e w3 ⟨gb, tb, fb, V, rfl, hgat, hb3⟩; have HB3 := Lib.hid hb3; have HGA := Lib.hid hgat; clear hgat hb3; have HX := Lib.hid (fun (z : Value) => (Box1.new w3 z 71))))
  have HX4 := Lib.hid (HX.out (.pointer (some ⟨gb, 0, none⟩)))
  have HB4 := Lib.hid (box_below w3 (.cells #[.pointer (some ⟨gb, 0, none⟩)] 71))
  have HXL3 := Lib.hid (HX1.out.below HB3.out HX1.out.lt)
  have HXL4 := Lib.hid (HXL3.out.below HB4.out HXL3.out.lt)
  have HGB : Hid (gb ≠ lb1) := Lib.hid fun e => by
    have h1 := HGA.out.c1
    rw [e, HXL3.out.one] at h1
    cases h1
  have HOU := Lib.hid (fun q => GAt.outs (q := q) HGA.out HEL.out HX1.out.lt HGB.out)
  have HG4 := Lib.hid (HGA.out.below HB4.out)
  have HBW4 := Lib.hid (HB1.out.trans ((HB3.out.trans (HB4.out.mono HB3.out.size)).mono HB1.out.size))
  have HNE : Hid (lb1 < w3.heap.size) := Lib.hid HXL3.out.lt
  clear HX HX1 HXL3 HGA HC1 HR1 HS1 HB1 HB3 HG
  obtain ⟨gx, hgx⟩ : ∃ r, w3.heap.size = r := ⟨_, rfl⟩
  have HOU4 : Hid (∀ q, gx ≤ q → OutsAt (w3.alloc (.cells #[.pointer (some ⟨gb, 0, none⟩)] 71)) lb1 q gb g.length (graphE g)) := Lib.hid fun q hq => (HOU.out q (by omega)).but (But.of_below HB4.out _ _)
  have HL4' : Hid (lb1 < (w3.alloc (.cells #[.pointer (some ⟨gb, 0, none⟩)] 71)).heap.size) := Lib.hid HXL4.out.lt
  have HNE2 : Hid (lb1 < gx) := Lib.hid (by have := HNE.out; omega)
  rw [hgx] at HX4
  rw [hgx]
  clear HOU HB4 HNE hgx
  generalize w3.alloc (.cells #[.pointer (some ⟨gb, 0, none⟩)] 71) = W4 at *
  have HC2 := Lib.hid (gorder_any gb tb fb g.length _ V (graphE g) W4 HG4.out HGN.out HEL.out HGE.out)
  have d4 := HX4.out.cell
  clear HG4
  cases hok : okOf g with
  | false =>
    have HOK : Hid (((orderOf g.length (graphE g)).length == g.length) = false) := Lib.hid hok
    have HL : Hid (weightsL g = []) := Lib.hid (by unfold weightsL; rw [if_neg (by rw [hok]; simp)])
    have HT := Lib.hid hok
    clear hok
    go_upto_region 3 with (go_at_call 42; refine HC2.out.mono ?_; rintro e w5 ⟨v5', rfl, hown5, hb5⟩; rw [HOK.out]; have HB5 := Lib.hid hb5; clear hown5 hb5)
    have HXL5 := Lib.hid (HXL4.out.below HB5.out HXL4.out.lt)
    have dl := HXL5.out.cell
    have fl := HXL5.out.fz
    have HXL6 := Lib.hid (HXL5.out.set (.slice none 0 0))
    have HBW5 := Lib.hid (below_set (i := 0) (HBW4.out.trans (HB5.out.mono HBW4.out.size)) HL1.out (.slice none 0 0))
    go_wp2
    refine ⟨.tuple #[.slice none 0 0, .bool false], ?_, .slice none 0 0, by rw [HT.out], by rw [HL.out]; exact SlAt.nil _ _ _ _, HBW5.out⟩
    simp [results, Try.f16, go_sem, HXL6.out.cell]
  | true =>
    have HOK : Hid (((orderOf g.length (graphE g)).length == g.length) = true) := Lib.hid hok
    have HL : Hid (weightsL g = weightsOf g.length (graphE g) (orderOf g.length (graphE g))) := Lib.hid (by unfold weightsL; rw [if_pos hok])
    have HT := Lib.hid hok
    clear hok
    obtain ⟨i0, hi, hz0, hz1, hz2⟩ := info_parts' info_int
    have HI0 := Lib.hid hi
    have HZ0 := Lib.hid hz0
    have HZ1 := Lib.hid hz1
    have HZ2 := Lib.hid hz2
    clear hi hz0 hz1 hz2
    go_upto_region 3 with (go_at_call 42; refine HC2.out.mono ?_; rintro e w5 ⟨v5', rfl, hown5, hb5⟩; rw [HOK.out]; have HO5 := Lib.hid hown5; have HB5 := Lib.hid hb5; clear hown5 hb5)
    have HXL5 := Lib.hid (HXL4.out.below HB5.out HXL4.out.lt)
    have HXG5 := Lib.hid (HX4.out.below HB5.out HX4.out.lt)
    have HOU5 := Lib.hid (fun q hq => (HOU4.out q hq).but (But.of_below HB5.out _ _))
    have HBW5 := Lib.hid (HBW4.out.trans (HB5.out.mono HBW4.out.size))
    have HGX : Hid (gx < w5.heap.size) := Lib.hid HXG5.out.lt
    have dn := (HOU5.out gx (Nat.le_refl _)).c0
    have dg := HXG5.out.cell
    clear d4 HC2 HXL4 HX4 HOU4 HBW4
    go_upto_region 6 with ((with_reducible refine wl_make 34 3 _ _ rfl ?hw i0 (.int .i64 0) 8 g.length Try.underlying34 HI0.out HZ0.out HZ1.out HZ2.out (by decide) rfl ?hx ?hy HGN.out ?_); (case hw => first | exact wanted_none rfl | exact wanted_if rfl rfl rfl rfl); (case hx => rfl); (case hy => rfl); intro w6 hrow htag hb6 hs6; have HROW := Lib.hid hrow; have HB6 := Lib.hid hb6; have HS6 := Lib.hid hs6; have d1 := (HXL5.out.below hb6 HXL5.out.lt).cell; have d1f := (HXL5.out.below hb6 HXL5.out.lt).fz; clear hrow htag hb6 hs6)
    have HLT : Hid (lb1 < gx ∧ gx < w5.heap.size) := Lib.hid ⟨HNE2.out, HGX.out⟩
    have HL4 : Hid (lb1 < W4.heap.size) := Lib.hid HL4'.out
    have HXL7 := Lib.hid (((HXL5.out.below HB6.out HXL5.out.lt)).set (.slice (some ⟨w5.heap.size, 0, none⟩) g.length g.length))
    have HBT7 : Hid (But w5 (w6.setCell ⟨lb1, 0, none⟩ (.slice (some ⟨w5.heap.size, 0, none⟩) g.length g.length)) lb1 w5.heap.size) := Lib.hid ((But.of_below HB6.out _ _).trans (But.set1 _ _ _ _ _))
    have HXG7 := Lib.hid (HXG5.out.keep (HBT7.out.block gx HGX.out (by have := HNE2.out; omega) (by have := HGX.out; omega)))
    have HOU7 := Lib.hid ((HOU5.out w5.heap.size (Nat.le_of_lt HGX.out)).but HBT7.out)
    have HRL7 : Hid (RowL (w6.setCell ⟨lb1, 0, none⟩ (.slice (some ⟨w5.heap.size, 0, none⟩) g.length g.length)) w5.heap.size (List.replicate g.length 0)) := Lib.hid (RowL.of (HROW.out.keep (Below.heap_setCell w6 ⟨lb1, 0, none⟩ _ w5.heap.size (by have := HLT.out; show w5.heap.size ≠ lb1; omega))) (by simp) (fun i hi => by simp [List.getD_eq_getElem?_getD, hi]))
    have HBW7 := Lib.hid (below_set (i := 0) (HBW5.out.trans (HB6.out.mono HBW5.out.size)) HL1.out (.slice (some ⟨w5.heap.size, 0, none⟩) g.length g.length))
    have HS7 : Hid (w5.heap.size < (w6.setCell ⟨lb1, 0, none⟩ (.slice (some ⟨w5.heap.size, 0, none⟩) g.length g.length)).heap.size) := Lib.hid (by simpa [World.setCell] using HS6.out)
    obtain ⟨A5, c5, hv5⟩ := own_sl HO5.out
    subst hv5
    have HDT := Lib.hid (order_topo (n := g.length) (E := graphE g) g.length (Topo.nil _ _))
    have HDL : Hid ((orderOf g.length (graphE g)).length ≤ 10000) := Lib.hid (Nat.le_trans HDT.out.len HGN.out)
    rw [natsI_len]
    have HOA5 := Lib.hid (own_nats HO5.out HDL.out)
    have HA5 : Hid (∀ b, A5 = some ⟨b, 0, none⟩ → b < w5.heap.size ∧ b ≠ lb1 ∧ b ≠ w5.heap.size) := Lib.hid fun b e => by
      subst e
      have h1 := HO5.out.block (b := b) rfl
      have h2 := HO5.out.lt (b := b) rfl
      have := HL4.out
      omega
    rw [natsI_len] at HOA5
    have HOA7 : Hid (OutAt (w6.setCell ⟨lb1, 0, none⟩ (.slice (some ⟨w5.heap.size, 0, none⟩) g.length g.length)) (w6.setCell ⟨lb1, 0, none⟩ (.slice (some ⟨w5.heap.size, 0, none⟩) g.length g.length)).heap.size (.slice A5 (orderOf g.length (graphE g)).length c5) (orderOf g.length (graphE g))) := Lib.hid (by
      obtain ⟨A, c, hv, hA⟩ := HOA5.out.ex
      injection hv with e1 _ e2
      subst e1 e2
      refine ⟨A5, c5, rfl, fun h0 => ?_⟩
      obtain ⟨b, hb, h1, h2⟩ := hA h0
      obtain ⟨h3, h4, h5⟩ := HA5.out b hb
      exact ⟨b, hb, Nat.lt_trans h1 HS7.out, fun i x hx => (HBT7.out.cell h3 h4 h5).trans (h2 i x hx)⟩)
    obtain ⟨lb, hlb⟩ : ∃ r, w5.heap.size = r := ⟨_, rfl⟩
    rw [hlb] at HBT7 HOU7 HRL7 HBW7 HS7 HXL7 HXG7 HOA7 HLT HA5
    rw [hlb]
    clear hlb HROW HB6 HS6 d1 d1f dn dg HXL5 HXG5 HOU5 HBW5 HGX HO5 HOA5 HB5 HL4 HL4' HBT7
    generalize w6.setCell ⟨lb1, 0, none⟩ (.slice (some ⟨lb, 0, none⟩) g.length g.length) = W7 at *
    go_wp2_with (go_at_call 43; refine (back_any _ _ _ _).mono ?_; rintro e w8 ⟨rfl, rfl⟩)
    have HXL8 := Lib.hid (HXL7.out.below (box_below W7 (.cells #[.slice A5 (orderOf g.length (graphE g)).length c5] 34)) HXL7.out.lt)
    have HXG8 := Lib.hid (HXG7.out.below (box_below W7 (.cells #[.slice A5 (orderOf g.length (graphE g)).length c5] 34)) HXG7.out.lt)
    have HRL8 := Lib.hid (HRL7.out.below (box_below W7 (.cells #[.slice A5 (orderOf g.length (graphE g)).length c5] 34)) HS7.out)
    have HOU8 := Lib.hid (HOU7.out.but (But.of_below (box_below W7 (.cells #[.slice A5 (orderOf g.length (graphE g)).length c5] 34)) _ _))
    have HBW8 := Lib.hid (HBW7.out.alloc HBW7.out.size (.cells #[.slice A5 (orderOf g.length (graphE g)).length c5] 34))
    have HBX8 := Lib.hid (Box1.new W7 (.slice A5 (orderOf g.length (graphE g)).length c5) 34)
    have HS8 := Lib.hid (Nat.lt_trans HS7.out (box_size W7 (.cells #[.slice A5 (orderOf g.length (graphE g)).length c5] 34)))
    have HOA8 : Hid (OutAt (W7.alloc (.cells #[.slice A5 (orderOf g.length (graphE g)).length c5] 34)) (W7.alloc (.cells #[.slice A5 (orderOf g.length (graphE g)).length c5] 34)).heap.size (.slice A5 (orderOf g.length (graphE g)).length c5) (orderOf g.length (graphE g))) := Lib.hid (by
      obtain ⟨A, c, hv, hA⟩ := (HOA7.out.below (box_below W7 (.cells #[.slice A5 (orderOf g.length (graphE g)).length c5] 34))).ex
      refine ⟨A, c, hv, fun h0 => ?_⟩
      obtain ⟨b, hb, h1, h2⟩ := hA h0
      exact ⟨b, hb, Nat.lt_trans h1 (box_size _ _), h2⟩)
    have HLB : Hid (lb < W7.heap.size) := Lib.hid HS7.out
    have HA5' : Hid (∀ b, A5 = some ⟨b, 0, none⟩ → b < (W7.alloc (.cells #[.slice A5 (orderOf g.length (graphE g)).length c5] 34)).heap.size ∧ b ≠ lb) := Lib.hid fun b e => ⟨Nat.lt_trans (HA5.out b e).1 HS8.out, (HA5.out b e).2.2⟩
    clear HXL7 HXG7 HRL7 HOU7 HBW7 HOA7 HS7 HA5
    obtain ⟨Bs, hBs⟩ : ∃ r, W7.heap.size = r := ⟨_, rfl⟩
    rw [hBs] at HBX8 HLB
    rw [hBs]
    clear hBs
    generalize W7.alloc (.cells #[.slice A5 (orderOf g.length (graphE g)).length c5] 34) = W8 at *
    have HIL := Lib.hid (orderOf_len_eq HOK.out)
    refine (wpIn_wide (n := 9)).1 ?_
    refine wpIn_rangeFunc_ownF (α := NP g.length) rfl (by omega) (gf := 62) (lb := #[.pointer (some ⟨Bs, 0, none⟩)]) rfl trivial (enters_of Try.func62 (by kernel_rfl) rfl)
      (Kp := fun W W' => W'.heap[Bs]? = W.heap[Bs]? ∧ ∀ b, A5 = some ⟨b, 0, none⟩ → W'.heap[b]? = W.heap[b]?)
      (back_stops Fence.wide (9 - 1) trivial rfl (by omega) Bs c5 A5 (orderOf g.length (graphE g)) HDT.out.lt HDL.out W8 HBX8.out.lt HBX8.out.cell HOA8.out _ (fun b hb W W' h => h.2 b hb) (fun W W' h => h.1))
      (fun h k => ⟨k.1.trans h.1, fun b hb => (k.2 b hb).trans (h.2 b hb)⟩) (fun W l o o' hl _ _ _ => ⟨World.putObj_heap_other (by have := HBX8.out.lt; omega), fun b hb => World.putObj_heap_other (by have := (HA5'.out b hb).1; omega)⟩)
      (Below.refl _ _) (fun _ => rfl)
      (fun (pre : List (NP g.length)) W => RowL W lb (wPre (graphE g) pre) ∧ But W8 W lb lb)
      (fun _ _ _ => False)
      (fun s A B row hs hg hr => ⟨hs.1.keep (hg.block lb (Nat.lt_of_lt_of_le HS8.out hs.2.size) (fun e => by have := (hr lb e.symm).1; have := HS8.out; omega)), hs.2.own hg (fun r e => (hr r e).1)⟩)
      (fun _ _ _ _ _ hs _ _ => hs)
      ⟨HRL8.out, But.refl _ _ _⟩ ?a1 ?assign ?body ?done ?stop
    case stop =>
      rintro D c pre W _ _ h _
      exact h.elim
    case assign =>
      intro l x W K hK
      simp only [encP]
      gi_wp2
      exact hK
    case body =>
      rintro l pre x W ⟨hrow, hbut⟩ hlt
      have HPL : Hid ((wPre (graphE g) pre).length = g.length) := Lib.hid (by rw [wPre_of, weights_len])
      have HPI : Hid (inW (wPre (graphE g) pre)) := Lib.hid (by rw [wPre_of]; exact weights_in _ _ _)
      have HPS := Lib.hid (wPre_snoc (graphE g) pre x)
      generalize wPre (graphE g) pre = o at *
      obtain ⟨⟨xi, i⟩, hi⟩ := x
      have hin : i < g.length := hi
      have hin2 : (i : Int) < (g.length : Int) := by omega
      have HROW := Lib.hid hrow
      have HBUT := Lib.hid hbut
      clear hrow hbut hlt
      have HIO : Hid (i ∉ outs (graphE g) i) := Lib.hid fun h => HDT.out.acyclic (HDT.out.all HIL.out hin) (Way.one (mem_outs.1 h))
      have HNL : Hid (lb1 ≠ lb ∧ gx ≠ lb) := Lib.hid (by have := HLT.out; omega)
      have dl := (HBUT.out.cell (o := 0) HXL8.out.lt HNL.out.1 HNL.out.1).trans HXL8.out.cell
      have HIL2 : Hid (i < o.length) := Lib.hid (by rw [HPL.out]; exact hin)
      have dr := HROW.out.at HIL2.out
      have fr := HROW.out.fz i HIL2.out
      have HR1 := Lib.hid (HROW.out.set HIL2.out 1)
      have HB1 : Hid (But W8 (W.setCell ⟨lb, i, none⟩ (.int .i64 1)) lb lb) := Lib.hid (HBUT.out.trans (But.set1 _ _ _ _ _))
      have HK1 : Hid (KeepsOthers W (W.setCell ⟨lb, i, none⟩ (.int .i64 1))) := Lib.hid (KeepsOthers.setCell _ _ _)
      gi_upto_region 9 with (fail)
      clear dl dr fr HROW
      generalize W.setCell ⟨lb, i, none⟩ (.int .i64 1) = W1 at *
      have HOU := Lib.hid (HOU8.out.but (HB1.out.weak lb1))
      obtain ⟨_, _, tb2, ⟨ht1, ht2, ht3⟩, hc1, hrw⟩ := HOU.out
      obtain ⟨A, c, hr1, hr2⟩ := hrw i hin
      have HR2 := Lib.hid hr2
      have dg := (HB1.out.cell (o := 0) HXG8.out.lt HNL.out.2 HNL.out.2).trans HXG8.out.cell
      clear hr2 hrw ht1 ht2 ht3
      have HOL := Lib.hid (Nat.le_trans (outs_len (graphE g) i) HEL.out)
      gi_wp2
      clear dg hc1 hr1
      gi_loopg [38] (outs (graphE g) i).length (fun q v u => ∃ j : Nat, j + q = (outs (graphE g) i).length ∧ v = .int .i64 j ∧ RowL u lb (o.set i (wFold o ((outs (graphE g) i).take j))) ∧ But W8 u lb lb ∧ KeepsOthers W u ∧ But W1 u lb lb)
      case atStart => exact ⟨0, by omega, rfl, HR1.out, HB1.out, HK1.out, But.refl _ _ _⟩
      case round =>
        obtain ⟨j, hj, rfl, hrow, hbut, hko, hb1⟩ := hrel
        have HROW := Lib.hid hrow
        have HBJ := Lib.hid hbut
        have HKO := Lib.hid hko
        have HBW := Lib.hid hb1
        clear hrow hbut hko hb1
        cases gk with
        | zero =>
          obtain rfl : j = (outs (graphE g) i).length := by omega
          have hge : ¬ (((outs (graphE g) i).length : Int) < ((outs (graphE g) i).length : Int)) := by omega
          gi_wp2
          refine ⟨HKO.out, ⟨?_, fun b hb => ?_⟩, ?_, HBJ.out⟩
          · have h1 := HBX8.out.lt
            have h2 := HLB.out
            rw [HBJ.out.block Bs h1 (by omega) (by omega), HBUT.out.block Bs h1 (by omega) (by omega)]
          · obtain ⟨h1, h2⟩ := HA5'.out b hb
            rw [HBJ.out.block b h1 h2 h2, HBUT.out.block b h1 h2 h2]
          · rw [HPS.out]
            show RowL wr lb (o.set i (wFold o (outs (graphE g) i)))
            have := HROW.out
            rwa [List.take_of_length_le (Nat.le_refl _)] at this
        | succ q =>
          have hlt : (j : Int) < ((outs (graphE g) i).length : Int) := by omega
          have hol : ((outs (graphE g) i).length : Int) ≤ 10000 := by have := HOL.out; omega
          obtain ⟨x, hx⟩ : ∃ x, (outs (graphE g) i)[j]? = some x := ⟨_, List.getElem?_eq_getElem (by omega)⟩
          have hxn : x < g.length := (HGE.out (i, x) (mem_outs.1 (List.mem_of_getElem? hx))).2
          have hxi : x ≠ i := fun h => HIO.out (by have := List.mem_of_getElem? hx; rwa [h] at this)
          obtain ⟨b, rfl, ⟨hb1, hb2, hb3⟩, hc⟩ := HR2.out (by omega)
          have da := (HBW.out.cell (o := j) hb1 hb3 hb3).trans (hc j x hx)
          have hx2 : (x : Int) < (g.length : Int) := by omega
          have dl := (HBJ.out.cell (o := 0) HXL8.out.lt HNL.out.1 HNL.out.1).trans HXL8.out.cell
          have HLI : Hid (i < (o.set i (wFold o ((outs (graphE g) i).take j))).length) := Lib.hid (by rw [List.length_set]; exact HIL2.out)
          have HLX : Hid (x < (o.set i (wFold o ((outs (graphE g) i).take j))).length) := Lib.hid (by rw [List.length_set, HPL.out]; exact hxn)
          have dr := HROW.out.at HLI.out
          have dx := HROW.out.at HLX.out
          have fr := HROW.out.fz i HLI.out
          rw [getD_set HIL2.out, if_pos rfl] at dr
          rw [getD_set HIL2.out, if_neg hxi] at dx
          have hs1 := wFold_range HPI.out ((outs (graphE g) i).take j)
          have hs2 := inW_at HPI.out x
          have HNX : Hid (o.set i (wFold o ((outs (graphE g) i).take (j + 1))) = (o.set i (wFold o ((outs (graphE g) i).take j))).set i (min (wFold o ((outs (graphE g) i).take j) + o.getD x 0) 1000000000)) := Lib.hid (by rw [take_at hx, wFold_snoc, List.set_set])
          generalize wFold o ((outs (graphE g) i).take j) = s at *
          generalize o.getD x 0 = t at *
          have hs3 : s ≤ 1000000000 := hs1.2
          have hs4 : 1 ≤ s := hs1.1
          have ht3 : t ≤ 1000000000 := hs2.2
          have ht4 : 0 ≤ t := hs2.1
          clear hc hx hs1 hs2 hxi
          gi_upto_region 12 with (fail)
          have HFR := Lib.hid fr
          have HLBR : Hid (lb < wr.heap.size) := Lib.hid (Nat.lt_of_lt_of_le HS8.out HBJ.out.size)
          have hwr : IntKind.i64.wrap (s + t) = s + t := by rw [IntKind.wrap_i64]; omega
          have hs : wr.drew.cell? ⟨lb1, 0, none⟩ = some (.slice (some ⟨lb, 0, none⟩) g.length g.length) ∧ wr.drew.cell? ⟨lb, i, none⟩ = some (.int .i64 s) ∧ wr.drew.cell? ⟨lb, x, none⟩ = some (.int .i64 t) := ⟨dl, dr, dx⟩
          refine wpIn_region_ord_tail 13 [(0, true), (1, true), (2, true), (3, true), (4, true), (5, true), (6, true), (7, true), (8, true), (9, true), (10, true), (11, true), (12, true)]
            (fun z => z.cell? ⟨lb1, 0, none⟩ = some (.slice (some ⟨lb, 0, none⟩) g.length g.length) ∧ z.cell? ⟨lb, i, none⟩ = some (.int .i64 s) ∧ z.cell? ⟨lb, x, none⟩ = some (.int .i64 t)) (by kernel_rfl) (by kernel_rfl) rfl (by kernel_rfl) _ (fun _ _ h => h) ?_
          clear dl dr dx fr
          refine ord_load (some 42) (.slice (some ⟨lb, 0, none⟩) g.length g.length) _ rfl rfl (by first | exact wanted_none rfl | exact wanted_if rfl rfl rfl rfl) hs (fun z hz => by have dd := hz.1; go_simp) ?_
          go_frame
          refine ord_move (some 43) (.int .i64 i) _ _ rfl rfl rfl (by first | exact wanted_none rfl | exact wanted_if rfl rfl rfl rfl) hs rfl ?_
          go_frame
          refine ord_load (some 44) (.slice (some ⟨lb, 0, none⟩) g.length g.length) _ rfl rfl (by first | exact wanted_none rfl | exact wanted_if rfl rfl rfl rfl) hs (fun z hz => by have dd := hz.1; go_simp) ?_
          go_frame
          refine ord_move (some 45) (.int .i64 i) _ _ rfl rfl rfl (by first | exact wanted_none rfl | exact wanted_if rfl rfl rfl rfl) hs rfl ?_
          go_frame
          refine ord_load (some 46) (.pointer (some ⟨lb, i, none⟩)) _ rfl rfl (by first | exact wanted_none rfl | exact wanted_if rfl rfl rfl rfl) hs (fun z hz => by go_simp) ?_
          go_frame
          refine ord_load (some 47) (.int .i64 s) _ rfl rfl (by first | exact wanted_none rfl | exact wanted_if rfl rfl rfl rfl) hs (fun z hz => by have dd := hz.2.1; go_simp) ?_
          go_frame
          refine ord_load (some 48) (.slice (some ⟨lb, 0, none⟩) g.length g.length) _ rfl rfl (by first | exact wanted_none rfl | exact wanted_if rfl rfl rfl rfl) hs (fun z hz => by have dd := hz.1; go_simp) ?_
          go_frame
          refine ord_move (some 49) (.int .i64 x) _ _ rfl rfl rfl (by first | exact wanted_none rfl | exact wanted_if rfl rfl rfl rfl) hs rfl ?_
          go_frame
          refine ord_load (some 50) (.pointer (some ⟨lb, x, none⟩)) _ rfl rfl (by first | exact wanted_none rfl | exact wanted_if rfl rfl rfl rfl) hs (fun z hz => by go_simp) ?_
          go_frame
          refine ord_load (some 51) (.int .i64 t) _ rfl rfl (by first | exact wanted_none rfl | exact wanted_if rfl rfl rfl rfl) hs (fun z hz => by have dd := hz.2.2; go_simp) ?_
          go_frame
          refine ord_load (some 52) (.int .i64 (s + t)) _ rfl rfl (by first | exact wanted_none rfl | exact wanted_if rfl rfl rfl rfl) hs (fun z hz => by go_simp; done) ?_
          go_frame
          refine ord_load (some 53) (.int .i64 (min (s + t) 1000000000)) _ rfl rfl (by first | exact wanted_none rfl | exact wanted_if rfl rfl rfl rfl) hs (fun z hz => by go_simp; done) ?_
          go_frame
          refine ord_load (some 54) (.pointer (some ⟨lb, i, none⟩)) _ rfl rfl (by first | exact wanted_none rfl | exact wanted_if rfl rfl rfl rfl) hs (fun z hz => by go_simp) ?_
          go_frame
          refine ord_tail ?_
          have d7 := hs.2.1
          have f7 : wr.drew.frozen? ⟨lb, i, none⟩ = false := HFR.out
          have HB7 : Hid (But W8 (wr.drew.setCell ⟨lb, i, none⟩ (.int .i64 (min (s + t) 1000000000))) lb lb) := Lib.hid ((HBJ.out.trans (But.of_below (Below.refl _ wr).drew _ _)).trans (But.set1 _ _ _ _ _))
          have HW7 : Hid (But W1 (wr.drew.setCell ⟨lb, i, none⟩ (.int .i64 (min (s + t) 1000000000))) lb lb) := Lib.hid ((HBW.out.trans (But.of_below (Below.refl _ wr).drew _ _)).trans (But.set1 _ _ _ _ _))
          have HK7 : Hid (KeepsOthers W (wr.drew.setCell ⟨lb, i, none⟩ (.int .i64 (min (s + t) 1000000000)))) := Lib.hid ((HKO.out.trans (KeepsOthers.drew _)).trans (KeepsOthers.setCell _ _ _))
          have HR7 : Hid (RowL (wr.drew.setCell ⟨lb, i, none⟩ (.int .i64 (min (s + t) 1000000000))) lb (o.set i (wFold o ((outs (graphE g) i).take (j + 1))))) := Lib.hid (by rw [HNX.out]; exact RowL.set (w := wr.drew) (HROW.out.below (Below.refl _ wr).drew HLBR.out) HLI.out _)
          clear hs
          go_wp2
          clear d7 f7
          simp only [onlyN]
          gi_wp2
          gi_roundg q
          case measure => omega
          case rel => exact ⟨j + 1, by omega, by go_num, HR7.out, HB7.out, HK7.out, HW7.out⟩
    case done =>
      rintro D ys W hD hys ⟨hrow, hbut⟩ hK
      have HNL : Hid (lb1 ≠ lb) := Lib.hid (by have := HLT.out; omega)
      have HXL9 := Lib.hid (HXL8.out.keep (hbut.block lb1 HXL8.out.lt HNL.out HNL.out))
      have dl := HXL9.out.cell
      have fl := HXL9.out.fz
      have HXL10 := Lib.hid (HXL9.out.set (.slice (some ⟨lb, 0, none⟩) g.length g.length))
      have HR10 : Hid (RowL (W.setCell ⟨lb1, 0, none⟩ (.slice (some ⟨lb, 0, none⟩) g.length g.length)) lb (wPre (graphE g) ys)) := Lib.hid (hrow.keep (Below.heap_setCell W ⟨lb1, 0, none⟩ _ lb (Ne.symm HNL.out)))
      have HB10 := Lib.hid (below_set (i := 0) (HBW8.out.trans (hbut.below HBW8.out.size (by have := HLT.out; have := HL1.out; omega) (by have := HLT.out; have := HL1.out; omega))) HL1.out (.slice (some ⟨lb, 0, none⟩) g.length g.length))
      have hK' := (KeepsOthers.setCell W ⟨lb1, 0, none⟩ (.slice (some ⟨lb, 0, none⟩) g.length g.length)).same D _ hK rfl
      have HWE := Lib.hid (wPre_end (E := graphE g) hys)
      have HSZ : Hid (lb < (W.setCell ⟨lb1, 0, none⟩ (.slice (some ⟨lb, 0, none⟩) g.length g.length)).heap.size) := Lib.hid (by simpa [World.setCell] using Nat.lt_of_lt_of_le HS8.out hbut.size)
      have HD := Lib.hid hD
      have HD1 : Hid (lb1 ≠ D ∧ lb ≠ D) := Lib.hid (by have := HXL8.out.lt; have := HS8.out; omega)
      clear hrow hbut hD hK hys
      go_wp2
      clear dl fl
      generalize W.setCell ⟨lb1, 0, none⟩ (.slice (some ⟨lb, 0, none⟩) g.length g.length) = WF at *
      refine ⟨by simp, .inl ⟨_, _, rfl, run_takeDeferred hK', ?_⟩⟩
      have hc5 := (HXL10.out.keep (World.putObj_heap_other (o := .deferred none) HD1.out.1)).cell
      have hr5 := HR10.out.keep (World.putObj_heap_other (o := .deferred none) HD1.out.2)
      have hb5 := HB10.out.trans (belowK_b (w := W8) HBW8.out.size WF D _ (.deferred none) HD.out hK' rfl rfl)
      have hs5 : lb < (WF.putObj D (.deferred none)).heap.size := by simpa [World.putObj] using HSZ.out
      have hl5 : (wPre (graphE g) ys).length = g.length := by rw [HWE.out, weights_len]
      refine ⟨.tuple #[.slice (some ⟨lb, 0, none⟩) g.length g.length, .bool true], ?_, .slice (some ⟨lb, 0, none⟩) g.length g.length, by rw [HT.out], ?_, hb5⟩
      · simp [results, Try.f16, go_sem, hc5]
      · rw [HL.out, ← HWE.out]
        have := hr5.ints (by rw [hl5]; exact HGN.out) hs5
        rwa [hl5] at this
end Go.Proofs.Ytedajbpjokmlaaa
