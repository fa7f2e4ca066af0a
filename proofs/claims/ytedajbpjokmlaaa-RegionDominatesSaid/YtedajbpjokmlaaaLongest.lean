/- region.Longest. -/
import Derived.Test.YtedajbpjokmlaaaWeights
namespace Go.Proofs.Ytedajbpjokmlaaa
open Go Go.RowKit Go.Shelf
set_option linter.unusedVariables false
attribute [local go_sem] Oper.semAt_some

def waitsL (g : List GN) : List Int := g.map (·.wait)
theorem waitsL_at {g : List GN} {i : Nat} {x : GN} (h : g[i]? = some x) : (waitsL g).getD i 0 = x.wait := by
  unfold waitsL; rw [List.getD_eq_getElem?_getD, List.getElem?_map, h]; rfl
def fPre {n : Nat} (E : List (Nat × Nat)) (ws : List Int) (pre : List (NP n)) : List Int × Int := pre.foldl (fun s (x : NP n) => (fStep E ws s.1 x.1.2, max s.2 ((fStep E ws s.1 x.1.2).getD x.1.2 0))) (List.replicate n 0, 0)
theorem fPre_snoc {n : Nat} (E : List (Nat × Nat)) (ws : List Int) (pre : List (NP n)) (x : NP n) :
    fPre E ws (pre ++ [x]) = (fStep E ws (fPre E ws pre).1 x.1.2, max (fPre E ws pre).2 ((fStep E ws (fPre E ws pre).1 x.1.2).getD x.1.2 0)) := by simp [fPre, List.foldl_append]
theorem fPre_of {n : Nat} (E : List (Nat × Nat)) (ws : List Int) (pre : List (NP n)) : fPre E ws pre = farOf n E ws (pre.map (fun x => x.1.2)).reverse := by
  unfold fPre farOf
  rw [List.foldr_reverse, List.foldl_map]
theorem fPre_end {n : Nat} {E : List (Nat × Nat)} {ws : List Int} {pre : List (NP n)} {D : List Nat} (h : pre.map (fun x => x.1.2) = D.reverse) : fPre E ws pre = farOf n E ws D := by rw [fPre_of, h, List.reverse_reverse]
theorem set_self {o : List Int} {i : Nat} (hi : i < o.length) : o.set i (o.getD i 0) = o := by
  refine ext_below (n := o.length) (by simp) rfl fun x hx => ?_
  rw [List.getElem?_set]
  by_cases h : i = x
  · subst h; rw [if_pos rfl, if_pos hi, List.getD_eq_getElem?_getD, List.getElem?_eq_getElem hi]; rfl
  · rw [if_neg h]
def longestOf (g : List GN) : Int := if okOf g = true then (farOf g.length (graphE g) (waitsL g) (orderOf g.length (graphE g))).2 else 0
/-- a number and whether it is one -/
def NumPost (w : World) (n : Int) (ok : Bool) (e : Ending) (w' : World) : Prop := e = .returned (.tuple #[.int .i64 n, .bool ok]) ∧ Below w.heap.size w w'
theorem OutAt.more {w : World} {B B' : Nat} {v : Value} {l : List Nat} (h : OutAt w B v l) (hB : B ≤ B') : OutAt w B' v l := by
  obtain ⟨A, c, hv, hA⟩ := h.ex
  exact ⟨A, c, hv, fun h0 => by obtain ⟨b, hb, h1, h2⟩ := hA h0; exact ⟨b, hb, by omega, h2⟩⟩
/-- where a node's wait lies -/
def WaitsAt (w : World) (B : Nat) (A : Option Addr) (g : List GN) : Prop := ∀ (i : Nat) (x : GN), g[i]? = some x → ∃ b o, A = some ⟨b, o, none⟩ ∧ b < B ∧ w.cell? ⟨b, o + i * 29 + 27, none⟩ = some (.int .i64 x.wait)
theorem WaitsAt.below {w W : World} {B : Nat} {A : Option Addr} {g : List GN} (h : WaitsAt w B A g) (hb : Below B w W) : WaitsAt W B A g := fun i x hx => by
  obtain ⟨b, o, rfl, h1, h2⟩ := h i x hx
  exact ⟨b, o, rfl, h1, (hb.cell (p := ⟨b, o + i * 29 + 27, none⟩) h1).trans h2⟩

set_option maxHeartbeats 4000000 in
set_option maxRecDepth 100000 in
theorem longest_any (g : List GN) (c0 c1 c2 c3 c4 v5 : Value) (w : World) (hg : GraphAt w w.heap.size v5 g) (hlen : (edgesOf g).length ≤ 10000) (hgn : g.length ≤ 10000) :
    Calls Try.prog 22 #[.agg ⟨[c0, c1, c2, c3, c4, v5]⟩] w (NumPost w (longestOf g) (okOf g)) := by
  have HG := Lib.hid hg
  have HLEN := Lib.hid hlen
  have HGN := Lib.hid hgn
  have HEL := Lib.hid (Nat.le_trans (graphE_len g) hlen)
  have HGE := Lib.hid (graphE_lt (g := g))
  obtain ⟨hgl, AN, cN, rfl, hAN⟩ := hg
  have HWA : Hid (WaitsAt w w.heap.size AN g) := Lib.hid fun i x hx => by
    obtain ⟨b, o, rfl, hb, hc⟩ := hAN (by have := (List.getElem?_eq_some_iff.1 hx).1; omega)
    obtain ⟨ks, h1, h2, h3⟩ := hc i x hx
    exact ⟨b, o, rfl, hb, range_cell h2 27 h3.wait⟩
  clear hlen hgl hAN
  refine (callsIn_wide (n := 9)).1 ?_
  refine callsIn_of_wp_marks Try.func22 rfl trivial ?_ rfl
  refine wpIn_wide.2 ?_
  simp only [Try.ntmps22, List.size_toArray, List.length_cons, List.length_nil, Nat.reduceAdd, Nat.reduceSub, Array.replicate_succ, Array.replicate_zero, List.push_toArray, List.append_toArray, List.nil_append, List.cons_append]
  go_upto_region 1 with (fail)
  have HB0 := Lib.hid (box_below w (.cells ⟨[c0, c1, c2, c3, c4, .slice AN g.length cN]⟩ 27))
  have HS0 := Lib.hid (box_size w (.cells ⟨[c0, c1, c2, c3, c4, .slice AN g.length cN]⟩ 27))
  have HR0 := Lib.hid (range_box w [c0, c1, c2, c3, c4, .slice AN g.length cN] 27)
  have HC0 := Lib.hid (cells_box w [c0, c1, c2, c3, c4, .slice AN g.length cN] 27 5 _ rfl)
  have HSE : Hid ((w.alloc (.cells ⟨[c0, c1, c2, c3, c4, .slice AN g.length cN]⟩ 27)).heap.size = w.heap.size + 1) := Lib.hid (by simp)
  generalize w.alloc (.cells ⟨[c0, c1, c2, c3, c4, .slice AN g.length cN]⟩ 27) = W0 at *
  have HX1 := Lib.hid (Box1.new W0 (.int .i64 0) 3)
  have HB1 := Lib.hid (HB0.out.alloc HB0.out.size (.cells #[.int .i64 0] 3))
  have HR1 := Lib.hid (rangeAt_below HR0.out (box_below W0 (.cells #[.int .i64 0] 3)) HS0.out)
  have HC1' := Lib.hid (((box_below W0 (.cells #[.int .i64 0] 3)).cell (p := ⟨w.heap.size, 5, none⟩) HS0.out).trans HC0.out)
  have HS1 := Lib.hid (Nat.lt_trans HS0.out (box_size W0 (.cells #[.int .i64 0] 3)))
  rw [HSE.out] at HX1
  generalize W0.alloc (.cells #[.int .i64 0] 3) = W at *
  have HC1 := Lib.hid (graphOf_any g c0 c1 c2 c3 c4 (.slice AN g.length cN) w.heap.size W (HG.out.next HB1.out) HR1.out HS1.out HLEN.out HGN.out)
  have HCM : Hid (∀ Z, Below W.heap.size W Z → Z.cell? ⟨w.heap.size, 5, none⟩ = some (.slice AN g.length cN)) := Lib.hid fun Z hZ => (hZ.cell (p := ⟨w.heap.size, 5, none⟩) HS1.out).trans HC1'.out
  clear HB0 HS0 HR0 HC0 HC1'
  obtain ⟨lb1, hlb1⟩ : ∃ r, w.heap.size + 1 = r := ⟨_, rfl⟩
  rw [hlb1] at HX1
  rw [hlb1]
  have HL1 : Hid (w.heap.size < lb1) := Lib.hid (by omega)
  clear hlb1 HSE
  go_upto_region 2 with (first | (go_at_call 33; refine HC1.out.mono ?_; rintro e w3 ⟨gb, tb, fb, V, rfl, hgat, hb3⟩; have HB3 := Lib.hid hb3; have HGA := Lib.hid hgat; clear hgat hb3; have HX := Lib.hid (fun (z : Value) => (Box1.new w3 z 71))))
  have HX4 := Lib.hid (HX.out (.pointer (some ⟨gb, 0, none⟩)))
  have HB4 := Lib.hid (box_below w3 (.cells #[.pointer (some ⟨gb, 0, none⟩)] 71))
  have HXL3 := Lib.hid (HX1.out.below HB3.out HX1.out.lt)
  have HXL4 := Lib.hid (HXL3.out.below HB4.out HXL3.out.lt)
  have HGB : Hid (gb ≠ lb1) := Lib.hid fun e => by
    have h1 := HGA.out.c1
    rw [e, HXL3.out.one] at h1
    cases h1
  have HOU := Lib.hid (fun q => GAt.outs (q := q) HGA.out HEL.out HX1.out.lt HGB.out)
  have HG4 := Lib.hid (HGA.out.below HB4.out)
  have HBM4 := Lib.hid (HB3.out.trans (HB4.out.mono HB3.out.size))
  have HBW4 := Lib.hid (HB1.out.trans (HBM4.out.mono HB1.out.size))
  have HNE : Hid (lb1 < w3.heap.size) := Lib.hid HXL3.out.lt
  clear HX HX1 HXL3 HGA HC1 HR1 HS1 HB3 HG
  obtain ⟨gx, hgx⟩ : ∃ r, w3.heap.size = r := ⟨_, rfl⟩
  have HOU4 : Hid (∀ q, gx ≤ q → OutsAt (w3.alloc (.cells #[.pointer (some ⟨gb, 0, none⟩)] 71)) lb1 q gb g.length (graphE g)) := Lib.hid fun q hq => (HOU.out q (by omega)).but (But.of_below HB4.out _ _)
  have HL4' : Hid (lb1 < (w3.alloc (.cells #[.pointer (some ⟨gb, 0, none⟩)] 71)).heap.size) := Lib.hid HXL4.out.lt
  have HNE2 : Hid (lb1 < gx) := Lib.hid (by have := HNE.out; omega)
  rw [hgx] at HX4
  rw [hgx]
  clear HOU HB4 HNE hgx
  generalize w3.alloc (.cells #[.pointer (some ⟨gb, 0, none⟩)] 71) = W4 at *
  have HC2 := Lib.hid (gorder_any gb tb fb g.length _ V (graphE g) W4 HG4.out HGN.out HEL.out HGE.out)
  have d4 := HX4.out.cell
  clear HG4
  cases hok : okOf g with
  | false =>
    have HOK : Hid (((orderOf g.length (graphE g)).length == g.length) = false) := Lib.hid hok
    have HL : Hid (longestOf g = 0) := Lib.hid (by unfold longestOf; rw [if_neg (by rw [hok]; simp)])
    have HT := Lib.hid hok
    clear hok
    go_upto_region 3 with (go_at_call 42; refine HC2.out.mono ?_; rintro e w5 ⟨v5', rfl, hown5, hb5⟩; rw [HOK.out]; have HB5 := Lib.hid hb5; clear hown5 hb5)
    have HXL5 := Lib.hid (HXL4.out.below HB5.out HXL4.out.lt)
    have dl := HXL5.out.cell
    have fl := HXL5.out.fz
    have HXL6 := Lib.hid (HXL5.out.set (.int .i64 0))
    have HBW5 := Lib.hid (below_set (i := 0) (HBW4.out.trans (HB5.out.mono HBW4.out.size)) (Nat.le_of_lt HL1.out) (.int .i64 0))
    go_wp2
    refine ⟨.tuple #[.int .i64 0, .bool false], ?_, by rw [HL.out, HT.out], HBW5.out⟩
    simp [results, Try.f22, go_sem, HXL6.out.cell]
  | true =>
    have HOK : Hid (((orderOf g.length (graphE g)).length == g.length) = true) := Lib.hid hok
    have HL : Hid (longestOf g = (farOf g.length (graphE g) (waitsL g) (orderOf g.length (graphE g))).2) := Lib.hid (by unfold longestOf; rw [if_pos hok])
    have HT := Lib.hid hok
    clear hok
    obtain ⟨i0, hi, hz0, hz1, hz2⟩ := info_parts' info_int
    have HI0 := Lib.hid hi
    have HZ0 := Lib.hid hz0
    have HZ1 := Lib.hid hz1
    have HZ2 := Lib.hid hz2
    clear hi hz0 hz1 hz2
    go_upto_region 3 with (go_at_call 42; refine HC2.out.mono ?_; rintro e w5 ⟨v5', rfl, hown5, hb5⟩; rw [HOK.out]; have HO5 := Lib.hid hown5; have HB5 := Lib.hid hb5; clear hown5 hb5)
    have HXL5 := Lib.hid (HXL4.out.below HB5.out HXL4.out.lt)
    have HXG5 := Lib.hid (HX4.out.below HB5.out HX4.out.lt)
    have HOU5 := Lib.hid (fun q hq => (HOU4.out q hq).but (But.of_below HB5.out _ _))
    have HBW5 := Lib.hid (HBW4.out.trans (HB5.out.mono HBW4.out.size))
    have HBM5 := Lib.hid (HBM4.out.trans (HB5.out.mono HBM4.out.size))
    have HGX : Hid (gx < w5.heap.size) := Lib.hid HXG5.out.lt
    have dn := (HOU5.out gx (Nat.le_refl _)).c0
    have dg := HXG5.out.cell
    clear d4 HC2 HXL4 HX4 HOU4 HBW4 HBM4
    go_upto_region 6 with ((with_reducible refine wl_make 34 3 _ _ rfl ?hw i0 (.int .i64 0) 8 g.length Try.underlying34 HI0.out HZ0.out HZ1.out HZ2.out (by decide) rfl ?hx ?hy HGN.out ?_); (case hw => first | exact wanted_none rfl | exact wanted_if rfl rfl rfl rfl); (case hx => rfl); (case hy => rfl); intro w6 hrow htag hb6 hs6; have HROW := Lib.hid hrow; have HB6 := Lib.hid hb6; have HS6 := Lib.hid hs6; clear hrow htag hb6 hs6)
    have HLT : Hid (lb1 < gx ∧ gx < w5.heap.size) := Lib.hid ⟨HNE2.out, HGX.out⟩
    have HL4 : Hid (lb1 < W4.heap.size) := Lib.hid HL4'.out
    have HB7 := Lib.hid (HB6.out.alloc HB6.out.size (.cells #[.slice (some ⟨w5.heap.size, 0, none⟩) g.length g.length] 34))
    have HXF7 := Lib.hid (Box1.new w6 (.slice (some ⟨w5.heap.size, 0, none⟩) g.length g.length) 34)
    have HXL7 := Lib.hid (HXL5.out.below HB7.out HXL5.out.lt)
    have HXG7 := Lib.hid (HXG5.out.below HB7.out HXG5.out.lt)
    have HOU7 := Lib.hid ((HOU5.out w5.heap.size (Nat.le_of_lt HGX.out)).but (But.of_below HB7.out _ _))
    have HRL7 : Hid (RowL (w6.alloc (.cells #[.slice (some ⟨w5.heap.size, 0, none⟩) g.length g.length] 34)) w5.heap.size (List.replicate g.length 0)) := Lib.hid ((RowL.of HROW.out (by simp) (fun i hi => by simp [List.getD_eq_getElem?_getD, hi])).below (box_below w6 _) HS6.out)
    have HBW7 := Lib.hid (HBW5.out.trans (HB7.out.mono HBW5.out.size))
    have HBM7 := Lib.hid (HBM5.out.trans (HB7.out.mono HBM5.out.size))
    have HS7 := Lib.hid HS6.out
    have HSF := Lib.hid (box_size w6 (.cells #[.slice (some ⟨w5.heap.size, 0, none⟩) g.length g.length] 34))
    obtain ⟨A5, c5, hv5⟩ := own_sl HO5.out
    subst hv5
    have HDT := Lib.hid (order_topo (n := g.length) (E := graphE g) g.length (Topo.nil _ _))
    have HDL : Hid ((orderOf g.length (graphE g)).length ≤ 10000) := Lib.hid (Nat.le_trans HDT.out.len HGN.out)
    rw [natsI_len]
    have HOA5 := Lib.hid (own_nats HO5.out HDL.out)
    have HA5 : Hid (∀ b, A5 = some ⟨b, 0, none⟩ → b < w5.heap.size ∧ b ≠ lb1 ∧ b ≠ w5.heap.size) := Lib.hid fun b e => by
      subst e
      have h1 := HO5.out.block (b := b) rfl
      have h2 := HO5.out.lt (b := b) rfl
      have := HL4.out
      omega
    rw [natsI_len] at HOA5
    have HOA7 := Lib.hid ((HOA5.out.below HB7.out).more HB7.out.size)
    obtain ⟨lb, hlb⟩ : ∃ r, w5.heap.size = r := ⟨_, rfl⟩
    rw [hlb] at HOU7 HRL7 HBW7 HS7 HXL7 HXG7 HOA7 HLT HA5 HXF7 HBM7 HSF
    rw [hlb]
    clear hlb HROW HB6 HS6 dn dg HXL5 HXG5 HOU5 HBW5 HGX HO5 HOA5 HB5 HL4 HL4' HB7 HBM5
    obtain ⟨fx, hfx⟩ : ∃ r, w6.heap.size = r := ⟨_, rfl⟩
    rw [hfx] at HXF7 HSF HS7
    rw [hfx]
    clear hfx
    generalize w6.alloc (.cells #[.slice (some ⟨lb, 0, none⟩) g.length g.length] 34) = W7 at *
    go_wp2_with (go_at_call 43; refine (back_any _ _ _ _).mono ?_; rintro e w8 ⟨rfl, rfl⟩)
    have HBB := Lib.hid (box_below W7 (.cells #[.slice A5 (orderOf g.length (graphE g)).length c5] 34))
    have HXL8 := Lib.hid (HXL7.out.below HBB.out HXL7.out.lt)
    have HXF8 := Lib.hid (HXF7.out.below HBB.out HXF7.out.lt)
    have HXG8 := Lib.hid (HXG7.out.below HBB.out HXG7.out.lt)
    have HRL8 := Lib.hid (HRL7.out.below HBB.out (Nat.lt_trans HS7.out HSF.out))
    have HOU8 := Lib.hid (HOU7.out.but (But.of_below HBB.out _ _))
    have HBW8 := Lib.hid (HBW7.out.trans (HBB.out.mono HBW7.out.size))
    have HBM8 := Lib.hid (HBM7.out.trans (HBB.out.mono HBM7.out.size))
    have HBX8 := Lib.hid (Box1.new W7 (.slice A5 (orderOf g.length (graphE g)).length c5) 34)
    have HS8 := Lib.hid (Nat.lt_trans (Nat.lt_trans HS7.out HSF.out) (box_size W7 (.cells #[.slice A5 (orderOf g.length (graphE g)).length c5] 34)))
    have HOA8 := Lib.hid ((HOA7.out.below HBB.out).more HBB.out.size)
    have HLB : Hid (lb < fx ∧ fx < W7.heap.size) := Lib.hid ⟨HS7.out, HSF.out⟩
    have HA5' : Hid (∀ b, A5 = some ⟨b, 0, none⟩ → b < (W7.alloc (.cells #[.slice A5 (orderOf g.length (graphE g)).length c5] 34)).heap.size ∧ b ≠ lb1 ∧ b ≠ lb) := Lib.hid fun b e => ⟨Nat.lt_trans (HA5.out b e).1 HS8.out, (HA5.out b e).2.1, (HA5.out b e).2.2⟩
    clear HXL7 HXG7 HRL7 HOU7 HBW7 HOA7 HS7 HA5 HXF7 HBB HBM7 HSF
    obtain ⟨Bs, hBs⟩ : ∃ r, W7.heap.size = r := ⟨_, rfl⟩
    rw [hBs] at HBX8 HLB
    rw [hBs]
    clear hBs
    generalize W7.alloc (.cells #[.slice A5 (orderOf g.length (graphE g)).length c5] 34) = W8 at *
    have HIL := Lib.hid (orderOf_len_eq HOK.out)
    have HORD : Hid (w.heap.size < lb1 ∧ lb1 < gx ∧ gx < lb ∧ lb < fx ∧ fx < Bs) := Lib.hid ⟨HL1.out, HLT.out.1, HLT.out.2, HLB.out.1, HLB.out.2⟩
    have HC8 := Lib.hid (HCM.out W8 HBM8.out)
    have HMS : Hid (w.heap.size < W8.heap.size) := Lib.hid (by have := HORD.out; have := HS8.out; omega)
    refine (wpIn_wide (n := 9)).1 ?_
    refine wpIn_rangeFunc_ownF (α := NP g.length) rfl (by omega) (gf := 62) (lb := #[.pointer (some ⟨Bs, 0, none⟩)]) rfl trivial (enters_of Try.func62 (by kernel_rfl) rfl)
      (Kp := fun W W' => W'.heap[Bs]? = W.heap[Bs]? ∧ ∀ b, A5 = some ⟨b, 0, none⟩ → W'.heap[b]? = W.heap[b]?)
      (back_stops Fence.wide (9 - 1) trivial rfl (by omega) Bs c5 A5 (orderOf g.length (graphE g)) HDT.out.lt HDL.out W8 HBX8.out.lt HBX8.out.cell HOA8.out _ (fun b hb W W' h => h.2 b hb) (fun W W' h => h.1))
      (fun h k => ⟨k.1.trans h.1, fun b hb => (k.2 b hb).trans (h.2 b hb)⟩) (fun W l o o' hl _ _ _ => ⟨World.putObj_heap_other (by have := HBX8.out.lt; omega), fun b hb => World.putObj_heap_other (by have := (HA5'.out b hb).1; omega)⟩)
      (Below.refl _ _) (fun _ => rfl)
      (fun (pre : List (NP g.length)) W => RowL W lb (fPre (graphE g) (waitsL g) pre).1 ∧ Box1 W lb1 (.int .i64 (fPre (graphE g) (waitsL g) pre).2) ∧ But W8 W lb1 lb)
      (fun _ _ _ => False)
      (fun s A B row hs hg hr => ⟨hs.1.keep (hg.block lb (Nat.lt_of_lt_of_le HS8.out hs.2.2.size) (fun e => by have := (hr lb e.symm).1; have := HS8.out; omega)), hs.2.1.keep (hg.block lb1 hs.2.1.lt (fun e => by have := (hr lb1 e.symm).1; have := HXL8.out.lt; omega)), hs.2.2.own hg (fun r e => (hr r e).1)⟩)
      (fun _ _ _ _ _ hs _ _ => hs)
      ⟨HRL8.out, HXL8.out, But.refl _ _ _⟩ ?a1 ?assign ?body ?done ?stop
    case stop =>
      rintro D c pre W _ _ h _
      exact h.elim
    case assign =>
      intro l x W K hK
      simp only [encP]
      gi_wp2
      exact hK
    case body =>
      rintro l pre x W ⟨hrow, hbox, hbut⟩ hlt
      have HPR : Hid (inF (1000 * pre.length) (fPre (graphE g) (waitsL g) pre).1 ∧ (fPre (graphE g) (waitsL g) pre).1.length = g.length ∧ 0 ≤ (fPre (graphE g) (waitsL g) pre).2 ∧ (fPre (graphE g) (waitsL g) pre).2 ≤ 1000 * pre.length) := Lib.hid (by
        have := far_in g.length (graphE g) (waitsL g) (pre.map (fun (x : NP g.length) => x.1.2)).reverse
        rwa [List.length_reverse, List.length_map, ← fPre_of] at this)
      have HPL : Hid (pre.length ≤ 10000) := Lib.hid (by have := HDL.out; omega)
      have HPS := Lib.hid (fPre_snoc (graphE g) (waitsL g) pre x)
      generalize fPre (graphE g) (waitsL g) pre = s0 at *
      obtain ⟨o, m⟩ := s0
      obtain ⟨⟨xi, i⟩, hi⟩ := x
      have hin : i < g.length := hi
      have hin2 : (i : Int) < (g.length : Int) := by omega
      have HROW : Hid (RowL W lb o) := Lib.hid hrow
      have HBOX : Hid (Box1 W lb1 (.int .i64 m)) := Lib.hid hbox
      have HBUT := Lib.hid hbut
      have hm1 : 0 ≤ m := HPR.out.2.2.1
      have hm2 : m ≤ 10000000 := by have h1 : m ≤ 1000 * (pre.length : Int) := HPR.out.2.2.2; have := HPL.out; omega
      have HPI : Hid (inF 10000000 o) := Lib.hid fun y hy => by have h1 := HPR.out.1 y hy; have := HPL.out; omega
      have HOLN : Hid (o.length = g.length) := Lib.hid HPR.out.2.1
      clear hrow hbut hlt hbox
      have HIO : Hid (i ∉ outs (graphE g) i) := Lib.hid fun h => HDT.out.acyclic (HDT.out.all HIL.out hin) (Way.one (mem_outs.1 h))
      have HIL2 : Hid (i < o.length) := Lib.hid (by rw [HOLN.out]; exact hin)
      have HNE3 : Hid (lb1 ≠ lb ∧ gx ≠ lb1 ∧ gx ≠ lb ∧ fx ≠ lb1 ∧ fx ≠ lb) := Lib.hid (by have := HORD.out; omega)
      have HOU := Lib.hid (HOU8.out.but HBUT.out)
      obtain ⟨_, _, tb2, ⟨ht1, ht2, ht3⟩, hc1, hrw⟩ := HOU.out
      obtain ⟨A, c, hr1, hr2⟩ := hrw i hin
      have HR2 := Lib.hid hr2
      have dg := (HBUT.out.cell (o := 0) HXG8.out.lt HNE3.out.2.1 HNE3.out.2.2.1).trans HXG8.out.cell
      clear hr2 hrw ht1 ht2 ht3
      have HOL := Lib.hid (Nat.le_trans (outs_len (graphE g) i) HEL.out)
      have HR0 : Hid (RowL W lb (o.set i (fFold o (o.getD i 0) ((outs (graphE g) i).take 0)))) := Lib.hid (by show RowL W lb (o.set i (o.getD i 0)); rw [set_self HIL2.out]; exact HROW.out)
      gi_wp2
      clear dg hc1 hr1
      gi_loopg [37] (outs (graphE g) i).length (fun q v u => ∃ j : Nat, j + q = (outs (graphE g) i).length ∧ v = .int .i64 j ∧ RowL u lb (o.set i (fFold o (o.getD i 0) ((outs (graphE g) i).take j))) ∧ But W u lb lb ∧ KeepsOthers W u)
      case atStart => exact ⟨0, by omega, rfl, HR0.out, But.refl _ _ _, KeepsOthers.refl _⟩
      case round =>
        obtain ⟨j, hj, rfl, hrow, hbut, hko⟩ := hrel
        have HROWJ := Lib.hid hrow
        have HBJ := Lib.hid hbut
        have HKO := Lib.hid hko
        clear hrow hbut hko
        have HBU : Hid (But W8 wr lb1 lb) := Lib.hid (HBUT.out.trans (HBJ.out.weak lb1))
        have df := (HBU.out.cell (o := 0) HXF8.out.lt HNE3.out.2.2.2.1 HNE3.out.2.2.2.2).trans HXF8.out.cell
        have HLI : Hid (i < (o.set i (fFold o (o.getD i 0) ((outs (graphE g) i).take j))).length) := Lib.hid (by rw [List.length_set]; exact HIL2.out)
        have HLBR : Hid (lb < wr.heap.size) := Lib.hid (Nat.lt_of_lt_of_le HS8.out HBU.out.size)
        have dr := HROWJ.out.at HLI.out
        have fr := HROWJ.out.fz i HLI.out
        rw [getD_set HIL2.out, if_pos rfl] at dr
        have ha := inF_at (by omega) HPI.out i
        have hs1 := fFold_range (by omega) HPI.out ((outs (graphE g) i).take j) (o.getD i 0) ha.1 ha.2
        cases gk with
        | zero =>
          obtain rfl : j = (outs (graphE g) i).length := by omega
          have hge : ¬ (((outs (graphE g) i).length : Int) < ((outs (graphE g) i).length : Int)) := by omega
          obtain ⟨y, hy⟩ : ∃ y, g[i]? = some y := ⟨_, List.getElem?_eq_getElem hin⟩
          have HBWR := Lib.hid (HBW8.out.trans (HBU.out.below HBW8.out.size (by have := HORD.out; omega) (by have := HORD.out; omega)))
          obtain ⟨b, o', rfl, hbw, hcw⟩ := HWA.out i y hy
          have dw := (HBWR.out.cell (p := ⟨b, o' + i * 29 + 27, none⟩) hbw).trans hcw
          have dm := (HBU.out.cell (o := 5) HMS.out (by have := HORD.out; omega) (by have := HORD.out; omega)).trans HC8.out
          have HWT := Lib.hid (waitsL_at hy)
          have HFS0 : Hid (fStep (graphE g) (waitsL g) o i = o.set i (fFold o (o.getD i 0) (outs (graphE g) i) + waitOf (waitsL g) i)) := Lib.hid rfl
          have HWO : Hid (waitOf (waitsL g) i = if 0 ≤ y.wait ∧ y.wait ≤ 1000 then y.wait else 0) := Lib.hid (by unfold waitOf; rw [HWT.out])
          rw [List.take_of_length_le (Nat.le_refl _)] at dr hs1 HROWJ
          have hs3 : fFold o (o.getD i 0) (outs (graphE g) i) ≤ 10000000 := hs1.2
          have hs4 : 0 ≤ fFold o (o.getD i 0) (outs (graphE g) i) := hs1.1
          generalize fFold o (o.getD i 0) (outs (graphE g) i) = s at *
          generalize y.wait = wt at *
          have HBXJ : Hid (Box1 wr lb1 (.int .i64 m)) := Lib.hid (HBOX.out.keep (HBJ.out.block lb1 HBOX.out.lt HNE3.out.1 HNE3.out.1))
          clear hcw hy hs1 ha HLI
          by_cases hw : 0 ≤ wt ∧ wt ≤ 1000
          · rw [if_pos hw] at HWO
            have HFS : Hid (fStep (graphE g) (waitsL g) o i = o.set i (s + wt)) := Lib.hid (by rw [HFS0.out, HWO.out])
            have hw1 := hw.1
            have hw2 := hw.2
            have t1 : decide ((0 : Int) ≤ wt) = true := by simpa using hw1
            have t2 : decide (wt ≤ 1000) = true := by simpa using hw2
            have hwr : IntKind.i64.wrap (s + wt) = s + wt := by rw [IntKind.wrap_i64]; omega
            clear hw
            have HRY : Hid (RowL (wr.setCell ⟨lb, i, none⟩ (.int .i64 (s + wt))) lb (o.set i (s + wt))) := Lib.hid (by
              have := HROWJ.out.set (i := i) (by rw [List.length_set]; exact HIL2.out) (s + wt)
              rwa [List.set_set] at this)
            have HBY : Hid (But W8 (wr.setCell ⟨lb, i, none⟩ (.int .i64 (s + wt))) lb1 lb) := Lib.hid (HBU.out.trans (But.set2 _ _ _ _ _))
            have HKY : Hid (KeepsOthers W (wr.setCell ⟨lb, i, none⟩ (.int .i64 (s + wt)))) := Lib.hid (HKO.out.trans (KeepsOthers.setCell _ _ _))
            have HBX : Hid (Box1 (wr.setCell ⟨lb, i, none⟩ (.int .i64 (s + wt))) lb1 (.int .i64 m)) := Lib.hid (HBXJ.out.keep (Below.heap_setCell wr ⟨lb, i, none⟩ _ lb1 HNE3.out.1))
            have HLI2 : Hid (i < (o.set i (s + wt)).length) := Lib.hid (by rw [List.length_set]; exact HIL2.out)
            gi_upto_region 16 with (fail)
            clear df dr fr dm dw t1 t2
            generalize wr.setCell ⟨lb, i, none⟩ (.int .i64 (s + wt)) = W6 at *
            have h1 := HBX.out.cell
            have h2 := (HBY.out.cell (o := 0) HXF8.out.lt HNE3.out.2.2.2.1 HNE3.out.2.2.2.2).trans HXF8.out.cell
            have h3 := HRY.out.at HLI2.out
            rw [getD_set HIL2.out, if_pos rfl] at h3
            have hs : W6.drew.cell? ⟨lb1, 0, none⟩ = some (.int .i64 m) ∧ W6.drew.cell? ⟨fx, 0, none⟩ = some (.slice (some ⟨lb, 0, none⟩) g.length g.length) ∧ W6.drew.cell? ⟨lb, i, none⟩ = some (.int .i64 (s + wt)) := ⟨h1, h2, h3⟩
            refine wpIn_region_ord_tail 6 [(0, true), (1, true), (2, true), (3, true), (4, true), (5, true)]
              (fun z => z.cell? ⟨lb1, 0, none⟩ = some (.int .i64 m) ∧ z.cell? ⟨fx, 0, none⟩ = some (.slice (some ⟨lb, 0, none⟩) g.length g.length) ∧ z.cell? ⟨lb, i, none⟩ = some (.int .i64 (s + wt))) (by kernel_rfl) (by kernel_rfl) rfl (by kernel_rfl) _ (fun _ _ h => h) ?_
            refine ord_load (some 73) (.int .i64 m) _ rfl rfl (by first | exact wanted_none rfl | exact wanted_if rfl rfl rfl rfl) hs (fun z hz => by have dd := hz.1; go_simp) ?_
            go_frame
            refine ord_load (some 74) (.slice (some ⟨lb, 0, none⟩) g.length g.length) _ rfl rfl (by first | exact wanted_none rfl | exact wanted_if rfl rfl rfl rfl) hs (fun z hz => by have dd := hz.2.1; go_simp) ?_
            go_frame
            refine ord_move (some 75) (.int .i64 i) _ _ rfl rfl rfl (by first | exact wanted_none rfl | exact wanted_if rfl rfl rfl rfl) hs rfl ?_
            go_frame
            refine ord_load (some 76) (.pointer (some ⟨lb, i, none⟩)) _ rfl rfl (by first | exact wanted_none rfl | exact wanted_if rfl rfl rfl rfl) hs (fun z hz => by go_simp) ?_
            go_frame
            refine ord_load (some 77) (.int .i64 (s + wt)) _ rfl rfl (by first | exact wanted_none rfl | exact wanted_if rfl rfl rfl rfl) hs (fun z hz => by have dd := hz.2.2; go_simp) ?_
            go_frame
            refine ord_load (some 78) (.int .i64 (max m (s + wt))) _ rfl rfl (by first | exact wanted_none rfl | exact wanted_if rfl rfl rfl rfl) hs (fun z hz => by go_simp; done) ?_
            go_frame
            refine ord_tail ?_
            have d7 := hs.1
            have f7 : W6.drew.frozen? ⟨lb1, 0, none⟩ = false := HBX.out.fz
            have HBD : Hid (But W8 (W6.drew.setCell ⟨lb1, 0, none⟩ (.int .i64 (max m (s + wt)))) lb1 lb) := Lib.hid ((HBY.out.trans (But.of_below (Below.refl _ W6).drew _ _)).trans (But.set1 _ _ _ _ _))
            have HKD : Hid (KeepsOthers W (W6.drew.setCell ⟨lb1, 0, none⟩ (.int .i64 (max m (s + wt))))) := Lib.hid ((HKY.out.trans (KeepsOthers.drew _)).trans (KeepsOthers.setCell _ _ _))
            have HRD : Hid (RowL (W6.drew.setCell ⟨lb1, 0, none⟩ (.int .i64 (max m (s + wt)))) lb (o.set i (s + wt))) := Lib.hid ((RowL.keep (w := W6) HRY.out rfl).keep (Below.heap_setCell W6.drew ⟨lb1, 0, none⟩ _ lb (Ne.symm HNE3.out.1)))
            have HXD : Hid (Box1 (W6.drew.setCell ⟨lb1, 0, none⟩ (.int .i64 (max m (s + wt)))) lb1 (.int .i64 (max m (s + wt)))) := Lib.hid (Box1.set (w := W6.drew) (HBX.out.keep rfl) _)
            clear hs
            go_wp2
            clear d7 f7
            simp only [onlyN]
            gi_wp2
            refine ⟨HKD.out, ⟨?_, fun b hb => ?_⟩, ?_, ?_, HBD.out⟩
            · have h1 := HBX8.out.lt
              have h2 := HORD.out
              exact (HBD.out.block Bs h1 (by omega) (by omega)).trans (HBUT.out.block Bs h1 (by omega) (by omega)).symm
            · obtain ⟨h1, h2, h3⟩ := HA5'.out b hb
              exact (HBD.out.block b h1 h2 h3).trans (HBUT.out.block b h1 h2 h3).symm
            · rw [HPS.out]
              show RowL _ lb (fStep (graphE g) (waitsL g) o i)
              rw [HFS.out]
              exact HRD.out
            · rw [HPS.out]
              show Box1 _ lb1 (.int .i64 (max m ((fStep (graphE g) (waitsL g) o i).getD i 0)))
              rw [HFS.out, getD_set HIL2.out, if_pos rfl]
              exact HXD.out
          · rw [if_neg hw] at HWO
            have HFS : Hid (fStep (graphE g) (waitsL g) o i = o.set i s) := Lib.hid (by rw [HFS0.out, HWO.out, Int.add_zero])
            have HRY := Lib.hid HROWJ.out
            have HBY := Lib.hid HBU.out
            have HKY := Lib.hid HKO.out
            have HBX := Lib.hid HBXJ.out
            have h1 := HBX.out.cell
            have hno : wt < 0 ∨ 1000 < wt := by omega
            clear hw
            by_cases hneg : wt < 0
            · have t1 : decide ((0 : Int) ≤ wt) = false := by simp; omega
              clear hno hneg
              gi_upto_region 16 with (fail)
              have h2 := df
              have h3 := dr
              clear df dr fr dm dw t1
              have hs : wr.drew.cell? ⟨lb1, 0, none⟩ = some (.int .i64 m) ∧ wr.drew.cell? ⟨fx, 0, none⟩ = some (.slice (some ⟨lb, 0, none⟩) g.length g.length) ∧ wr.drew.cell? ⟨lb, i, none⟩ = some (.int .i64 s) := ⟨h1, h2, h3⟩
              refine wpIn_region_ord_tail 6 [(0, true), (1, true), (2, true), (3, true), (4, true), (5, true)]
                (fun z => z.cell? ⟨lb1, 0, none⟩ = some (.int .i64 m) ∧ z.cell? ⟨fx, 0, none⟩ = some (.slice (some ⟨lb, 0, none⟩) g.length g.length) ∧ z.cell? ⟨lb, i, none⟩ = some (.int .i64 s)) (by kernel_rfl) (by kernel_rfl) rfl (by kernel_rfl) _ (fun _ _ h => h) ?_
              refine ord_load (some 73) (.int .i64 m) _ rfl rfl (by first | exact wanted_none rfl | exact wanted_if rfl rfl rfl rfl) hs (fun z hz => by have dd := hz.1; go_simp) ?_
              go_frame
              refine ord_load (some 74) (.slice (some ⟨lb, 0, none⟩) g.length g.length) _ rfl rfl (by first | exact wanted_none rfl | exact wanted_if rfl rfl rfl rfl) hs (fun z hz => by have dd := hz.2.1; go_simp) ?_
              go_frame
              refine ord_move (some 75) (.int .i64 i) _ _ rfl rfl rfl (by first | exact wanted_none rfl | exact wanted_if rfl rfl rfl rfl) hs rfl ?_
              go_frame
              refine ord_load (some 76) (.pointer (some ⟨lb, i, none⟩)) _ rfl rfl (by first | exact wanted_none rfl | exact wanted_if rfl rfl rfl rfl) hs (fun z hz => by go_simp) ?_
              go_frame
              refine ord_load (some 77) (.int .i64 s) _ rfl rfl (by first | exact wanted_none rfl | exact wanted_if rfl rfl rfl rfl) hs (fun z hz => by have dd := hz.2.2; go_simp) ?_
              go_frame
              refine ord_load (some 78) (.int .i64 (max m s)) _ rfl rfl (by first | exact wanted_none rfl | exact wanted_if rfl rfl rfl rfl) hs (fun z hz => by go_simp; done) ?_
              go_frame
              refine ord_tail ?_
              have d7 := hs.1
              have f7 : wr.drew.frozen? ⟨lb1, 0, none⟩ = false := HBX.out.fz
              have HBD : Hid (But W8 (wr.drew.setCell ⟨lb1, 0, none⟩ (.int .i64 (max m s))) lb1 lb) := Lib.hid ((HBY.out.trans (But.of_below (Below.refl _ wr).drew _ _)).trans (But.set1 _ _ _ _ _))
              have HKD : Hid (KeepsOthers W (wr.drew.setCell ⟨lb1, 0, none⟩ (.int .i64 (max m s)))) := Lib.hid ((HKY.out.trans (KeepsOthers.drew _)).trans (KeepsOthers.setCell _ _ _))
              have HRD : Hid (RowL (wr.drew.setCell ⟨lb1, 0, none⟩ (.int .i64 (max m s))) lb (o.set i s)) := Lib.hid ((RowL.keep (w := wr) HRY.out rfl).keep (Below.heap_setCell wr.drew ⟨lb1, 0, none⟩ _ lb (Ne.symm HNE3.out.1)))
              have HXD : Hid (Box1 (wr.drew.setCell ⟨lb1, 0, none⟩ (.int .i64 (max m s))) lb1 (.int .i64 (max m s))) := Lib.hid (Box1.set (w := wr.drew) (HBX.out.keep rfl) _)
              clear hs
              go_wp2
              clear d7 f7
              simp only [onlyN]
              gi_wp2
              refine ⟨HKD.out, ⟨?_, fun b hb => ?_⟩, ?_, ?_, HBD.out⟩
              · have h1 := HBX8.out.lt
                have h2 := HORD.out
                exact (HBD.out.block Bs h1 (by omega) (by omega)).trans (HBUT.out.block Bs h1 (by omega) (by omega)).symm
              · obtain ⟨h1, h2, h3⟩ := HA5'.out b hb
                exact (HBD.out.block b h1 h2 h3).trans (HBUT.out.block b h1 h2 h3).symm
              · rw [HPS.out]
                show RowL _ lb (fStep (graphE g) (waitsL g) o i)
                rw [HFS.out]
                exact HRD.out
              · rw [HPS.out]
                show Box1 _ lb1 (.int .i64 (max m ((fStep (graphE g) (waitsL g) o i).getD i 0)))
                rw [HFS.out, getD_set HIL2.out, if_pos rfl]
                exact HXD.out
            · have t1 : decide ((0 : Int) ≤ wt) = true := by simp; omega
              have t2 : decide (wt ≤ 1000) = false := by simp; omega
              clear hno hneg
              gi_upto_region 16 with (fail)
              have h2 := df
              have h3 := dr
              clear df dr fr dm dw t1 t2
              have hs : wr.drew.cell? ⟨lb1, 0, none⟩ = some (.int .i64 m) ∧ wr.drew.cell? ⟨fx, 0, none⟩ = some (.slice (some ⟨lb, 0, none⟩) g.length g.length) ∧ wr.drew.cell? ⟨lb, i, none⟩ = some (.int .i64 s) := ⟨h1, h2, h3⟩
              refine wpIn_region_ord_tail 6 [(0, true), (1, true), (2, true), (3, true), (4, true), (5, true)]
                (fun z => z.cell? ⟨lb1, 0, none⟩ = some (.int .i64 m) ∧ z.cell? ⟨fx, 0, none⟩ = some (.slice (some ⟨lb, 0, none⟩) g.length g.length) ∧ z.cell? ⟨lb, i, none⟩ = some (.int .i64 s)) (by kernel_rfl) (by kernel_rfl) rfl (by kernel_rfl) _ (fun _ _ h => h) ?_
              refine ord_load (some 73) (.int .i64 m) _ rfl rfl (by first | exact wanted_none rfl | exact wanted_if rfl rfl rfl rfl) hs (fun z hz => by have dd := hz.1; go_simp) ?_
              go_frame
              refine ord_load (some 74) (.slice (some ⟨lb, 0, none⟩) g.length g.length) _ rfl rfl (by first | exact wanted_none rfl | exact wanted_if rfl rfl rfl rfl) hs (fun z hz => by have dd := hz.2.1; go_simp) ?_
              go_frame
              refine ord_move (some 75) (.int .i64 i) _ _ rfl rfl rfl (by first | exact wanted_none rfl | exact wanted_if rfl rfl rfl rfl) hs rfl ?_
              go_frame
              refine ord_load (some 76) (.pointer (some ⟨lb, i, none⟩)) _ rfl rfl (by first | exact wanted_none rfl | exact wanted_if rfl rfl rfl rfl) hs (fun z hz => by go_simp) ?_
              go_frame
              refine ord_load (some 77) (.int .i64 s) _ rfl rfl (by first | exact wanted_none rfl | exact wanted_if rfl rfl rfl rfl) hs (fun z hz => by have dd := hz.2.2; go_simp) ?_
              go_frame
              refine ord_load (some 78) (.int .i64 (max m s)) _ rfl rfl (by first | exact wanted_none rfl | exact wanted_if rfl rfl rfl rfl) hs (fun z hz => by go_simp; done) ?_
              go_frame
              refine ord_tail ?_
              have d7 := hs.1
              have f7 : wr.drew.frozen? ⟨lb1, 0, none⟩ = false := HBX.out.fz
              have HBD : Hid (But W8 (wr.drew.setCell ⟨lb1, 0, none⟩ (.int .i64 (max m s))) lb1 lb) := Lib.hid ((HBY.out.trans (But.of_below (Below.refl _ wr).drew _ _)).trans (But.set1 _ _ _ _ _))
              have HKD : Hid (KeepsOthers W (wr.drew.setCell ⟨lb1, 0, none⟩ (.int .i64 (max m s)))) := Lib.hid ((HKY.out.trans (KeepsOthers.drew _)).trans (KeepsOthers.setCell _ _ _))
              have HRD : Hid (RowL (wr.drew.setCell ⟨lb1, 0, none⟩ (.int .i64 (max m s))) lb (o.set i s)) := Lib.hid ((RowL.keep (w := wr) HRY.out rfl).keep (Below.heap_setCell wr.drew ⟨lb1, 0, none⟩ _ lb (Ne.symm HNE3.out.1)))
              have HXD : Hid (Box1 (wr.drew.setCell ⟨lb1, 0, none⟩ (.int .i64 (max m s))) lb1 (.int .i64 (max m s))) := Lib.hid (Box1.set (w := wr.drew) (HBX.out.keep rfl) _)
              clear hs
              go_wp2
              clear d7 f7
              simp only [onlyN]
              gi_wp2
              refine ⟨HKD.out, ⟨?_, fun b hb => ?_⟩, ?_, ?_, HBD.out⟩
              · have h1 := HBX8.out.lt
                have h2 := HORD.out
                exact (HBD.out.block Bs h1 (by omega) (by omega)).trans (HBUT.out.block Bs h1 (by omega) (by omega)).symm
              · obtain ⟨h1, h2, h3⟩ := HA5'.out b hb
                exact (HBD.out.block b h1 h2 h3).trans (HBUT.out.block b h1 h2 h3).symm
              · rw [HPS.out]
                show RowL _ lb (fStep (graphE g) (waitsL g) o i)
                rw [HFS.out]
                exact HRD.out
              · rw [HPS.out]
                show Box1 _ lb1 (.int .i64 (max m ((fStep (graphE g) (waitsL g) o i).getD i 0)))
                rw [HFS.out, getD_set HIL2.out, if_pos rfl]
                exact HXD.out
        | succ q =>
          have hlt : (j : Int) < ((outs (graphE g) i).length : Int) := by omega
          have hol : ((outs (graphE g) i).length : Int) ≤ 10000 := by have := HOL.out; omega
          obtain ⟨x, hx⟩ : ∃ x, (outs (graphE g) i)[j]? = some x := ⟨_, List.getElem?_eq_getElem (by omega)⟩
          have hxn : x < g.length := (HGE.out (i, x) (mem_outs.1 (List.mem_of_getElem? hx))).2
          have hxi : x ≠ i := fun h => HIO.out (by have := List.mem_of_getElem? hx; rwa [h] at this)
          obtain ⟨b, rfl, ⟨hb1, hb2, hb3⟩, hc⟩ := HR2.out (by omega)
          have da := (HBJ.out.cell (o := j) hb1 hb3 hb3).trans (hc j x hx)
          have hx2 : (x : Int) < (g.length : Int) := by omega
          have HLX : Hid (x < (o.set i (fFold o (o.getD i 0) ((outs (graphE g) i).take j))).length) := Lib.hid (by rw [List.length_set, HOLN.out]; exact hxn)
          have dx := HROWJ.out.at HLX.out
          rw [getD_set HIL2.out, if_neg hxi] at dx
          have HNX : Hid (o.set i (fFold o (o.getD i 0) ((outs (graphE g) i).take (j + 1))) = (o.set i (fFold o (o.getD i 0) ((outs (graphE g) i).take j))).set i (max (fFold o (o.getD i 0) ((outs (graphE g) i).take j)) (o.getD x 0))) := Lib.hid (by rw [take_at hx, fFold_snoc, List.set_set])
          generalize fFold o (o.getD i 0) ((outs (graphE g) i).take j) = s at *
          generalize o.getD x 0 = t at *
          clear hc hx hs1 hxi ha
          gi_upto_region 11 with (fail)
          have HFR := Lib.hid fr
          have hs : wr.drew.cell? ⟨fx, 0, none⟩ = some (.slice (some ⟨lb, 0, none⟩) g.length g.length) ∧ wr.drew.cell? ⟨lb, i, none⟩ = some (.int .i64 s) ∧ wr.drew.cell? ⟨lb, x, none⟩ = some (.int .i64 t) := ⟨df, dr, dx⟩
          refine wpIn_region_ord_tail 12 [(0, true), (1, true), (2, true), (3, true), (4, true), (5, true), (6, true), (7, true), (8, true), (9, true), (10, true), (11, true)]
            (fun z => z.cell? ⟨fx, 0, none⟩ = some (.slice (some ⟨lb, 0, none⟩) g.length g.length) ∧ z.cell? ⟨lb, i, none⟩ = some (.int .i64 s) ∧ z.cell? ⟨lb, x, none⟩ = some (.int .i64 t)) (by kernel_rfl) (by kernel_rfl) rfl (by kernel_rfl) _ (fun _ _ h => h) ?_
          clear df dr dx fr
          refine ord_load (some 41) (.slice (some ⟨lb, 0, none⟩) g.length g.length) _ rfl rfl (by first | exact wanted_none rfl | exact wanted_if rfl rfl rfl rfl) hs (fun z hz => by have dd := hz.1; go_simp) ?_
          go_frame
          refine ord_move (some 42) (.int .i64 i) _ _ rfl rfl rfl (by first | exact wanted_none rfl | exact wanted_if rfl rfl rfl rfl) hs rfl ?_
          go_frame
          refine ord_load (some 43) (.slice (some ⟨lb, 0, none⟩) g.length g.length) _ rfl rfl (by first | exact wanted_none rfl | exact wanted_if rfl rfl rfl rfl) hs (fun z hz => by have dd := hz.1; go_simp) ?_
          go_frame
          refine ord_move (some 44) (.int .i64 i) _ _ rfl rfl rfl (by first | exact wanted_none rfl | exact wanted_if rfl rfl rfl rfl) hs rfl ?_
          go_frame
          refine ord_load (some 45) (.pointer (some ⟨lb, i, none⟩)) _ rfl rfl (by first | exact wanted_none rfl | exact wanted_if rfl rfl rfl rfl) hs (fun z hz => by go_simp) ?_
          go_frame
          refine ord_load (some 46) (.int .i64 s) _ rfl rfl (by first | exact wanted_none rfl | exact wanted_if rfl rfl rfl rfl) hs (fun z hz => by have dd := hz.2.1; go_simp) ?_
          go_frame
          refine ord_load (some 47) (.slice (some ⟨lb, 0, none⟩) g.length g.length) _ rfl rfl (by first | exact wanted_none rfl | exact wanted_if rfl rfl rfl rfl) hs (fun z hz => by have dd := hz.1; go_simp) ?_
          go_frame
          refine ord_move (some 48) (.int .i64 x) _ _ rfl rfl rfl (by first | exact wanted_none rfl | exact wanted_if rfl rfl rfl rfl) hs rfl ?_
          go_frame
          refine ord_load (some 49) (.pointer (some ⟨lb, x, none⟩)) _ rfl rfl (by first | exact wanted_none rfl | exact wanted_if rfl rfl rfl rfl) hs (fun z hz => by go_simp) ?_
          go_frame
          refine ord_load (some 50) (.int .i64 t) _ rfl rfl (by first | exact wanted_none rfl | exact wanted_if rfl rfl rfl rfl) hs (fun z hz => by have dd := hz.2.2; go_simp) ?_
          go_frame
          refine ord_load (some 51) (.int .i64 (max s t)) _ rfl rfl (by first | exact wanted_none rfl | exact wanted_if rfl rfl rfl rfl) hs (fun z hz => by go_simp; done) ?_
          go_frame
          refine ord_load (some 52) (.pointer (some ⟨lb, i, none⟩)) _ rfl rfl (by first | exact wanted_none rfl | exact wanted_if rfl rfl rfl rfl) hs (fun z hz => by go_simp) ?_
          go_frame
          refine ord_tail ?_
          have d7 := hs.2.1
          have f7 : wr.drew.frozen? ⟨lb, i, none⟩ = false := HFR.out
          have HB7 : Hid (But W (wr.drew.setCell ⟨lb, i, none⟩ (.int .i64 (max s t))) lb lb) := Lib.hid ((HBJ.out.trans (But.of_below (Below.refl _ wr).drew _ _)).trans (But.set1 _ _ _ _ _))
          have HK7 : Hid (KeepsOthers W (wr.drew.setCell ⟨lb, i, none⟩ (.int .i64 (max s t)))) := Lib.hid ((HKO.out.trans (KeepsOthers.drew _)).trans (KeepsOthers.setCell _ _ _))
          have HR7 : Hid (RowL (wr.drew.setCell ⟨lb, i, none⟩ (.int .i64 (max s t))) lb (o.set i (fFold o (o.getD i 0) ((outs (graphE g) i).take (j + 1))))) := Lib.hid (by rw [HNX.out]; exact RowL.set (w := wr.drew) (HROWJ.out.below (Below.refl _ wr).drew HLBR.out) HLI.out _)
          clear hs
          go_wp2
          clear d7 f7
          simp only [onlyN]
          gi_wp2
          gi_roundg q
          case measure => omega
          case rel => exact ⟨j + 1, by omega, by go_num, HR7.out, HB7.out, HK7.out⟩
    case done =>
      rintro D ys W hD hys ⟨hrow, hbox, hbut⟩ hK
      have dl := hbox.cell
      have fl := hbox.fz
      have HXL10 := Lib.hid (hbox.set (.int .i64 (fPre (graphE g) (waitsL g) ys).2))
      have HB10 := Lib.hid (below_set (i := 0) (HBW8.out.trans (hbut.below HBW8.out.size (by have := HORD.out; omega) (by have := HORD.out; omega))) (Nat.le_of_lt HL1.out) (.int .i64 (fPre (graphE g) (waitsL g) ys).2))
      have hK' := (KeepsOthers.setCell W ⟨lb1, 0, none⟩ (.int .i64 (fPre (graphE g) (waitsL g) ys).2)).same D _ hK rfl
      have HWE := Lib.hid (fPre_end (E := graphE g) (ws := waitsL g) hys)
      have HD := Lib.hid hD
      have HD1 : Hid (lb1 ≠ D) := Lib.hid (by have := HXL8.out.lt; omega)
      clear hrow hbut hD hK hys hbox
      go_wp2
      clear dl fl
      generalize W.setCell ⟨lb1, 0, none⟩ (.int .i64 (fPre (graphE g) (waitsL g) ys).2) = WF at *
      refine ⟨by simp, .inl ⟨_, _, rfl, run_takeDeferred hK', ?_⟩⟩
      have hc5 := (HXL10.out.keep (World.putObj_heap_other (o := .deferred none) HD1.out)).cell
      have hb5 := HB10.out.trans (belowK_b (w := W8) HBW8.out.size WF D _ (.deferred none) HD.out hK' rfl rfl)
      refine ⟨.tuple #[.int .i64 (fPre (graphE g) (waitsL g) ys).2, .bool true], ?_, by rw [HL.out, HT.out, HWE.out], hb5⟩
      simp [results, Try.f22, go_sem, hc5]
end Go.Proofs.Ytedajbpjokmlaaa
