/- model.Out: the edge of a way out. -/
import Derived.Test.YtlfefikhmdbbfaaGreatInto
namespace Go.Proofs.YtlfefikhmdbbfaaGreat
open Go Go.RowKit
set_option linter.unusedVariables false

/-- an edge is that way out -/
def outP (n p : Int) (e : EdgeT) : Bool := ((e.1 : Int) == n) && ((e.2.1 : Int) == p)
def outK (E : List EdgeT) (n p : Int) : Int := if (E.findIdx? (outP n p)).isSome = true then ((E.findIdx? (outP n p)).getD 0 : Nat) else -1

theorem out_no {E : List EdgeT} {n p : Int} (h : ∀ (k : Nat) e, E[k]? = some e → outP n p e = false) : outK E n p = -1 := by
  have : E.findIdx? (outP n p) = none := by
    rw [List.findIdx?_eq_none_iff]
    intro e he
    obtain ⟨k, hk⟩ := List.mem_iff_getElem?.1 he
    exact h k e hk
  unfold outK
  rw [this]
  rfl
theorem out_yes {E : List EdgeT} {n p : Int} {j : Nat} {e : EdgeT} (hj : E[j]? = some e) (hp : outP n p e = true) (h : ∀ (k : Nat), k < j → ∀ e, E[k]? = some e → outP n p e = false) : outK E n p = j := by
  have : E.findIdx? (outP n p) = some j := by
    rw [List.findIdx?_eq_some_iff_getElem]
    obtain ⟨h1, h2⟩ := List.getElem?_eq_some_iff.1 hj
    refine ⟨h1, by rw [h2]; exact hp, fun k hk => ?_⟩
    have := h k hk (E[k]'(by omega)) (List.getElem?_eq_getElem _)
    simp [this]
  unfold outK
  rw [this]
  rfl

set_option maxHeartbeats 4000000 in
set_option maxRecDepth 100000 in
theorem out1_any (e : EdgeT) (n p : Int) (pb qb : Nat) (w : World) (hp : w.cell? ⟨pb, 0, none⟩ = some (.int .i64 n)) (hq : w.cell? ⟨qb, 0, none⟩ = some (.int .i64 p)) (hlp : pb < w.heap.size ∧ qb < w.heap.size) :
    Calls Tryz.prog 46 #[.agg #[.int .i64 e.1, .int .i64 e.2.1, .int .i64 e.2.2], .pointer (some ⟨pb, 0, none⟩), .pointer (some ⟨qb, 0, none⟩)] w fun e' w' => e' = .returned (.bool (outP n p e)) ∧ Below w.heap.size w w' := by
  have HB := Lib.hid (box_below w (.cells ⟨encE e⟩ 51))
  have HC := Lib.hid (cells_box w (encE e) 51)
  have HP := Lib.hid hp
  have HQ := Lib.hid hq
  have HL := Lib.hid hlp
  have HO : Hid (outP n p e = (((e.1 : Int) == n) && ((e.2.1 : Int) == p))) := Lib.hid rfl
  clear hp hq hlp
  go_enter Tryz.func46, Tryz.ntmps46
  go_upto_region 1 with (fail)
  have hz : w.alloc (.cells ⟨encE e⟩ 51) = w.alloc (.cells #[.int .i64 e.1, .int .i64 e.2.1, .int .i64 e.2.2] 51) := rfl
  rw [hz] at HB HC
  generalize w.alloc (.cells #[.int .i64 e.1, .int .i64 e.2.1, .int .i64 e.2.2] 51) = W at *
  have d0 : W.cell? ⟨w.heap.size, 0, none⟩ = some (.int .i64 e.1) := HC.out 0 _ rfl
  have d1 : W.cell? ⟨w.heap.size, 1, none⟩ = some (.int .i64 e.2.1) := HC.out 1 _ rfl
  have d2 := (HB.out.cell (p := ⟨pb, 0, none⟩) HL.out.1).trans HP.out
  have d3 := (HB.out.cell (p := ⟨qb, 0, none⟩) HL.out.2).trans HQ.out
  obtain ⟨eb, heb⟩ : ∃ eb, w.heap.size = eb := ⟨_, rfl⟩
  have HBB : Hid (Below w.heap.size w W) := HB
  rw [heb] at d0 d1
  rw [heb]
  clear heb hz
  by_cases h1 : (e.1 : Int) = n
  · have t1 : ((e.1 : Int) == n) = true := by simpa using h1
    by_cases h2 : (e.2.1 : Int) = p
    · have t2 : ((e.2.1 : Int) == p) = true := by simpa using h2
      have HT : Hid (outP n p e = true) := Lib.hid (by rw [HO.out, t1, t2]; rfl)
      clear h1 h2 HO
      go_wp2
      go_ret
      exact ⟨by rw [HT.out]; try rfl, HBB.out⟩
    · have t2 : ((e.2.1 : Int) == p) = false := by simpa using h2
      have HT : Hid (outP n p e = false) := Lib.hid (by rw [HO.out, t1, t2]; rfl)
      clear h1 h2 HO
      go_wp2
      go_ret
      exact ⟨by rw [HT.out]; try rfl, HBB.out⟩
  · have t1 : ((e.1 : Int) == n) = false := by simpa using h1
    have HT : Hid (outP n p e = false) := Lib.hid (by rw [HO.out, t1]; rfl)
    clear h1 HO
    go_wp2
    go_ret
    exact ⟨by rw [HT.out]; try rfl, HBB.out⟩

set_option maxHeartbeats 4000000 in
set_option maxRecDepth 100000 in
theorem index_any (E : List EdgeT) (n p : Int) (v : Value) (pb qb : Nat) (w : World) (hv : SlAt w w.heap.size 3 (Enc encE) v E) (hE : E.length ≤ 10000) (hp : w.cell? ⟨pb, 0, none⟩ = some (.int .i64 n)) (hq : w.cell? ⟨qb, 0, none⟩ = some (.int .i64 p)) (hlp : pb < w.heap.size ∧ qb < w.heap.size) :
    Calls Tryz.prog 45 #[v, .func (.func 46) #[] #[.pointer (some ⟨pb, 0, none⟩), .pointer (some ⟨qb, 0, none⟩)]] w fun e w' => e = .returned (.int .i64 (outK E n p)) ∧ Below w.heap.size w w' := by
  obtain ⟨hel, EA, ec, rfl, hea⟩ := hv
  have HEB := Lib.hid hea
  have HO1 := Lib.hid (fun e u (hu : Below w.heap.size w u) => out1_any e n p pb qb u ((hu.cell (p := ⟨pb, 0, none⟩) hlp.1).trans hp) ((hu.cell (p := ⟨qb, 0, none⟩) hlp.2).trans hq) ⟨Nat.lt_of_lt_of_le hlp.1 hu.size, Nat.lt_of_lt_of_le hlp.2 hu.size⟩)
  have HNONE := Lib.hid (out_no (E := E) (n := n) (p := p))
  have HSOME := Lib.hid (fun j e => out_yes (E := E) (n := n) (p := p) (j := j) (e := e))
  clear hp hq hlp
  have hle2 : (E.length : Int) ≤ 10000 := by omega
  clear hea hel
  go_enter Tryz.func45, Tryz.ntmps45
  go_wp2
  go_loopg [8] E.length (fun q x u => ∃ j : Nat, j + q = E.length ∧ x = .int .i64 j ∧ Below w.heap.size w u ∧ ∀ k, k < j → ∀ e, E[k]? = some e → outP n p e = false)
  case atStart => exact ⟨0, by omega, rfl, Below.refl _ _, fun k hk => absurd hk (Nat.not_lt_zero k)⟩
  case round =>
    obtain ⟨j, hj, rfl, hb, hno⟩ := hrel
    have HBK := Lib.hid hb
    have HNO := Lib.hid hno
    clear hb hno
    cases gk with
    | zero =>
      obtain rfl : j = E.length := by omega
      have hge : ¬ ((E.length : Int) < (E.length : Int)) := by omega
      have HR : Hid (outK E n p = -1) := Lib.hid (HNONE.out fun k e he => HNO.out k (List.getElem?_eq_some_iff.1 he).1 e he)
      go_wp2
      go_ret
      exact ⟨by rw [HR.out]; try rfl, HBK.out⟩
    | succ q =>
      have hlt2 : (j : Int) < (E.length : Int) := by omega
      obtain ⟨e, he⟩ : ∃ e, E[j]? = some e := ⟨_, List.getElem?_eq_getElem (by omega)⟩
      obtain ⟨b, o, rfl, hbl, hc⟩ := HEB.out (by omega)
      have HRE : Hid (wr.rangeAt b (o + j * 3) [.int .i64 e.1, .int .i64 e.2.1, .int .i64 e.2.2]) := Lib.hid (by
        obtain ⟨ks, h1, h2, h3⟩ := hc j e he
        have h3' : ks = encE e := h3
        subst h3'
        exact rangeAt_below h2 HBK.out hbl)
      have HE := Lib.hid he
      have HC1 := Lib.hid (HO1.out e wr HBK.out)
      clear hc he
      cases ho : outP n p e with
      | true =>
        have HR : Hid (outK E n p = j) := Lib.hid (HSOME.out j e HE.out ho fun k hk e' he' => HNO.out k hk e' he')
        rw [ho] at HC1
        clear ho
        go_wp2_with (first | ((with_reducible refine wl_sload 51 _ rfl ?hw b (o + j * 3) [.int .i64 e.1, .int .i64 e.2.1, .int .i64 e.2.2] _ rfl HRE.out Tryz.underlying51 rfl ?hi ?_); (case hw => first | exact wanted_none rfl | exact wanted_if rfl rfl rfl rfl); (case hi => kernel_rfl)) | (go_at_call 46; refine HC1.out.mono ?_; rintro e' w4 ⟨rfl, hb4⟩; have HB4 := Lib.hid hb4; clear hb4))
        go_ret
        exact ⟨by rw [HR.out]; try rfl, HBK.out.trans (HB4.out.mono HBK.out.size)⟩
      | false =>
        have HNX : Hid (∀ k, k < j + 1 → ∀ e, E[k]? = some e → outP n p e = false) := Lib.hid fun k hk e' he' => by
          by_cases ek : k = j
          · subst ek
            have := HE.out
            rw [he'] at this
            injection this with this
            rw [this]; exact ho
          · exact HNO.out k (by omega) e' he'
        rw [ho] at HC1
        clear ho
        go_wp2_with (first | ((with_reducible refine wl_sload 51 _ rfl ?hw b (o + j * 3) [.int .i64 e.1, .int .i64 e.2.1, .int .i64 e.2.2] _ rfl HRE.out Tryz.underlying51 rfl ?hi ?_); (case hw => first | exact wanted_none rfl | exact wanted_if rfl rfl rfl rfl); (case hi => kernel_rfl)) | (go_at_call 46; refine HC1.out.mono ?_; rintro e' w4 ⟨rfl, hb4⟩; have HB4 := Lib.hid hb4; clear hb4))
        go_roundg q
        case measure => omega
        case rel => exact ⟨j + 1, by omega, by go_num, HBK.out.trans (HB4.out.mono HBK.out.size), HNX.out⟩

set_option maxHeartbeats 4000000 in
set_option maxRecDepth 100000 in
theorem out_any (g : List GN) (a p : Int) (c0 c1 c2 c3 c4 v5 : Value) (w : World) (hg : GraphAt w w.heap.size v5 g) (hlen : (edgesOf g).length ≤ 10000) :
    Calls Tryz.prog 18 #[.agg ⟨[c0, c1, c2, c3, c4, v5]⟩, .int .i64 a, .int .i64 p] w fun e w' => e = .returned (.int .i64 (outK (edgesOf g) a p)) ∧ Below w.heap.size w w' := by
  have HG := Lib.hid hg
  have HLEN := Lib.hid hlen
  obtain ⟨hgl, A, c, rfl, hA⟩ := hg
  clear hA hlen hgl
  go_enter Tryz.func18, Tryz.ntmps18
  go_upto_region 1 with (fail)
  have HB1 := Lib.hid (box_below w (.cells ⟨[c0, c1, c2, c3, c4, .slice A g.length c]⟩ 27))
  have HS1 := Lib.hid (box_size w (.cells ⟨[c0, c1, c2, c3, c4, .slice A g.length c]⟩ 27))
  have HR1 := Lib.hid (range_box w [c0, c1, c2, c3, c4, .slice A g.length c] 27)
  have HSE : Hid ((w.alloc (.cells ⟨[c0, c1, c2, c3, c4, .slice A g.length c]⟩ 27)).heap.size = w.heap.size + 1) := Lib.hid (by simp)
  generalize w.alloc (.cells ⟨[c0, c1, c2, c3, c4, .slice A g.length c]⟩ 27) = W1 at *
  have HX2 := Lib.hid (Box1.new W1 (.int .i64 a) 3)
  have HB2 := Lib.hid (box_below W1 (.cells #[.int .i64 a] 3))
  have HSE2 : Hid ((W1.alloc (.cells #[.int .i64 a] 3)).heap.size = w.heap.size + 1 + 1) := Lib.hid (by rw [← HSE.out]; simp)
  rw [HSE.out] at HX2
  generalize W1.alloc (.cells #[.int .i64 a] 3) = W2 at *
  have HX3 := Lib.hid (Box1.new W2 (.int .i64 p) 3)
  have HB3 := Lib.hid (box_below W2 (.cells #[.int .i64 p] 3))
  have HX23 := Lib.hid (HX2.out.below HB3.out HX2.out.lt)
  rw [HSE2.out] at HX3
  generalize W2.alloc (.cells #[.int .i64 p] 3) = W3 at *
  have HB23 := Lib.hid (HB2.out.trans (HB3.out.mono HB2.out.size))
  have HBW := Lib.hid (HB1.out.trans (HB23.out.mono HB1.out.size))
  have HR3 := Lib.hid (rangeAt_below HR1.out HB23.out HS1.out)
  obtain ⟨pb, hpb⟩ : ∃ pb, w.heap.size + 1 = pb := ⟨_, rfl⟩
  rw [hpb] at HX3 HX23
  rw [hpb]
  obtain ⟨qb, hqb⟩ : ∃ qb, pb + 1 = qb := ⟨_, rfl⟩
  rw [hqb] at HX3
  rw [hqb]
  have HCE := Lib.hid (edges_any g c0 c1 c2 c3 c4 (.slice A g.length c) W3 (HG.out.next HBW.out) HLEN.out)
  clear HB1 HS1 HR1 HSE HX2 HB2 HSE2 HB3 HB23 hpb hqb
  go_wp2_with (first | ((with_reducible refine wl_sload 27 _ rfl ?hw2 w.heap.size 0 [c0, c1, c2, c3, c4, .slice A g.length c] _ rfl HR3.out Tryz.underlying27 rfl ?hi2 ?_); (case hw2 => first | exact wanted_none rfl | exact wanted_if rfl rfl rfl rfl); (case hi2 => kernel_rfl)) | (go_at_call 10; refine HCE.out.mono ?_; rintro e w4 ⟨v4, rfl, hown, hb4⟩; have HB4 := Lib.hid hb4; have HI := Lib.hid (index_any (edgesOf g) a p v4 pb qb w4 (hown.at encE_len (by have := HLEN.out; omega)) HLEN.out (HX23.out.below hb4 HX23.out.lt).cell (HX3.out.below hb4 HX3.out.lt).cell ⟨(HX23.out.below hb4 HX23.out.lt).lt, (HX3.out.below hb4 HX3.out.lt).lt⟩); clear hown hb4) | (go_at_call 45; refine HI.out.mono ?_; rintro e w5 ⟨rfl, hb5⟩; have HB5 := Lib.hid hb5; clear hb5))
  go_ret
  exact ⟨rfl, HBW.out.trans ((HB4.out.trans (HB5.out.mono HB4.out.size)).mono HBW.out.size)⟩
end Go.Proofs.YtlfefikhmdbbfaaGreat
