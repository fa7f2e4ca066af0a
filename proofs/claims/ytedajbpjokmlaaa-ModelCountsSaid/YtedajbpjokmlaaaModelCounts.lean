/- THE STATEMENT ModelCounts is proved: for every model the Go function ModelCounts returns true, and its argument reads afterwards as before; without conditions. -/
import Derived.Test.YtedajbpjokmlaaaAwake12
import Derived.Test.YtedajbpjokmlaaaCountsP
import Derived.Test.YtedajbpjokmlaaaOpen
namespace Go.Proofs.Ytedajbpjokmlaaa
open Go.ChangeShapes Go.WideShapes Go.ChangeAt Go.RowKit Go
set_option linter.unusedVariables false

set_option maxHeartbeats 8000000 in
set_option maxRecDepth 100000 in
theorem modelCounts_walk (w : World) (cs : List Value) (m : ModelT) (hv : ModelAt w w.heap.size cs m) :
    Calls Try.prog 9 #[.agg ⟨cs⟩] w fun e w' => e = .returned (.bool true) ∧ Below w.heap.size w w' := by
  have HM := Lib.hid hv
  obtain ⟨c1, c2, c3, c4, v5, rfl, hg⟩ := hv.graph
  have hgg : GraphAt w w.heap.size v5 (gOf m) := hg
  have HSG := Lib.hid (fun (h : SmallM m) => small_g h)
  generalize gOf m = g at *
  obtain ⟨c0, hc0⟩ : ∃ c0, c0 = Value.int .i64 m.labels := ⟨_, rfl⟩
  rw [← hc0] at HM
  rw [← hc0]
  clear hg hc0
  have HG := Lib.hid hgg
  obtain ⟨hgl, A, c, rfl, hA⟩ := hgg
  clear hA hgl
  go_enter Try.func9, Try.ntmps9
  go_upto_region 1 with (fail)
  have HB1 := Lib.hid (box_below w (.cells ⟨[c0, c1, c2, c3, c4, .slice A g.length c]⟩ 27))
  have HS1 := Lib.hid (box_size w (.cells ⟨[c0, c1, c2, c3, c4, .slice A g.length c]⟩ 27))
  have HC1 := Lib.hid (cells_box w [c0, c1, c2, c3, c4, .slice A g.length c] 27 5 _ rfl)
  have HR1 := Lib.hid (range_box w [c0, c1, c2, c3, c4, .slice A g.length c] 27)
  generalize w.alloc (.cells ⟨[c0, c1, c2, c3, c4, .slice A g.length c]⟩ 27) = W1 at *
  go_wp2_with (go_at_call 26; fail)
  refine (awake12 _).mono ?_
  rintro e w2 ⟨rfl, hb2⟩
  have HR2 := Lib.hid (rangeAt_below HR1.out hb2 HS1.out)
  have HBW2 := Lib.hid (HB1.out.trans (hb2.mono HB1.out.size))
  have HS2 := Lib.hid (Nat.lt_of_lt_of_le HS1.out hb2.size)
  have HC2 := Lib.hid ((hb2.cell (p := ⟨w.heap.size, 5, none⟩) HS1.out).trans HC1.out)
  clear HR1 HB1 HS1 HC1 hb2
  go_wp2_with (first | ((with_reducible refine wl_sload 27 _ rfl ?hw2 w.heap.size 0 [c0, c1, c2, c3, c4, .slice A g.length c] _ rfl HR2.out Try.underlying27 rfl ?hi2 ?_); (case hw2 => first | exact wanted_none rfl | exact wanted_if rfl rfl rfl rfl); (case hi2 => kernel_rfl)) | (go_at_call 11; fail))
  refine (msmall m _ w2 (HM.out.next HBW2.out)).mono ?_
  rintro e w3 ⟨b, rfl, hb3, hsm⟩
  have HR3 := Lib.hid (rangeAt_below HR2.out hb3 HS2.out)
  have HBW3 := Lib.hid (HBW2.out.trans (hb3.mono HBW2.out.size))
  have HS3 := Lib.hid (Nat.lt_of_lt_of_le HS2.out hb3.size)
  have HC3 := Lib.hid ((hb3.cell (p := ⟨w.heap.size, 5, none⟩) HS2.out).trans HC2.out)
  clear HR2 HBW2 HS2 HC2 hb3
  cases b with
  | false =>
    clear hsm
    go_wp2_with (go_at_call 26; fail)
    refine (awake12 _).mono ?_
    rintro e w4 ⟨rfl, hb4⟩
    have HBW4 := Lib.hid (HBW3.out.trans (hb4.mono HBW3.out.size))
    clear hb4
    go_wp2
    go_ret
    exact ⟨rfl, HBW4.out⟩
  | true =>
    have hsg := HSG.out (hsm rfl)
    have HN : Hid (g.length ≤ 100) := Lib.hid hsg.1
    have HEN : Hid ((edgesOf g).length ≤ 4100) := Lib.hid hsg.2
    have HL1 : Hid ((edgesOf g).length ≤ 10000) := Lib.hid (by have := HEN.out; omega)
    have HL2 : Hid (g.length ≤ 10000) := Lib.hid (by have := HN.out; omega)
    have HL3 : Hid (g.length ≤ 5000) := Lib.hid (by have := HN.out; omega)
    have HG3 := Lib.hid (HG.out.next HBW3.out)
    have hn2 : (g.length : Int) ≤ 100 := by have := HN.out; omega
    clear hsg hsm HG HSG
    have HCE := Lib.hid (edges_any g c0 c1 c2 c3 c4 (.slice A g.length c) w3 HG3.out HL1.out)
    go_upto_region 4 with (first | ((with_reducible refine wl_sload 27 _ rfl ?hw2 w.heap.size 0 [c0, c1, c2, c3, c4, .slice A g.length c] _ rfl HR3.out Try.underlying27 rfl ?hi2 ?_); (case hw2 => first | exact wanted_none rfl | exact wanted_if rfl rfl rfl rfl); (case hi2 => kernel_rfl)) | (go_at_call 18; refine HCE.out.mono ?_; rintro e w4 ⟨v4, rfl, hown, hb⟩; obtain ⟨hel, EA, ec, hvE, hea⟩ := hown.at encE_len (by have := HL1.out; omega); subst hvE; have HEB := Lib.hid hea; have HB4 := Lib.hid hb; clear hown hb hel hea))
    clear HCE
    have HR4 := Lib.hid (rangeAt_below HR3.out HB4.out HS3.out)
    have HBW4 := Lib.hid (HBW3.out.trans (HB4.out.mono HBW3.out.size))
    have HS4 := Lib.hid (Nat.lt_of_lt_of_le HS3.out HB4.out.size)
    have HC4 := Lib.hid ((HB4.out.cell (p := ⟨w.heap.size, 5, none⟩) HS3.out).trans HC3.out)
    have HG4 := Lib.hid (HG3.out.next HB4.out)
    clear HR3 HBW3 HS3 HC3 HG3
    have d5 := HC4.out
    have HAG : Hid (0 < g.length → ∃ b o, A = some ⟨b, o, none⟩ ∧ b < w4.heap.size ∧ ∀ (i : Nat) x, g[i]? = some x → ∃ cs : List Value, cs.length = 29 ∧ w4.rangeAt b (o + i * 29) cs ∧ GraphR w4 w4.heap.size cs x) := Lib.hid (by
      obtain ⟨_, A', c', h1, h2⟩ := HG4.out
      injection h1 with h1 _ _
      subst h1
      exact h2)
    have HTL := Lib.hid (fun i x h => take_len (g := g) (i := i) (x := x) h)
    have HPL := Lib.hid (fun i => edges_part_len g i)
    have HTE : Hid (edgesOf (g.take g.length) = edgesOf g) := Lib.hid (by rw [List.take_of_length_le (Nat.le_refl _)])
    have HSELF := Lib.hid (fun j e h => out_self (g := g) (j := j) (e := e) h)
    have HINS := Lib.hid (fun k => sumInto_succ g k)
    have hle2 : ((edgesOf g).length : Int) ≤ 4100 := by have := HEN.out; omega
    go_wp2
    clear d5
    go_loopg [4, 25] g.length (fun q n x u => ∃ i : Nat, i + q = g.length ∧ x = .int .i64 i ∧ n = .int .i64 ((edgesOf (g.take i)).length : Nat) ∧ Below w4.heap.size w4 u)
    case atStart => exact ⟨0, by omega, rfl, rfl, Below.refl _ _⟩
    case round =>
      obtain ⟨i, hi, rfl, rfl, hb⟩ := hrel
      have HBK := Lib.hid hb
      clear hb
      cases gk with
      | succ q =>
        have hlt : (i : Int) < (g.length : Int) := by omega
        obtain ⟨y, hy⟩ : ∃ y, g[i]? = some y := ⟨_, List.getElem?_eq_getElem (by omega)⟩
        obtain ⟨b, o, rfl, hbb, hc⟩ := HAG.out (by omega)
        obtain ⟨ks, hcl, hr, hR⟩ := hc i y hy
        have HRK := Lib.hid (rangeAt_below hr HBK.out hbb)
        have HKL := Lib.hid hcl
        have HVA := Lib.hid (hR.under HBK.out)
        obtain ⟨vn, hvn, hns⟩ := hR.next
        obtain ⟨hnl, NA, nc, rfl, hna⟩ := hns
        have HVN := Lib.hid hvn
        have ht := HTL.out i y hy
        have hp := HPL.out (i + 1)
        have hp0 := HPL.out i
        clear hc hcl hr hR hvn hna hy
        go_upto_region 8 with (first | ((with_reducible refine wl_sload 55 _ rfl ?hw b (o + i * 29) ks _ rfl HRK.out Try.underlying55 rfl ?hi ?_); (case hw => first | exact wanted_none rfl | exact wanted_if rfl rfl rfl rfl); (case hi => rw [HKL.out]; kernel_rfl)) | ((with_reducible refine wl_sbox 55 _ _ rfl ?hw wr ?zn ks ?hwld ?hz ?hx ?hy ?hi ?h1 ?_); (case hwld => rfl); (case hx => rfl); (case hy => rfl); (case hw => first | exact wanted_none rfl | exact wanted_if rfl rfl rfl rfl); (case hz => rw [HKL.out]; rfl); (case hi => rw [HKL.out]; kernel_rfl); (case h1 => exact HVA.out.one); intro Z hbx; have HX := Lib.hid hbx; clear hbx))
        have HBZ := Lib.hid (HBK.out.trans (HX.out.below.mono HBK.out.size))
        obtain ⟨nb, hnb⟩ : ∃ nb, wr.heap.size = nb := ⟨_, rfl⟩
        have dn : Z.cell? ⟨nb, 2, none⟩ = some (.slice NA y.next.length nc) := by rw [← hnb]; exact HX.out.cell 2 HVN.out
        have dk : Z.cell? ⟨nb, 26, none⟩ = some (.int .i64 y.catch_) := by rw [← hnb]; exact HX.out.cell 26 HVA.out.catch_
        rw [hnb]
        clear hnb HX HRK
        generalize (edgesOf (g.take i)).length = s at *
        generalize hs2 : (edgesOf (g.take (i + 1))).length = s2 at *
        by_cases hk : 0 ≤ y.catch_
        · rw [if_pos hk] at ht
          have t1 : decide (0 ≤ y.catch_) = true := decide_eq_true hk
          have HT4 : Hid (wrap64 (wrap64 ((s : Int) + (y.next.length : Int)) + 1) = (s2 : Int)) := Lib.hid (by rw [IntWalk.wrap64_in ((s : Int) + (y.next.length : Int)) (by omega), IntWalk.wrap64_in _ (by omega)]; omega)
          clear hp hp0 ht
          go_wp2
          go_roundg q
          case measure => omega
          case rel => exact ⟨i + 1, by omega, by go_num, by rw [hs2, HT4.out], HBZ.out⟩
        · rw [if_neg hk] at ht
          have t1 : decide (0 ≤ y.catch_) = false := decide_eq_false hk
          have t2 : IntKind.i64.wrap ((s : Int) + (y.next.length : Int)) = (s2 : Int) := by rw [IntKind.wrap_i64]; omega
          clear hp hp0 ht
          go_wp2
          go_roundg q
          case measure => omega
          case rel => exact ⟨i + 1, by omega, by go_num, by rw [hs2], HBZ.out⟩
      | zero =>
        obtain rfl : i = g.length := by omega
        have hge : ¬ ((g.length : Int) < (g.length : Int)) := by omega
        rw [HTE.out]
        have HR5 := Lib.hid (rangeAt_below HR4.out HBK.out HS4.out)
        have HC5 := Lib.hid ((HBK.out.cell (p := ⟨w.heap.size, 5, none⟩) HS4.out).trans HC4.out)
        have HG5 := Lib.hid (HG4.out.next HBK.out)
        have HBW5 := Lib.hid (HBW4.out.trans (HBK.out.mono HBW4.out.size))
        have HS5 := Lib.hid (Nat.lt_of_lt_of_le HS4.out HBK.out.size)
        have HEB5 : Hid (0 < (edgesOf g).length → ∃ b o, EA = some ⟨b, o, none⟩ ∧ b < wr.heap.size ∧ ∀ (i : Nat) e, (edgesOf g)[i]? = some e → wr.rangeAt b (o + i * 3) [.int .i64 e.1, .int .i64 e.2.1, .int .i64 e.2.2]) := Lib.hid fun h0 => by
          obtain ⟨b, o, h1, h2, h3⟩ := HEB.out h0
          refine ⟨b, o, h1, Nat.lt_of_lt_of_le h2 HBK.out.size, fun i e he => ?_⟩
          obtain ⟨ks, k1, k2, k3⟩ := h3 i e he
          have k3' : ks = encE e := k3
          subst k3'
          exact rangeAt_below k2 HBK.out h2
        clear HR4 HC4 HG4 HBW4 HS4 HBK HEB HAG HTL HPL HTE HB4
        have HOC := Lib.hid (fun (a p : Int) z (hz : Below wr.heap.size wr z) => out_any g a p c0 c1 c2 c3 c4 (.slice A g.length c) z (HG5.out.next hz) HL1.out)
        have HIC := Lib.hid (fun (a : Int) z (hz : Below wr.heap.size wr z) => into_any g a c0 c1 c2 c3 c4 (.slice A g.length c) z (HG5.out.next hz) HL1.out)
        have HSE := Lib.hid (fun k => sumInto_le (edgesOf g) k)
        have HIE := Lib.hid (fun j => inK_le g.length (edgesOf g) j)
        have HIS := Lib.hid (fun j e h => inK_succ (n := g.length) (j := j) (E := edgesOf g) (e := e) h)
        have HEND := Lib.hid (sumInto_end (edgesOf g) g.length)
        have HZER := Lib.hid (sumInto_zero (edgesOf g))
        generalize hgi : intoL g = IL at *
        clear hgi
        generalize edgesOf g = E at *
        obtain ⟨W5, rfl⟩ : ∃ W5, W5 = wr := ⟨_, rfl⟩
        clear hge
        go_wp2
        go_loopg [8, 42] E.length (fun q n x u => ∃ j : Nat, j + q = E.length ∧ x = .int .i64 j ∧ n = .int .i64 (inK g.length E j : Nat) ∧ Below W5.heap.size W5 u)
        case atStart => exact ⟨0, by omega, rfl, rfl, Below.refl _ _⟩
        case round =>
          obtain ⟨j, hj, rfl, rfl, hb⟩ := hrel
          have HBK := Lib.hid hb
          clear hb
          cases gk with
          | succ q =>
            have hlt : (j : Int) < (E.length : Int) := by omega
            obtain ⟨e, he⟩ : ∃ e, E[j]? = some e := ⟨_, List.getElem?_eq_getElem (by omega)⟩
            obtain ⟨b, o, rfl, hbl, hc⟩ := HEB5.out (by omega)
            have HRE := Lib.hid (rangeAt_below (hc j e he) HBK.out hbl)
            have hself := HSELF.out j e he
            have hins := HIS.out j e he
            have hil := HIE.out (j + 1)
            clear hc he
            go_upto_region 16 with (first | ((with_reducible refine wl_sload 41 _ rfl ?hw b (o + j * 3) [.int .i64 e.1, .int .i64 e.2.1, .int .i64 e.2.2] _ rfl HRE.out Try.underlying41 rfl ?hi ?_); (case hw => first | exact wanted_none rfl | exact wanted_if rfl rfl rfl rfl); (case hi => kernel_rfl)) | ((with_reducible refine wl_sbox 41 _ _ rfl ?hw wr ?z (encE e) ?hwld ?hz ?hx ?hy ?hi ?h1 ?_); (case hwld => rfl); (case hx => rfl); (case hy => rfl); (case hw => first | exact wanted_none rfl | exact wanted_if rfl rfl rfl rfl); (case hz => rfl); (case hi => kernel_rfl); (case h1 => exact encE_one e); intro Z hbx; have HX := Lib.hid hbx; clear hbx))
            have HBZ := Lib.hid (HBK.out.trans (HX.out.below.mono HBK.out.size))
            obtain ⟨eb, heb⟩ : ∃ eb, wr.heap.size = eb := ⟨_, rfl⟩
            have d0 : Z.cell? ⟨eb, 0, none⟩ = some (.int .i64 e.1) := heb ▸ HX.out.cell 0 rfl
            have d1 : Z.cell? ⟨eb, 1, none⟩ = some (.int .i64 e.2.1) := heb ▸ HX.out.cell 1 rfl
            have d2 : Z.cell? ⟨eb, 2, none⟩ = some (.int .i64 e.2.2) := heb ▸ HX.out.cell 2 rfl
            have HEZ : Hid (eb < Z.heap.size) := Lib.hid (heb ▸ HX.out.size)
            have HRZ := Lib.hid (rangeAt_below HR5.out HBZ.out HS5.out)
            have HCO := Lib.hid (HOC.out e.1 e.2.1 Z HBZ.out)
            rw [hself] at HCO
            rw [heb]
            clear heb HX HRE hself
            go_wp2_with (first | ((with_reducible refine wl_sload 27 _ rfl ?hw2 w.heap.size 0 [c0, c1, c2, c3, c4, .slice A g.length c] _ rfl HRZ.out Try.underlying27 rfl ?hi2 ?_); (case hw2 => first | exact wanted_none rfl | exact wanted_if rfl rfl rfl rfl); (case hi2 => kernel_rfl)) | (go_at_call 27; fail))
            refine HCO.out.mono ?_
            rintro e' w6 ⟨rfl, hb6⟩
            have HB6 := Lib.hid (HBZ.out.trans (hb6.mono HBZ.out.size))
            have dd2 := (hb6.cell (p := ⟨eb, 2, none⟩) HEZ.out).trans d2
            have dn := (HB6.out.cell (p := ⟨w.heap.size, 5, none⟩) HS5.out).trans HC5.out
            clear d0 d1 d2 hb6 HCO HRZ HEZ HBZ HBK
            have tj : ((j : Int) != (j : Int)) = false := by simp
            generalize inK g.length E j = s at *
            generalize hs2 : inK g.length E (j + 1) = s2 at *
            by_cases h0 : 0 ≤ e.2.2
            · by_cases h1 : e.2.2 < g.length
              · rw [if_pos (okE_iff.2 ⟨h0, h1⟩)] at hins
                have t1 : decide (0 ≤ e.2.2) = true := decide_eq_true h0
                have t2 : decide (e.2.2 < (g.length : Int)) = true := decide_eq_true h1
                have t3 : IntKind.i64.wrap ((s : Int) + 1) = (s2 : Int) := by rw [IntKind.wrap_i64]; omega
                clear hins hil
                go_wp2
                go_roundg q
                case measure => omega
                case rel => exact ⟨j + 1, by omega, by go_num, by rw [hs2], HB6.out⟩
              · rw [if_neg (fun h => h1 (okE_iff.1 h).2), Nat.add_zero] at hins
                have h1' : (g.length : Int) ≤ e.2.2 := by omega
                have t1 : decide (0 ≤ e.2.2) = true := decide_eq_true h0
                have t2 : decide (e.2.2 < (g.length : Int)) = false := decide_eq_false h1
                clear h0 h1
                go_wp2
                go_roundg q
                case measure => omega
                case rel => exact ⟨j + 1, by omega, by go_num, by rw [hs2, hins], HB6.out⟩
            · rw [if_neg (fun h => h0 (okE_iff.1 h).1), Nat.add_zero] at hins
              have t1 : decide (0 ≤ e.2.2) = false := decide_eq_false h0
              have h0' : e.2.2 < 0 := by omega
              clear h0
              go_wp2
              go_roundg q
              case measure => omega
              case rel => exact ⟨j + 1, by omega, by go_num, by rw [hs2, hins], HB6.out⟩
          | zero =>
            obtain rfl : j = E.length := by omega
            have hge : ¬ ((E.length : Int) < (E.length : Int)) := by omega
            rw [← HEND.out]
            have dn := (HBK.out.cell (p := ⟨w.heap.size, 5, none⟩) HS5.out).trans HC5.out
            obtain ⟨W6, rfl⟩ : ∃ W6, W6 = wr := ⟨_, rfl⟩
            go_wp2
            clear hge dn
            go_loopg [5, 72] g.length (fun q n x u => ∃ k : Nat, k + q = g.length ∧ x = .int .i64 k ∧ n = .int .i64 (sumInto E k : Nat) ∧ Below W5.heap.size W5 u)
            case atStart => exact ⟨0, by omega, rfl, by rw [HZER.out]; rfl, HBK.out⟩
            case round =>
              obtain ⟨k, hk, rfl, rfl, hb⟩ := hrel
              clear HBK
              have HBK := Lib.hid hb
              clear hb
              cases gk with
              | zero =>
                obtain rfl : k = g.length := by omega
                have hge : ¬ ((g.length : Int) < (g.length : Int)) := by omega
                go_wp2
                go_ret
                exact ⟨rfl, HBW5.out.trans (HBK.out.mono HBW5.out.size)⟩
              | succ q =>
                have hlt : (k : Int) < (g.length : Int) := by omega
                have HRZ := Lib.hid (rangeAt_below HR5.out HBK.out HS5.out)
                have HCI := Lib.hid (HIC.out (k : Int) wr HBK.out)
                have hsu := HINS.out k
                have hsl := HSE.out (k + 1)
                go_upto_region 25 with (first | ((with_reducible refine wl_sload 27 _ rfl ?hw2 w.heap.size 0 [c0, c1, c2, c3, c4, .slice A g.length c] _ rfl HRZ.out Try.underlying27 rfl ?hi2 ?_); (case hw2 => first | exact wanted_none rfl | exact wanted_if rfl rfl rfl rfl); (case hi2 => kernel_rfl)) | (go_at_call 28; refine HCI.out.mono ?_; rintro e w9 ⟨v9, rfl, hown, hb9⟩; obtain ⟨A9, c9, hv9⟩ := own_sl hown; subst hv9; have HB9 := Lib.hid hb9; clear hown hb9))
                have HBU := Lib.hid (HBK.out.trans (HB9.out.mono HBK.out.size))
                generalize hil : (IL (k : Int)).length = il at *
                generalize sumInto E k = s at *
                generalize hs2 : sumInto E (k + 1) = s2 at *
                have HT5 : Hid ((s : Int) + (il : Int) = (s2 : Int)) := Lib.hid (by omega)
                have hsl2 : (s : Int) + (il : Int) ≤ 4100 := by omega
                clear HCI HRZ HB9 HBK hsu hsl
                go_wp2
                go_roundg q
                case measure => omega
                case rel => exact ⟨k + 1, by omega, by go_num, by rw [hs2, HT5.out], HBU.out⟩

set_option maxRecDepth 100000 in
/-- the row's step, argument by argument -/
theorem modelCounts_lifted (os : Os) (started : os.Started) (H : Type) (enc : TypeId × Value → H) :
    ReturnsInHanded {} Try.checked os 9 .any (Rows.modelCountsSpec.pre6 enc Try.prog Try.f9 Rows.modelCountsRow.domain false) (Rows.modelCountsSpec.post enc Try.prog Try.f9 false true false false) := by
  refine returnsInHanded_of_change (C := Try.checked) own started (by kernel_rfl) Try.func9
    (ChangeSpec.witness6 (enc := enc) (C := Try.checked) false ⟨#[], #[.agg #[.int .i64 0, .slice none 0 0, .slice none 0 0, .slice none 0 0, .slice none 0 0, .slice none 0 0]], []⟩ 8 (by kernel_rfl) (by kernel_rfl) (by kernel_rfl) (by kernel_rfl)) ?_
  intro W base args ds gs before hval0 hW hcnd _
  have hval : ∀ (j : Nat) t v, Try.f9.params[j]? = some t → args[j]? = some v → Value.okWide Try.prog W .any base t v := hval0
  have hW' := hW
  obtain ⟨p, q, hA0, hV, rfl, hfz, hnd⟩ := hW
  have hA : DataW.TrodAll enc Try.prog W 0 (fun _ => true) true Try.f9.params.toList args.toList ds p := hA0
  rw [Try.params9] at hA hval
  obtain ⟨v0, vs0, d0, ds0, p0, q0, hargs, rfl, rfl, h0, r0⟩ := trodAll_cons hA
  obtain ⟨rfl, rfl, rfl⟩ := trodAll_nil r0
  obtain rfl : args = #[v0] := by cases args; simp_all
  obtain ⟨rfl, rfl⟩ := trodVars_none hV
  have k0 := h0
  have lt0 := lt_of_trod k0
  obtain ⟨cs0, m0, rfl, hm0⟩ := model_arg (hval 0 27 v0 rfl rfl) h0
  clear hA0 hval0
  refine (modelCounts_walk W cs0 m0 hm0).mono fun e W' ⟨he, bel⟩ => ?_
  subst he
  exact ⟨_, rfl, _, _, _, [], _, [], hW', trodAll_mk1 (shut_bool Try.underlying4 _), (trodAll_cons_mk (Below.trod laidOut (by kernel_rfl) (of_decide_eq_true (by kernel_rfl)) k0 bel lt0) trodAll_mk0), rfl, bel.frame _, fun h => by cases h⟩

theorem modelCounts_proved : Rows.ModelCountsSaid :=
  OpenClaim.holds_of_wide 9 Try.f9 rfl rfl rfl rfl rfl rfl rfl ⟨rfl, rfl, rfl, rfl, rfl⟩ rfl rfl rfl rfl rfl (by kernel_rfl) Try.func9 (by kernel_rfl)
    (of_decide_eq_true (by kernel_rfl)) (by unfold Func.isWrapper; first | (rw [if_pos (by decide +kernel)]; kernel_rfl) | (rw [if_neg (by decide +kernel)]; exact ⟨rfl, rfl⟩))
    (fun os started H enc _ => modelCounts_lifted os started H enc)
#print axioms modelCounts_proved

end Go.Proofs.Ytedajbpjokmlaaa
