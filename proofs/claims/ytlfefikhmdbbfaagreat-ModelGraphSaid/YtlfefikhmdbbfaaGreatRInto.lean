/- ref12.Into, ref12.Out. -/
import Derived.Test.YtlfefikhmdbbfaaGreatOut
namespace Go.Proofs.YtlfefikhmdbbfaaGreat
open Go Go.RowKit
set_option linter.unusedVariables false

set_option maxHeartbeats 4000000 in
set_option maxRecDepth 100000 in
theorem rinto_any (g : List GN) (a : Int) (c0 c1 c2 c3 c4 v5 : Value) (w : World) (hg : GraphAt w w.heap.size v5 g) (hlen : (edgesOf g).length ≤ 10000) :
    Calls Tryz.prog 17 #[.agg ⟨[c0, c1, c2, c3, c4, v5]⟩, .int .i64 a] w (IntsPost w (intoL g a)) := by
  have HG := Lib.hid hg
  have HLEN := Lib.hid hlen
  obtain ⟨hgl, A, c, rfl, hA⟩ := hg
  clear hA hlen hgl
  obtain ⟨i0, hi, hz0, hz1, hz2⟩ := info_parts' info_int
  have HI0 := Lib.hid hi
  have HZ0 := Lib.hid hz0
  have HZ1 := Lib.hid hz1
  have HZ2 := Lib.hid hz2
  clear hi hz0 hz1 hz2
  have HIN : Hid (intoL g a = intoK (edgesOf g) a (edgesOf g).length) := Lib.hid rfl
  go_enter Tryz.func17, Tryz.ntmps17
  go_upto_region 1 with (fail)
  have HB := Lib.hid (box_below w (.cells ⟨[c0, c1, c2, c3, c4, .slice A g.length c]⟩ 27))
  have HR := Lib.hid (range_box w [c0, c1, c2, c3, c4, .slice A g.length c] 27)
  generalize w.alloc (.cells ⟨[c0, c1, c2, c3, c4, .slice A g.length c]⟩ 27) = W at *
  have HCE := Lib.hid (redges_any g c0 c1 c2 c3 c4 (.slice A g.length c) W (HG.out.next HB.out) HLEN.out)
  go_wp2_with (first | ((with_reducible refine wl_sload 27 _ rfl ?hw2 w.heap.size 0 [c0, c1, c2, c3, c4, .slice A g.length c] _ rfl HR.out Tryz.underlying27 rfl ?hi2 ?_); (case hw2 => first | exact wanted_none rfl | exact wanted_if rfl rfl rfl rfl); (case hi2 => kernel_rfl)) | (go_at_call 11; fail))
  refine HCE.out.mono ?_
  rintro e w3 ⟨v3, rfl, hown, hb3⟩
  obtain ⟨hel, EA, ec, rfl, hea⟩ := hown.at encE_len (by have := HLEN.out; omega)
  have HEB := Lib.hid hea
  have HB3 := Lib.hid hb3
  have HBW := Lib.hid (HB.out.trans (hb3.mono HB.out.size))
  clear hown hb3 hel hea HCE
  generalize edgesOf g = E at *
  have hle2 : (E.length : Int) ≤ 10000 := by have := HLEN.out; omega
  go_wp2
  go_loopg [5, 7] E.length (fun q v x u => ∃ j : Nat, j + q = E.length ∧ x = .int .i64 j ∧ OwnSl 3 1 encI u w3.heap.size v (intoK E a j) ∧ Below w3.heap.size w3 u)
  case atStart => exact ⟨0, by omega, rfl, OwnSl.nil _ _, Below.refl _ _⟩
  case round =>
    obtain ⟨j, hj, rfl, hown, hb⟩ := hrel
    have HO := Lib.hid hown
    have HBK := Lib.hid hb
    clear hown hb
    cases gk with
    | zero =>
      obtain rfl : j = E.length := by omega
      have hge : ¬ ((E.length : Int) < (E.length : Int)) := by omega
      go_wp2
      go_ret
      exact ⟨_, rfl, by rw [HIN.out]; exact HO.out.mono (Nat.le_trans HB.out.size HB3.out.size), HBW.out.trans (HBK.out.mono HBW.out.size)⟩
    | succ q =>
      have hlt2 : (j : Int) < (E.length : Int) := by omega
      obtain ⟨e, he⟩ : ∃ e, E[j]? = some e := ⟨_, List.getElem?_eq_getElem (by omega)⟩
      obtain ⟨b, o, rfl, hbl, hc⟩ := HEB.out (by omega)
      have HRE : Hid (wr.rangeAt b (o + j * 3) [.int .i64 e.1, .int .i64 e.2.1, .int .i64 e.2.2]) := Lib.hid (by
        obtain ⟨ks, h1, h2, h3⟩ := hc j e he
        have h3' : ks = encE e := h3
        subst h3'
        exact rangeAt_below h2 HBK.out hbl)
      have HYES := Lib.hid (fun h => intoK_yes (a := a) he h)
      have HNO := Lib.hid (fun h => intoK_no (a := a) he h)
      have hil := intoK_len E a j
      have HK1 : Hid ((intoK E a j).length + 1 ≤ maxLen) := Lib.hid (by have := HLEN.out; unfold maxLen; omega)
      have HK2 : Hid (((intoK E a j).length + 1) * 8 ≤ 140737488355328) := Lib.hid (by have := HLEN.out; omega)
      clear hc he hil
      have d2 : wr.cell? ⟨b, o + j * 3 + 2, none⟩ = some (.int .i64 e.2.2) := HRE.out 2 _ rfl
      by_cases hto : e.2.2 = a
      · have t1 : (e.2.2 == a) = true := by simpa using hto
        have HY := Lib.hid (HYES.out hto)
        have HWZ := Lib.hid (HO.out.below (box_below wr (.cells ⟨encI (j : Int)⟩ 3)))
        have HCX := Lib.hid (cells_box wr (encI (j : Int)) 3)
        have HBX := Lib.hid (HBK.out.alloc HBK.out.size (.cells ⟨encI (j : Int)⟩ 3))
        clear hto
        go_wp2_with (at_builtin; (refine wl_push rfl _ _ 32 rfl w3.heap.size 3 i0 (.int .i64 0) 1 8 encI Tryz.underlying32 HI0.out HZ0.out HZ1.out HZ2.out rfl (by decide) encI_len encI_one _ _ rfl HWZ.out wr.heap.size 1 (j : Int) rfl HCX.out HK1.out HK2.out HBX.out.size ?_; intro v6 w6 hown6 hg6; have HO6 := Lib.hid hown6; have HG6 := Lib.hid hg6; clear hown6 hg6))
        have HB6 := Lib.hid (push_below HBX.out HBX.out.size HWZ.out (Nat.le_refl _) HG6.out)
        go_roundg q
        case measure => omega
        case rel => exact ⟨j + 1, by omega, by go_num, by rw [HY.out]; exact HO6.out, HB6.out⟩
      · have t1 : (e.2.2 == a) = false := by simpa using hto
        have HN := Lib.hid (HNO.out hto)
        clear hto
        go_wp2
        go_roundg q
        case measure => omega
        case rel => exact ⟨j + 1, by omega, by go_num, by rw [HN.out]; exact HO.out, HBK.out⟩
theorem outP_split (n p : Int) (e : EdgeT) : outP n p e = (((e.1 : Int) == n) && ((e.2.1 : Int) == p)) := rfl
set_option maxHeartbeats 4000000 in
set_option maxRecDepth 100000 in
theorem rout_any (g : List GN) (a p : Int) (c0 c1 c2 c3 c4 v5 : Value) (w : World) (hg : GraphAt w w.heap.size v5 g) (hlen : (edgesOf g).length ≤ 10000) :
    Calls Tryz.prog 19 #[.agg ⟨[c0, c1, c2, c3, c4, v5]⟩, .int .i64 a, .int .i64 p] w fun e w' => e = .returned (.int .i64 (outK (edgesOf g) a p)) ∧ Below w.heap.size w w' := by
  have HG := Lib.hid hg
  have HLEN := Lib.hid hlen
  obtain ⟨hgl, A, c, rfl, hA⟩ := hg
  clear hA hlen hgl
  obtain ⟨ro, hro⟩ : ∃ ro, outK (edgesOf g) a p = ro := ⟨_, rfl⟩
  rw [hro]
  have HRO := Lib.hid hro
  clear hro
  go_enter Tryz.func19, Tryz.ntmps19
  go_upto_region 1 with (fail)
  have HB := Lib.hid (box_below w (.cells ⟨[c0, c1, c2, c3, c4, .slice A g.length c]⟩ 27))
  have HR := Lib.hid (range_box w [c0, c1, c2, c3, c4, .slice A g.length c] 27)
  generalize w.alloc (.cells ⟨[c0, c1, c2, c3, c4, .slice A g.length c]⟩ 27) = W at *
  have HCE := Lib.hid (redges_any g c0 c1 c2 c3 c4 (.slice A g.length c) W (HG.out.next HB.out) HLEN.out)
  go_wp2_with (first | ((with_reducible refine wl_sload 27 _ rfl ?hw2 w.heap.size 0 [c0, c1, c2, c3, c4, .slice A g.length c] _ rfl HR.out Tryz.underlying27 rfl ?hi2 ?_); (case hw2 => first | exact wanted_none rfl | exact wanted_if rfl rfl rfl rfl); (case hi2 => kernel_rfl)) | (go_at_call 11; fail))
  refine HCE.out.mono ?_
  rintro e w3 ⟨v3, rfl, hown, hb3⟩
  obtain ⟨hel, EA, ec, rfl, hea⟩ := hown.at encE_len (by have := HLEN.out; omega)
  have HEB := Lib.hid hea
  have HB3 := Lib.hid hb3
  have HBW := Lib.hid (HB.out.trans (hb3.mono HB.out.size))
  clear hown hb3 hel hea HCE
  generalize edgesOf g = E at *
  have hle2 : (E.length : Int) ≤ 10000 := by have := HLEN.out; omega
  go_wp2
  go_loopg [8] E.length (fun q x u => ∃ j : Nat, j + q = E.length ∧ x = .int .i64 j ∧ u = w3 ∧ ∀ (k : Nat), k < j → ∀ e, E[k]? = some e → outP a p e = false)
  case atStart => exact ⟨0, by omega, rfl, rfl, fun k hk => by omega⟩
  case round =>
    obtain ⟨j, hj, rfl, rfl, hno⟩ := hrel
    have HNO := Lib.hid hno
    have HBK := Lib.hid (Below.refl wr.heap.size wr)
    clear hno
    cases gk with
    | zero =>
      obtain rfl : j = E.length := by omega
      have hge : ¬ ((E.length : Int) < (E.length : Int)) := by omega
      have HV : Hid (outK E a p = -1) := Lib.hid (out_no fun k e he => HNO.out k (List.getElem?_eq_some_iff.1 he).1 e he)
      go_wp2
      go_ret
      exact ⟨ret_int (HV.out.symm.trans HRO.out), HBW.out⟩
    | succ q =>
      have hlt2 : (j : Int) < (E.length : Int) := by omega
      obtain ⟨e, he⟩ : ∃ e, E[j]? = some e := ⟨_, List.getElem?_eq_getElem (by omega)⟩
      obtain ⟨b, o, rfl, hbl, hc⟩ := HEB.out (by omega)
      have HRE : Hid (wr.rangeAt b (o + j * 3) [.int .i64 e.1, .int .i64 e.2.1, .int .i64 e.2.2]) := Lib.hid (by
        obtain ⟨ks, h1, h2, h3⟩ := hc j e he
        have h3' : ks = encE e := h3
        subst h3'
        exact rangeAt_below h2 HBK.out hbl)
      have HE := Lib.hid he
      clear hc he
      have d0 : wr.cell? ⟨b, o + j * 3, none⟩ = some (.int .i64 e.1) := HRE.out 0 _ rfl
      have d1 : wr.cell? ⟨b, o + j * 3 + 1, none⟩ = some (.int .i64 e.2.1) := HRE.out 1 _ rfl
      have HP := Lib.hid (outP_split a p e)
      have HNX : Hid (outP a p e = false → ∀ (k : Nat), k < j + 1 → ∀ e, E[k]? = some e → outP a p e = false) := Lib.hid (fun h k hk e' he' => by
        by_cases hkj : k = j
        · subst hkj
          rw [HE.out] at he'
          injection he' with he'
          rw [← he']; exact h
        · exact HNO.out k (by omega) e' he')
      by_cases h1 : (e.1 : Int) = a
      · have t1 : ((e.1 : Int) == a) = true := by simpa using h1
        by_cases h2 : (e.2.1 : Int) = p
        · have t2 : ((e.2.1 : Int) == p) = true := by simpa using h2
          have HV : Hid (outK E a p = j) := Lib.hid (out_yes HE.out (by rw [HP.out, t1, t2]; rfl) HNO.out)
          clear h1 h2
          go_wp2
          go_ret
          exact ⟨ret_int (HV.out.symm.trans HRO.out), HBW.out⟩
        · have t2 : ((e.2.1 : Int) == p) = false := by simpa using h2
          have HX := Lib.hid (HNX.out (by rw [HP.out, t2, Bool.and_false]))
          clear h1 h2
          go_wp2
          go_roundg q
          case measure => omega
          case rel => exact ⟨j + 1, by omega, by go_num, rfl, HX.out⟩
      · have t1 : ((e.1 : Int) == a) = false := by simpa using h1
        have HX := Lib.hid (HNX.out (by rw [HP.out, t1, Bool.false_and]))
        clear h1
        go_wp2
        go_roundg q
        case measure => omega
        case rel => exact ⟨j + 1, by omega, by go_num, rfl, HX.out⟩
end Go.Proofs.YtlfefikhmdbbfaaGreat
