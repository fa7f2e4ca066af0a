/- model.Into: the edges that lead to a node. -/
import Derived.Test.YtlfefikhmdbbfaaGreatModA
namespace Go.Proofs.YtlfefikhmdbbfaaGreat
open Go Go.RowKit
set_option linter.unusedVariables false

/-- the edges that lead to a node, among the first k -/
def intoK (E : List EdgeT) (a : Int) : Nat → List Int
  | 0 => []
  | k + 1 => intoK E a k ++ if (E.map fun e => e.2.2)[k]? = some a then [(k : Int)] else []
def intoL (g : List GN) (a : Int) : List Int := intoK (edgesOf g) a (edgesOf g).length
theorem intoK_len (E : List EdgeT) (a : Int) : ∀ k, (intoK E a k).length ≤ k
  | 0 => Nat.le_refl _
  | k + 1 => by
    unfold intoK
    rw [List.length_append]
    have := intoK_len E a k
    split
    · rw [List.length_singleton]; omega
    · simp only [List.length_nil]; omega
theorem intoK_yes {E : List EdgeT} {a : Int} {k : Nat} {e : EdgeT} (h : E[k]? = some e) (ha : e.2.2 = a) : intoK E a (k + 1) = intoK E a k ++ [(k : Int)] := by
  show intoK E a k ++ (if (E.map fun e => e.2.2)[k]? = some a then [(k : Int)] else []) = _
  rw [if_pos (by rw [List.getElem?_map, h]; simp [ha])]
theorem intoK_no {E : List EdgeT} {a : Int} {k : Nat} {e : EdgeT} (h : E[k]? = some e) (ha : e.2.2 ≠ a) : intoK E a (k + 1) = intoK E a k := by
  show intoK E a k ++ (if (E.map fun e => e.2.2)[k]? = some a then [(k : Int)] else []) = _
  rw [if_neg (by rw [List.getElem?_map, h]; simpa using ha), List.append_nil]

set_option maxHeartbeats 4000000 in
set_option maxRecDepth 100000 in
theorem into_any (g : List GN) (a : Int) (c0 c1 c2 c3 c4 v5 : Value) (w : World) (hg : GraphAt w w.heap.size v5 g) (hlen : (edgesOf g).length ≤ 10000) :
    Calls Tryz.prog 16 #[.agg ⟨[c0, c1, c2, c3, c4, v5]⟩, .int .i64 a] w (IntsPost w (intoL g a)) := by
  have HG := Lib.hid hg
  have HLEN := Lib.hid hlen
  obtain ⟨hgl, A, c, rfl, hA⟩ := hg
  clear hA hlen hgl
  obtain ⟨i0, hi, hz0, hz1, hz2⟩ := info_parts' info_int
  have HI0 := Lib.hid hi
  have HZ0 := Lib.hid hz0
  have HZ1 := Lib.hid hz1
  have HZ2 := Lib.hid hz2
  clear hi hz0 hz1 hz2
  have HIN : Hid (intoL g a = intoK (edgesOf g) a (edgesOf g).length) := Lib.hid rfl
  go_enter Tryz.func16, Tryz.ntmps16
  go_upto_region 1 with (fail)
  have HB := Lib.hid (box_below w (.cells ⟨[c0, c1, c2, c3, c4, .slice A g.length c]⟩ 27))
  have HR := Lib.hid (range_box w [c0, c1, c2, c3, c4, .slice A g.length c] 27)
  generalize w.alloc (.cells ⟨[c0, c1, c2, c3, c4, .slice A g.length c]⟩ 27) = W at *
  have HCE := Lib.hid (edges_any g c0 c1 c2 c3 c4 (.slice A g.length c) W (HG.out.next HB.out) HLEN.out)
  go_wp2_with (first | ((with_reducible refine wl_sload 27 _ rfl ?hw2 w.heap.size 0 [c0, c1, c2, c3, c4, .slice A g.length c] _ rfl HR.out Tryz.underlying27 rfl ?hi2 ?_); (case hw2 => first | exact wanted_none rfl | exact wanted_if rfl rfl rfl rfl); (case hi2 => kernel_rfl)) | (go_at_call 10; fail))
  refine HCE.out.mono ?_
  rintro e w3 ⟨v3, rfl, hown, hb3⟩
  obtain ⟨hel, EA, ec, rfl, hea⟩ := hown.at encE_len (by have := HLEN.out; omega)
  have HEB := Lib.hid hea
  have HB3 := Lib.hid hb3
  have HBW := Lib.hid (HB.out.trans (hb3.mono HB.out.size))
  clear hown hb3 hel hea HCE
  generalize edgesOf g = E at *
  have hle2 : (E.length : Int) ≤ 10000 := by have := HLEN.out; omega
  go_wp2
  go_loopg [4, 10] E.length (fun q v x u => ∃ j : Nat, j + q = E.length ∧ x = .int .i64 j ∧ OwnSl 3 1 encI u w3.heap.size v (intoK E a j) ∧ Below w3.heap.size w3 u)
  case atStart => exact ⟨0, by omega, rfl, OwnSl.nil _ _, Below.refl _ _⟩
  case round =>
    obtain ⟨j, hj, rfl, hown, hb⟩ := hrel
    have HO := Lib.hid hown
    have HBK := Lib.hid hb
    clear hown hb
    cases gk with
    | zero =>
      obtain rfl : j = E.length := by omega
      have hge : ¬ ((E.length : Int) < (E.length : Int)) := by omega
      go_wp2
      go_ret
      exact ⟨_, rfl, by rw [HIN.out]; exact HO.out.mono (Nat.le_trans HB.out.size HB3.out.size), HBW.out.trans (HBK.out.mono HBW.out.size)⟩
    | succ q =>
      have hlt2 : (j : Int) < (E.length : Int) := by omega
      obtain ⟨e, he⟩ : ∃ e, E[j]? = some e := ⟨_, List.getElem?_eq_getElem (by omega)⟩
      obtain ⟨b, o, rfl, hbl, hc⟩ := HEB.out (by omega)
      have HRE : Hid (wr.rangeAt b (o + j * 3) [.int .i64 e.1, .int .i64 e.2.1, .int .i64 e.2.2]) := Lib.hid (by
        obtain ⟨ks, h1, h2, h3⟩ := hc j e he
        have h3' : ks = encE e := h3
        subst h3'
        exact rangeAt_below h2 HBK.out hbl)
      have HYES := Lib.hid (fun h => intoK_yes (a := a) he h)
      have HNO := Lib.hid (fun h => intoK_no (a := a) he h)
      have hil := intoK_len E a j
      have HK1 : Hid ((intoK E a j).length + 1 ≤ maxLen) := Lib.hid (by have := HLEN.out; unfold maxLen; omega)
      have HK2 : Hid (((intoK E a j).length + 1) * 8 ≤ 140737488355328) := Lib.hid (by have := HLEN.out; omega)
      clear hc he hil
      go_upto_region 4 with (first | ((with_reducible refine wl_sload 51 _ rfl ?hw b (o + j * 3) [.int .i64 e.1, .int .i64 e.2.1, .int .i64 e.2.2] _ rfl HRE.out Tryz.underlying51 rfl ?hi ?_); (case hw => first | exact wanted_none rfl | exact wanted_if rfl rfl rfl rfl); (case hi => kernel_rfl)) | ((with_reducible refine wl_sbox 51 _ _ rfl ?hw wr ?z (encE e) ?hwld ?hz ?hx ?hy ?hi ?h1 ?_); (case hwld => rfl); (case hx => rfl); (case hy => rfl); (case hw => first | exact wanted_none rfl | exact wanted_if rfl rfl rfl rfl); (case hz => rfl); (case hi => kernel_rfl); (case h1 => exact encE_one e); intro Z hbx; have HX := Lib.hid hbx; clear hbx))
      have HBZ := Lib.hid (HBK.out.trans (HX.out.below.mono HBK.out.size))
      have HOZ := Lib.hid (HO.out.below HX.out.below)
      obtain ⟨eb, heb⟩ : ∃ eb, wr.heap.size = eb := ⟨_, rfl⟩
      have d2 : Z.cell? ⟨eb, 2, none⟩ = some (.int .i64 e.2.2) := heb ▸ HX.out.cell 2 rfl
      rw [heb]
      clear heb HX HRE
      by_cases hto : e.2.2 = a
      · have t1 : (e.2.2 == a) = true := by simpa using hto
        have HY := Lib.hid (HYES.out hto)
        have HWZ := Lib.hid (HOZ.out.below (box_below Z (.cells ⟨encI (j : Int)⟩ 3)))
        have HCX := Lib.hid (cells_box Z (encI (j : Int)) 3)
        have HBX := Lib.hid (HBZ.out.alloc HBZ.out.size (.cells ⟨encI (j : Int)⟩ 3))
        clear hto
        go_wp2_with (at_builtin; (refine wl_push rfl _ _ 32 rfl w3.heap.size 3 i0 (.int .i64 0) 1 8 encI Tryz.underlying32 HI0.out HZ0.out HZ1.out HZ2.out rfl (by decide) encI_len encI_one _ _ rfl HWZ.out Z.heap.size 1 (j : Int) rfl HCX.out HK1.out HK2.out HBX.out.size ?_; intro v6 w6 hown6 hg6; have HO6 := Lib.hid hown6; have HG6 := Lib.hid hg6; clear hown6 hg6))
        have HB6 := Lib.hid (push_below HBX.out HBX.out.size HWZ.out (Nat.le_refl _) HG6.out)
        go_roundg q
        case measure => omega
        case rel => exact ⟨j + 1, by omega, by go_num, by rw [HY.out]; exact HO6.out, HB6.out⟩
      · have t1 : (e.2.2 == a) = false := by simpa using hto
        have HN := Lib.hid (HNO.out hto)
        clear hto
        go_wp2
        go_roundg q
        case measure => omega
        case rel => exact ⟨j + 1, by omega, by go_num, by rw [HN.out]; exact HOZ.out, HBZ.out⟩
end Go.Proofs.YtlfefikhmdbbfaaGreat
