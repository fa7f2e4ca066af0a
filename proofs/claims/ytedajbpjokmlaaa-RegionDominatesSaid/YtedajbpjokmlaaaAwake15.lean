/- The region's laws are awake. -/
import Derived.Test.YtedajbpjokmlaaaSame
import Derived.Test.YtedajbpjokmlaaaShape
namespace Go.Proofs.Ytedajbpjokmlaaa
open Go Go.RowKit
set_option linter.unusedVariables false

def g4 : List GN := [⟨[1, 2], -1, 0⟩, ⟨[3], -1, 0⟩, ⟨[3], -1, 0⟩, ⟨[], -1, 0⟩]
def g1 : List GN := [⟨[0], -1, 0⟩]
theorem g4_ord : ordL g4 = [0, 1, 2, 3] := by decide +kernel
theorem g4_ok : okOf g4 = true := by decide +kernel
theorem g4_wt : weightsL g4 = [5, 2, 2, 1] := by decide +kernel
theorem g1_ok : okOf g1 = false := by decide +kernel
theorem g4_dom : domsOf g4 0 3 = [0, 3] := by decide +kernel
theorem g1_loop : loopsOf g1 = [0] := by decide +kernel
theorem g4_len : (edgesOf g4).length = 4 ∧ g4.length = 4 := by decide +kernel
theorem g1_len : (edgesOf g1).length = 1 ∧ g1.length = 1 := by decide +kernel

theorem enc_one (A : Option Addr) (n c : Nat) (l : List Int) : ∀ v ∈ encN (.slice A n c, l), v.oneCell' = true :=
  List.all_eq_true.1 (show (encN (.slice A n c, l)).all (fun v => v.oneCell') = true from rfl)
theorem lit_at (w : World) (l : List Int) (hl : l.length ≤ 10000) (hw : ∀ x ∈ l, wfI x) : SlAt (w.alloc (.cells ⟨l.map (Value.int .i64)⟩ 3)) (w.heap.size + 1) 1 IntR (.slice (some ⟨w.heap.size, 0, none⟩) l.length l.length) l := by
  refine ⟨by omega, _, _, rfl, fun h0 => ⟨w.heap.size, 0, rfl, by omega, fun i x hx => ⟨encI x, rfl, fun j v hv => ?_, rfl, hw x (List.mem_of_getElem? hx)⟩⟩⟩
  have hj : j = 0 := by have := (List.getElem?_eq_some_iff.1 hv).1; simp [encI] at this; exact this
  subst hj
  have hv' : v = .int .i64 x := by simpa [encI] using hv.symm
  rw [hv', Nat.zero_add, Nat.mul_one, Nat.add_zero]
  exact cells_box w (l.map (Value.int .i64)) 3 i _ (by rw [List.getElem?_map, hx]; rfl)
theorem lit_v (w : World) (l : List Int) (hl : l.length ≤ 10000) : IntsV (w.alloc (.cells ⟨l.map (Value.int .i64)⟩ 3)) (.slice (some ⟨w.heap.size, 0, none⟩) l.length l.length) l := by
  refine ⟨by omega, _, _, rfl, fun h0 => ⟨w.heap.size, 0, rfl, box_size w _, fun i x hx => ⟨encI x, rfl, fun j v hv => ?_, rfl⟩⟩⟩
  have hj : j = 0 := by have := (List.getElem?_eq_some_iff.1 hv).1; simp [encI] at this; exact this
  subst hj
  have hv' : v = .int .i64 x := by simpa [encI] using hv.symm
  rw [hv', Nat.zero_add, Nat.mul_one, Nat.add_zero]
  exact cells_box w (l.map (Value.int .i64)) 3 i _ (by rw [List.getElem?_map, hx]; rfl)
def w4a (w : World) : World := ((w.alloc (.cells #[.int .i64 1, .int .i64 2] 3)).alloc (.cells #[.int .i64 3] 3)).alloc (.cells #[.int .i64 3] 3)
def ModelP (B : Nat) (w : World) (g : List GN) (e : Ending) (w' : World) : Prop := ∃ A c, e = .returned (.agg ⟨[.int .i64 0, .slice none 0 0, .slice none 0 0, .slice none 0 0, .slice none 0 0, .slice A g.length c]⟩) ∧ GraphAt w' w'.heap.size (.slice A g.length c) g ∧ Below B w w'
theorem shape4 (w : World) : Calls Try.prog 29 #[.slice (some ⟨w.heap.size + 1 + 1 + 1, 0, none⟩) 4 4] ((w4a w).alloc (.cells #[.slice (some ⟨w.heap.size, 0, none⟩) 2 2, .slice (some ⟨w.heap.size + 1, 0, none⟩) 1 1, .slice (some ⟨w.heap.size + 1 + 1, 0, none⟩) 1 1, .slice none 0 0] 34)) (ModelP w.heap.size w g4) := by
  have hs : (w4a w).heap.size = w.heap.size + 1 + 1 + 1 := by simp [w4a]
  have hb0 := box_below (w4a w) (.cells #[.slice (some ⟨w.heap.size, 0, none⟩) 2 2, .slice (some ⟨w.heap.size + 1, 0, none⟩) 1 1, .slice (some ⟨w.heap.size + 1 + 1, 0, none⟩) 1 1, .slice none 0 0] 34)
  have hz0 := box_size (w4a w) (.cells #[.slice (some ⟨w.heap.size, 0, none⟩) 2 2, .slice (some ⟨w.heap.size + 1, 0, none⟩) 1 1, .slice (some ⟨w.heap.size + 1 + 1, 0, none⟩) 1 1, .slice none 0 0] 34)
  have hc0 := cells_box (w4a w) [.slice (some ⟨w.heap.size, 0, none⟩) 2 2, .slice (some ⟨w.heap.size + 1, 0, none⟩) 1 1, .slice (some ⟨w.heap.size + 1 + 1, 0, none⟩) 1 1, .slice none 0 0] 34
  generalize hW : (w4a w).alloc (.cells #[.slice (some ⟨w.heap.size, 0, none⟩) 2 2, .slice (some ⟨w.heap.size + 1, 0, none⟩) 1 1, .slice (some ⟨w.heap.size + 1 + 1, 0, none⟩) 1 1, .slice none 0 0] 34) = W at *
  have hc1 : ∀ j v, ([.slice (some ⟨w.heap.size, 0, none⟩) 2 2, .slice (some ⟨w.heap.size + 1, 0, none⟩) 1 1, .slice (some ⟨w.heap.size + 1 + 1, 0, none⟩) 1 1, .slice none 0 0] : List Value)[j]? = some v → W.cell? ⟨(w4a w).heap.size, j, none⟩ = some v := by first | exact hc0 | (rw [← hW]; exact hc0)
  rw [hs] at hc1 hz0 hb0
  have b1 := box_below w (.cells #[.int .i64 1, .int .i64 2] 3)
  have b2 := box_below (w.alloc (.cells #[.int .i64 1, .int .i64 2] 3)) (.cells #[.int .i64 3] 3)
  have b3 := box_below ((w.alloc (.cells #[.int .i64 1, .int .i64 2] 3)).alloc (.cells #[.int .i64 3] 3)) (.cells #[.int .i64 3] 3)
  have s1 : (w.alloc (.cells #[.int .i64 1, .int .i64 2] 3)).heap.size = w.heap.size + 1 := by simp
  have s2 : ((w.alloc (.cells #[.int .i64 1, .int .i64 2] 3)).alloc (.cells #[.int .i64 3] 3)).heap.size = w.heap.size + 1 + 1 := by simp
  have i1 := lit_at w [1, 2] (by decide) (by intro x hx; simp at hx; rcases hx with rfl | rfl <;> rfl)
  have i2 := lit_at (w.alloc (.cells #[.int .i64 1, .int .i64 2] 3)) [3] (by decide) (by intro x hx; simp at hx; subst hx; rfl)
  have i3 := lit_at ((w.alloc (.cells #[.int .i64 1, .int .i64 2] 3)).alloc (.cells #[.int .i64 3] 3)) [3] (by decide) (by intro x hx; simp at hx; subst hx; rfl)
  rw [s1] at i2 b2
  rw [s2] at i3 b3
  have hbW : Below (w.heap.size + 1 + 1 + 1) (w4a w) W := hb0
  have hzW : W.heap.size = w.heap.size + 1 + 1 + 1 + 1 := by rw [← hW, World.alloc]; simp [hs]
  have hb3 : Below (w.heap.size + 1 + 1) ((w.alloc (.cells #[.int .i64 1, .int .i64 2] 3)).alloc (.cells #[.int .i64 3] 3)) W := b3.trans (hbW.mono (by omega))
  have hb2 : Below (w.heap.size + 1) (w.alloc (.cells #[.int .i64 1, .int .i64 2] 3)) W := b2.trans (hb3.mono (by omega))
  have hb1 : Below w.heap.size w W := b1.trans (hb2.mono (by omega))
  have j1 : SlAt W W.heap.size 1 IntR (.slice (some ⟨w.heap.size, 0, none⟩) 2 2) [1, 2] := (SlAt.below i1 hb2 fun _ _ _ h => h).more (by omega)
  have j2 : SlAt W W.heap.size 1 IntR (.slice (some ⟨w.heap.size + 1, 0, none⟩) 1 1) [3] := (SlAt.below i2 hb3 fun _ _ _ h => h).more (by omega)
  have j3 : SlAt W W.heap.size 1 IntR (.slice (some ⟨w.heap.size + 1 + 1, 0, none⟩) 1 1) [3] := (SlAt.below i3 hbW fun _ _ _ h => h).more (by omega)
  refine (shape_any [(.slice (some ⟨w.heap.size, 0, none⟩) 2 2, [1, 2]), (.slice (some ⟨w.heap.size + 1, 0, none⟩) 1 1, [3]), (.slice (some ⟨w.heap.size + 1 + 1, 0, none⟩) 1 1, [3]), (.slice none 0 0, [])] (w.heap.size + 1 + 1 + 1) 0 4 W (by simp) (fun i x hx => ?_) (by omega) (fun x hx => ?_)).mono ?_
  · rw [Nat.zero_add]
    match i, hx with
    | 0, hx => injection hx with hx; subst hx; exact hc1 0 _ rfl
    | 1, hx => injection hx with hx; subst hx; exact hc1 1 _ rfl
    | 2, hx => injection hx with hx; subst hx; exact hc1 2 _ rfl
    | 3, hx => injection hx with hx; subst hx; exact hc1 3 _ rfl
    | _ + 4, hx => simp at hx
  · simp only [List.mem_cons, List.not_mem_nil, or_false] at hx
    rcases hx with rfl | rfl | rfl | rfl
    · exact ⟨enc_one _ _ _ _, j1⟩
    · exact ⟨enc_one _ _ _ _, j2⟩
    · exact ⟨enc_one _ _ _ _, j3⟩
    · exact ⟨enc_one _ _ _ _, SlAt.nil _ _ _ _⟩
  · rintro e w' ⟨v5, rfl, hg, hb⟩
    have hg' : GraphAt w' w'.heap.size v5 g4 := hg
    obtain ⟨h1, A, c, rfl, h2⟩ := hg'
    exact ⟨A, c, rfl, hg, hb1.trans (hb.mono hb1.size)⟩
theorem shape1 (w : World) : Calls Try.prog 29 #[.slice (some ⟨w.heap.size + 1, 0, none⟩) 1 1] ((w.alloc (.cells #[.int .i64 0] 3)).alloc (.cells #[.slice (some ⟨w.heap.size, 0, none⟩) 1 1] 34)) (ModelP w.heap.size w g1) := by
  have hs : (w.alloc (.cells #[.int .i64 0] 3)).heap.size = w.heap.size + 1 := by simp
  have hb0 := box_below (w.alloc (.cells #[.int .i64 0] 3)) (.cells #[.slice (some ⟨w.heap.size, 0, none⟩) 1 1] 34)
  have hc0 := cells_box (w.alloc (.cells #[.int .i64 0] 3)) [.slice (some ⟨w.heap.size, 0, none⟩) 1 1] 34
  have hzW : ((w.alloc (.cells #[.int .i64 0] 3)).alloc (.cells #[.slice (some ⟨w.heap.size, 0, none⟩) 1 1] 34)).heap.size = w.heap.size + 1 + 1 := by simp
  have i1 := lit_at w [0] (by decide) (by intro x hx; simp at hx; subst hx; rfl)
  have b1 := box_below w (.cells #[.int .i64 0] 3)
  rw [hs] at hc0 hb0
  generalize hW : (w.alloc (.cells #[.int .i64 0] 3)).alloc (.cells #[.slice (some ⟨w.heap.size, 0, none⟩) 1 1] 34) = W at *
  have hc1 : ∀ j v, ([.slice (some ⟨w.heap.size, 0, none⟩) 1 1] : List Value)[j]? = some v → W.cell? ⟨w.heap.size + 1, j, none⟩ = some v := by first | exact hc0 | (rw [← hW]; exact hc0)
  have hb1 : Below w.heap.size w W := b1.trans (hb0.mono (by omega))
  have j1 : SlAt W W.heap.size 1 IntR (.slice (some ⟨w.heap.size, 0, none⟩) 1 1) [0] := (SlAt.below i1 hb0 fun _ _ _ h => h).more (by omega)
  refine (shape_any [(.slice (some ⟨w.heap.size, 0, none⟩) 1 1, [0])] (w.heap.size + 1) 0 1 W (by simp) (fun i x hx => ?_) (by omega) (fun x hx => ?_)).mono ?_
  · rw [Nat.zero_add]
    match i, hx with
    | 0, hx => injection hx with hx; subst hx; exact hc1 0 _ rfl
    | _ + 1, hx => simp at hx
  · simp only [List.mem_cons, List.not_mem_nil, or_false] at hx
    subst hx
    exact ⟨enc_one _ _ _ _, j1⟩
  · rintro e w' ⟨v5, rfl, hg, hb⟩
    have hg' : GraphAt w' w'.heap.size v5 g1 := hg
    obtain ⟨h1, A, c, rfl, h2⟩ := hg'
    exact ⟨A, c, rfl, hg, hb1.trans (hb.mono hb1.size)⟩

set_option maxHeartbeats 4000000 in
set_option maxRecDepth 100000 in
theorem awake15 (w : World) : Calls Try.prog 10 #[] w fun e w' => e = .returned (.bool true) ∧ Below w.heap.size w w' := by
  go_enter Try.func10, Try.ntmps10
  go_wp2_with (go_at_call 29; fail)
  refine (shape4 w).mono ?_
  rintro e w1 ⟨A, c, rfl, hg, hb⟩
  have HG1 := Lib.hid hg
  have HB1 := Lib.hid hb
  clear hg hb
  go_upto_region 2 with (fail)
  have HB2 := Lib.hid (HB1.out.alloc HB1.out.size (.cells ⟨[.int .i64 0, .slice none 0 0, .slice none 0 0, .slice none 0 0, .slice none 0 0, .slice A g4.length c]⟩ 27))
  have HR2 := Lib.hid (range_box w1 [.int .i64 0, .slice none 0 0, .slice none 0 0, .slice none 0 0, .slice none 0 0, .slice A g4.length c] 27)
  have HG2 := Lib.hid (HG1.out.next (box_below w1 (.cells ⟨[.int .i64 0, .slice none 0 0, .slice none 0 0, .slice none 0 0, .slice none 0 0, .slice A g4.length c]⟩ 27)))
  have HS2 := Lib.hid (box_size w1 (.cells ⟨[.int .i64 0, .slice none 0 0, .slice none 0 0, .slice none 0 0, .slice none 0 0, .slice A g4.length c]⟩ 27))
  obtain ⟨W2, hW2⟩ : ∃ W2, w1.alloc (.cells #[.int .i64 0, .slice none 0 0, .slice none 0 0, .slice none 0 0, .slice none 0 0, .slice A g4.length c] 27) = W2 := ⟨_, rfl⟩
  change Hid (Below w.heap.size w (w1.alloc (.cells #[.int .i64 0, .slice none 0 0, .slice none 0 0, .slice none 0 0, .slice none 0 0, .slice A g4.length c] 27))) at HB2
  change Hid ((w1.alloc (.cells #[.int .i64 0, .slice none 0 0, .slice none 0 0, .slice none 0 0, .slice none 0 0, .slice A g4.length c] 27)).rangeAt w1.heap.size 0 [.int .i64 0, .slice none 0 0, .slice none 0 0, .slice none 0 0, .slice none 0 0, .slice A g4.length c]) at HR2
  change Hid (w1.heap.size < (w1.alloc (.cells #[.int .i64 0, .slice none 0 0, .slice none 0 0, .slice none 0 0, .slice none 0 0, .slice A g4.length c] 27)).heap.size) at HS2
  change Hid (GraphAt (w1.alloc (.cells #[.int .i64 0, .slice none 0 0, .slice none 0 0, .slice none 0 0, .slice none 0 0, .slice A g4.length c] 27)) (w1.alloc (.cells #[.int .i64 0, .slice none 0 0, .slice none 0 0, .slice none 0 0, .slice none 0 0, .slice A g4.length c] 27)).heap.size (.slice A g4.length c) g4) at HG2
  rw [hW2] at HB2 HR2 HG2 HS2
  rw [hW2]
  clear HG1 HB1 hW2
  generalize w1.heap.size = mb at *
  have l4 : (edgesOf g4).length ≤ 10000 := by rw [g4_len.1]; decide
  have n4 : g4.length ≤ 5000 := by rw [g4_len.2]; decide
  have l1 : (edgesOf g1).length ≤ 10000 := by rw [g1_len.1]; decide
  have n1 : g1.length ≤ 5000 := by rw [g1_len.2]; decide
  have HL := Lib.hid (And.intro (And.intro l4 n4) (And.intro l1 n1))
  clear l4 n4 l1 n1
  have HCO := Lib.hid (order_any g4 (.int .i64 0) (.slice none 0 0) (.slice none 0 0) (.slice none 0 0) (.slice none 0 0) (.slice A g4.length c) W2 HG2.out HL.out.1.1 (Nat.le_trans HL.out.1.2 (by decide)))
  rw [g4_ord, g4_ok] at HCO
  go_upto_region 3 with (first | ((with_reducible refine wl_sload 27 _ rfl ?hw2 mb 0 [.int .i64 0, .slice none 0 0, .slice none 0 0, .slice none 0 0, .slice none 0 0, .slice A g4.length c] _ rfl HR2.out Try.underlying27 rfl ?hi2 ?_); (case hw2 => first | exact wanted_none rfl | exact wanted_if rfl rfl rfl rfl); (case hi2 => kernel_rfl)) | (go_at_call 15; refine HCO.out.mono ?_; rintro e w3 ⟨v3, rfl, hown3, hb3⟩; have HV3 := Lib.hid (OwnSl.ints hown3 (by decide)); have HB3 := Lib.hid hb3; clear hown3 hb3))
  have HBW3 := Lib.hid (HB2.out.trans (HB3.out.mono HB2.out.size))
  have HG3 := Lib.hid (HG2.out.next HB3.out)
  have HR3 := Lib.hid (rangeAt_below HR2.out HB3.out HS2.out)
  have HS3 := Lib.hid (Nat.lt_of_lt_of_le HS2.out HB3.out.size)
  clear HG2 HR2 HS2 HB3 HB2 HCO
  have HCO := Lib.hid (weights_any g4 (.int .i64 0) (.slice none 0 0) (.slice none 0 0) (.slice none 0 0) (.slice none 0 0) (.slice A g4.length c) w3 HG3.out HL.out.1.1 (Nat.le_trans HL.out.1.2 (by decide)))
  rw [g4_wt, g4_ok] at HCO
  go_upto_region 4 with (first | ((with_reducible refine wl_sload 27 _ rfl ?hw2 mb 0 [.int .i64 0, .slice none 0 0, .slice none 0 0, .slice none 0 0, .slice none 0 0, .slice A g4.length c] _ rfl HR3.out Try.underlying27 rfl ?hi2 ?_); (case hw2 => first | exact wanted_none rfl | exact wanted_if rfl rfl rfl rfl); (case hi2 => kernel_rfl)) | (go_at_call 16; refine HCO.out.mono ?_; rintro e w4 ⟨v4, rfl, hown4, hb4⟩; have HV4 := Lib.hid hown4; have HB4 := Lib.hid hb4; clear hown4 hb4))
  have HV34 := Lib.hid (HV3.out.below HB4.out)
  have HBW4 := Lib.hid (HBW3.out.trans (HB4.out.mono HBW3.out.size))
  have HG4 := Lib.hid (HG3.out.next HB4.out)
  have HR4 := Lib.hid (rangeAt_below HR3.out HB4.out HS3.out)
  have HS4 := Lib.hid (Nat.lt_of_lt_of_le HS3.out HB4.out.size)
  clear HG3 HR3 HS3 HB4 HBW3 HCO HV3
  go_wp2_with (go_at_call 29; fail)
  refine (shape1 w4).mono ?_
  rintro e w5 ⟨A5, c5, rfl, hg5, hb5⟩
  have HCO := Lib.hid (order_any g1 (.int .i64 0) (.slice none 0 0) (.slice none 0 0) (.slice none 0 0) (.slice none 0 0) (.slice A5 g1.length c5) w5 hg5 HL.out.2.1 (Nat.le_trans HL.out.2.2 (by decide)))
  rw [g1_ok] at HCO
  have HB5 := Lib.hid hb5
  clear hg5 hb5
  go_upto_region 5 with (go_at_call 15; refine HCO.out.mono ?_; rintro e w6 ⟨v6, rfl, hown6, hb6⟩; have HB6 := Lib.hid (HB5.out.trans (hb6.mono HB5.out.size)); clear hown6 hb6)
  have HV36 := Lib.hid (HV34.out.below HB6.out)
  have HV46 := Lib.hid (HV4.out.below HB6.out)
  have HBW6 := Lib.hid (HBW4.out.trans (HB6.out.mono HBW4.out.size))
  have HG6 := Lib.hid (HG4.out.next HB6.out)
  have HR6 := Lib.hid (rangeAt_below HR4.out HB6.out HS4.out)
  clear HG4 HR4 HS4 HB6 HBW4 HCO HV34 HV4 HB5
  have HCO := Lib.hid (dominators_any g4 0 (.int .i64 0) (.slice none 0 0) (.slice none 0 0) (.slice none 0 0) (.slice none 0 0) (.slice A g4.length c) w6 HG6.out HL.out.1.1 HL.out.1.2)
  go_upto_region 6 with (first | ((with_reducible refine wl_sload 27 _ rfl ?hw2 mb 0 [.int .i64 0, .slice none 0 0, .slice none 0 0, .slice none 0 0, .slice none 0 0, .slice A g4.length c] _ rfl HR6.out Try.underlying27 rfl ?hi2 ?_); (case hw2 => first | exact wanted_none rfl | exact wanted_if rfl rfl rfl rfl); (case hi2 => kernel_rfl)) | (go_at_call 13; refine HCO.out.mono ?_; rintro e w7 ⟨sb, C, V, rfl, hs7, hb7, _⟩; have HST7 := Lib.hid hs7; have HB7 := Lib.hid hb7; clear hs7 hb7))
  rw [g4_len.2] at HST7
  rw [g4_len.2]
  have HD3 : Hid (IntsV w7 (V 3) [0, 3]) := Lib.hid (by have := HST7.out.ints (i := 3) (by decide) (by rw [g4_dom]; decide); rwa [g4_dom] at this)
  have HV37 := Lib.hid (HV36.out.below HB7.out)
  have HV47 := Lib.hid (HV46.out.below HB7.out)
  have HBW7 := Lib.hid (HBW6.out.trans (HB7.out.mono HBW6.out.size))
  have HC3 : Hid (w7.cell? ⟨sb, 3, none⟩ = some (V 3)) := Lib.hid (HST7.out.row.c 3 (by decide))
  have HSB := Lib.hid HST7.out.lt
  clear HG6 HR6 HB7 HBW6 HCO HV36 HV46 HST7
  go_wp2_with (go_at_call 24; fail)
  have BA := box_below w7 (.cells ⟨[0, 1, 2, 3].map (Value.int .i64)⟩ 3)
  refine (same_ints v3 _ [0, 1, 2, 3] [0, 1, 2, 3] _ (HV37.out.below BA) (lit_v w7 [0, 1, 2, 3] (by decide))).mono ?_
  rintro e w8 ⟨rfl, m8, hw8⟩
  have HB8 : Hid (Below w7.heap.size w7 w8) := Lib.hid (by rw [hw8]; exact below_drewN BA m8)
  clear hw8 BA
  go_wp2_with (go_at_call 24; fail)
  have BA := box_below w8 (.cells ⟨[5, 2, 2, 1].map (Value.int .i64)⟩ 3)
  refine (same_ints v4 _ [5, 2, 2, 1] [5, 2, 2, 1] _ ((HV47.out.below HB8.out).below BA) (lit_v w8 [5, 2, 2, 1] (by decide))).mono ?_
  rintro e w9 ⟨rfl, m9, hw9⟩
  have HB9 : Hid (Below w7.heap.size w7 w9) := Lib.hid (HB8.out.trans (by rw [hw9]; exact (below_drewN BA m9).mono HB8.out.size))
  clear hw9 BA
  have d3 := (HB9.out.cell (p := ⟨sb, 3, none⟩) HSB.out).trans HC3.out
  go_wp2_with (go_at_call 24; fail)
  have BA := box_below w9 (.cells ⟨[0, 3].map (Value.int .i64)⟩ 3)
  refine (same_ints (V 3) _ [0, 3] [0, 3] _ ((HD3.out.below HB9.out).below BA) (lit_v w9 [0, 3] (by decide))).mono ?_
  rintro e w10 ⟨rfl, m10, hw10⟩
  have HB10 : Hid (Below w7.heap.size w7 w10) := Lib.hid (HB9.out.trans (by rw [hw10]; exact (below_drewN BA m10).mono HB9.out.size))
  clear hw10 BA d3
  go_wp2_with (go_at_call 29; fail)
  refine (shape1 w10).mono ?_
  rintro e w11 ⟨A11, c11, rfl, hg11, hb11⟩
  have HCO := Lib.hid (loops_any g1 (.int .i64 0) (.slice none 0 0) (.slice none 0 0) (.slice none 0 0) (.slice none 0 0) (.slice A11 g1.length c11) w11 hg11 HL.out.2.1 (Nat.le_trans HL.out.2.2 (by decide)))
  rw [g1_loop] at HCO
  have HB11 := Lib.hid (HB10.out.trans (hb11.mono HB10.out.size))
  clear hg11 hb11
  go_wp2_with (go_at_call 17; fail)
  refine HCO.out.mono ?_
  rintro e w12 ⟨v12, rfl, hown12, hb12⟩
  have HV12 := Lib.hid (OwnSl.ints hown12 (by decide))
  have HB12 := Lib.hid (HB11.out.trans (hb12.mono HB11.out.size))
  clear hown12 hb12
  go_wp2_with (go_at_call 24; fail)
  have BA := box_below w12 (.cells ⟨[0].map (Value.int .i64)⟩ 3)
  refine (same_ints v12 _ [0] [0] _ (HV12.out.below BA) (lit_v w12 [0] (by decide))).mono ?_
  rintro e w13 ⟨rfl, m13, hw13⟩
  have HB13 : Hid (Below w7.heap.size w7 w13) := Lib.hid (HB12.out.trans (by rw [hw13]; exact (below_drewN BA m13).mono HB12.out.size))
  clear hw13 BA
  go_wp2
  go_ret
  exact ⟨rfl, HBW7.out.trans (HB13.out.mono HBW7.out.size)⟩
end Go.Proofs.Ytedajbpjokmlaaa
