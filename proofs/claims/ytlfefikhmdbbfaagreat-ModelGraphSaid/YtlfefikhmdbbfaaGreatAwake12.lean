/- law12.awake. -/
import Derived.Test.YtlfefikhmdbbfaaGreatPlainG
import Derived.Test.YtlfefikhmdbbfaaGreatOrder3
namespace Go.Proofs.YtlfefikhmdbbfaaGreat
open Go Go.RowKit
set_option linter.unusedVariables false

theorem one_int {W : World} {b : Nat} {l : List Int} (h : ∀ (j : Nat) v, (l.map fun x => Value.int .i64 x)[j]? = some v → W.cell? ⟨b, j, none⟩ = some v) (hb : b < W.heap.size) (hl : l.length ≤ 100) : SlAt W W.heap.size 1 (Enc encI) (.slice (some ⟨b, 0, none⟩) l.length l.length) l := by
  refine ⟨by omega, _, _, rfl, fun _ => ⟨b, 0, rfl, hb, fun i x hx => ⟨encI x, rfl, fun j u hu => ?_, rfl⟩⟩⟩
  have hj : j = 0 := by
    have := (List.getElem?_eq_some_iff.1 hu).1
    have h6 : (encI x).length = 1 := rfl
    omega
  subst hj
  injection hu with hu
  rw [← hu, Nat.mul_one, Nat.add_zero, Nat.zero_add]
  exact h i _ (by rw [List.getElem?_map, hx]; rfl)
theorem plain12 {W : World} {b1 b2 b3 : Nat} (h1 : ∀ (j : Nat) v, [Value.int .i64 1][j]? = some v → W.cell? ⟨b1, j, none⟩ = some v) (h2 : ∀ (j : Nat) v, [Value.int .i64 2, Value.int .i64 0][j]? = some v → W.cell? ⟨b2, j, none⟩ = some v)
    (h3 : ∀ (j : Nat) v, (encC (.slice (some ⟨b1, 0, none⟩) 1 1) (-1) ++ encC (.slice (some ⟨b2, 0, none⟩) 2 2) 2 ++ encC (.slice none 0 0) (-1))[j]? = some v → W.cell? ⟨b3, j, none⟩ = some v) (hb : b1 < W.heap.size ∧ b2 < W.heap.size ∧ b3 < W.heap.size) :
    PlainAt W (.slice (some ⟨b3, 0, none⟩) 3 3) L12 := by
  refine ⟨by decide, _, _, rfl, fun _ => ⟨b3, 0, rfl, hb.2.2, fun i x hx => ?_⟩⟩
  have hi : i < 3 := (List.getElem?_eq_some_iff.1 hx).1
  match i, hi with
  | 0, _ =>
    injection hx with hx
    subst hx
    exact ⟨_, rfl, fun j u hu => by
      rw [Nat.zero_mul, Nat.add_zero, Nat.zero_add]
      have hj : j < 29 := (List.getElem?_eq_some_iff.1 hu).1
      exact h3 j u (by rw [List.append_assoc, List.getElem?_append_left (by rw [encC_len]; omega)]; exact hu), _, rfl, one_int (l := [1]) h1 hb.1 (by decide)⟩
  | 1, _ =>
    injection hx with hx
    subst hx
    exact ⟨_, rfl, fun j u hu => by
      have hj : j < 29 := (List.getElem?_eq_some_iff.1 hu).1
      exact h3 (0 + 1 * 29 + j) u (by
        rw [List.append_assoc, List.getElem?_append_right (by rw [encC_len]; omega), encC_len, List.getElem?_append_left (by rw [encC_len]; omega), show 0 + 1 * 29 + j - 29 = j by omega]
        exact hu), _, rfl, one_int (l := [2, 0]) h2 hb.2.1 (by decide)⟩
  | 2, _ =>
    injection hx with hx
    subst hx
    exact ⟨_, rfl, fun j u hu => by
      have hj : j < 29 := (List.getElem?_eq_some_iff.1 hu).1
      exact h3 (0 + 2 * 29 + j) u (by
        rw [List.append_assoc, List.getElem?_append_right (by rw [encC_len]; omega), encC_len, List.getElem?_append_right (by rw [encC_len]; omega), encC_len, show 0 + 2 * 29 + j - 29 - 29 = j by omega]
        exact hu), _, rfl, ⟨by decide, none, 0, rfl, fun h0 => absurd h0 (Nat.lt_irrefl 0)⟩⟩

def t12c : OrdT := .act 30 (.take 31 (.take 32 (.take 33 (.act 34 (.take 35 (.take 36 (.take 37 (.take 38 (.take 39 (.take 40 (.act 41 (.act 42 (.take 43 (.take 44 .done))))))))))))))
def t12b : OrdT := .act 14 (.take 15 (.take 16 (.take 17 (.act 18 (.take 19 (.take 20 (.take 21 (.take 22 (.act 23 (.take 24 (.take 25 (.take 26 (.take 27 (.two 28 29 (.act 29 t12c) (.act 28 t12c)))))))))))))))
def t12a : OrdT := .take 0 (.take 1 (.take 2 (.take 3 (.take 4 (.take 5 (.take 6 (.take 7 (.take 8 (.take 9 (.take 10 (.take 11 (.two 12 13 (.act 13 t12b) (.act 12 t12b)))))))))))))
set_option maxHeartbeats 4000000 in
set_option maxRecDepth 100000 in
theorem awake12 (w : World) : Calls Tryz.prog 5 #[] w fun e w' => e = .returned (.bool true) ∧ Below w.heap.size w w' := by
  go_enter Tryz.func5, Tryz.ntmps5
  go_upto_region 2 with (fail)
  have HC1 : Hid (∀ (j : Nat) v, [Value.int .i64 1][j]? = some v → (w.alloc (.cells #[Value.int .i64 1] 3)).cell? ⟨w.heap.size, j, none⟩ = some v) := Lib.hid (cells_box w [Value.int .i64 1] 3)
  have HB1 := Lib.hid (box_below w (.cells #[Value.int .i64 1] 3))
  have HS1 : Hid ((w.alloc (.cells #[Value.int .i64 1] 3)).heap.size = w.heap.size + 1) := Lib.hid (by simp)
  generalize w.alloc (.cells #[Value.int .i64 1] 3) = W1 at *
  have HC2 : Hid (∀ (j : Nat) v, [Value.int .i64 2, Value.int .i64 0][j]? = some v → (W1.alloc (.cells #[Value.int .i64 2, Value.int .i64 0] 3)).cell? ⟨W1.heap.size, j, none⟩ = some v) := Lib.hid (cells_box W1 [Value.int .i64 2, Value.int .i64 0] 3)
  have HB2 := Lib.hid (box_below W1 (.cells #[Value.int .i64 2, Value.int .i64 0] 3))
  have HS2 : Hid ((W1.alloc (.cells #[Value.int .i64 2, Value.int .i64 0] 3)).heap.size = W1.heap.size + 1) := Lib.hid (by simp)
  generalize W1.alloc (.cells #[Value.int .i64 2, Value.int .i64 0] 3) = W2 at *
  obtain ⟨b1, hb1⟩ : ∃ b1, w.heap.size = b1 := ⟨_, rfl⟩
  obtain ⟨b2, hb2⟩ : ∃ b2, b1 + 1 = b2 := ⟨_, rfl⟩
  obtain ⟨b3, hb3⟩ : ∃ b3, b2 + 1 = b3 := ⟨_, rfl⟩
  obtain ⟨mb, hmb⟩ : ∃ mb, b3 + 1 = mb := ⟨_, rfl⟩
  rw [hb1, hb2, hb3, hmb]
  have HC3 : Hid (∀ (j : Nat) v, (encC (Value.slice (some ⟨b1, 0, none⟩) 1 1) (-1) ++ encC (Value.slice (some ⟨b2, 0, none⟩) 2 2) 2 ++ encC (Value.slice none 0 0) (-1))[j]? = some v → (W2.alloc (.cells #[Value.int .i64 0, Value.int .i64 0, Value.slice (some ⟨b1, 0, none⟩) 1 1, Value.slice none 0 0, Value.int .i64 0, Value.string ⟨#[]⟩, Value.int .i64 0, Value.int .i64 0, Value.float .f64 0, Value.string ⟨#[]⟩, Value.slice none 0 0, Value.slice none 0 0, Value.slice none 0 0, Value.slice none 0 0, Value.int .i64 0, Value.string ⟨#[]⟩, Value.int .i64 0, Value.int .i64 0, Value.float .f64 0, Value.string ⟨#[]⟩, Value.slice none 0 0, Value.slice none 0 0, Value.slice none 0 0, Value.slice none 0 0, Value.int .i64 0, Value.int .i64 0, Value.int .i64 (-1), Value.int .i64 0, Value.int .i64 0, Value.int .i64 0, Value.int .i64 0, Value.slice (some ⟨b2, 0, none⟩) 2 2, Value.slice none 0 0, Value.int .i64 0, Value.string ⟨#[]⟩, Value.int .i64 0, Value.int .i64 0, Value.float .f64 0, Value.string ⟨#[]⟩, Value.slice none 0 0, Value.slice none 0 0, Value.slice none 0 0, Value.slice none 0 0, Value.int .i64 0, Value.string ⟨#[]⟩, Value.int .i64 0, Value.int .i64 0, Value.float .f64 0, Value.string ⟨#[]⟩, Value.slice none 0 0, Value.slice none 0 0, Value.slice none 0 0, Value.slice none 0 0, Value.int .i64 0, Value.int .i64 0, Value.int .i64 2, Value.int .i64 0, Value.int .i64 0, Value.int .i64 0, Value.int .i64 0, Value.slice none 0 0, Value.slice none 0 0, Value.int .i64 0, Value.string ⟨#[]⟩, Value.int .i64 0, Value.int .i64 0, Value.float .f64 0, Value.string ⟨#[]⟩, Value.slice none 0 0, Value.slice none 0 0, Value.slice none 0 0, Value.slice none 0 0, Value.int .i64 0, Value.string ⟨#[]⟩, Value.int .i64 0, Value.int .i64 0, Value.float .f64 0, Value.string ⟨#[]⟩, Value.slice none 0 0, Value.slice none 0 0, Value.slice none 0 0, Value.slice none 0 0, Value.int .i64 0, Value.int .i64 0, Value.int .i64 (-1), Value.int .i64 0, Value.int .i64 0] 42)).cell? ⟨W2.heap.size, j, none⟩ = some v) := Lib.hid (cells_box W2 (encC (Value.slice (some ⟨b1, 0, none⟩) 1 1) (-1) ++ encC (Value.slice (some ⟨b2, 0, none⟩) 2 2) 2 ++ encC (Value.slice none 0 0) (-1)) 42)
  have HB3 := Lib.hid (box_below W2 (.cells #[Value.int .i64 0, Value.int .i64 0, Value.slice (some ⟨b1, 0, none⟩) 1 1, Value.slice none 0 0, Value.int .i64 0, Value.string ⟨#[]⟩, Value.int .i64 0, Value.int .i64 0, Value.float .f64 0, Value.string ⟨#[]⟩, Value.slice none 0 0, Value.slice none 0 0, Value.slice none 0 0, Value.slice none 0 0, Value.int .i64 0, Value.string ⟨#[]⟩, Value.int .i64 0, Value.int .i64 0, Value.float .f64 0, Value.string ⟨#[]⟩, Value.slice none 0 0, Value.slice none 0 0, Value.slice none 0 0, Value.slice none 0 0, Value.int .i64 0, Value.int .i64 0, Value.int .i64 (-1), Value.int .i64 0, Value.int .i64 0, Value.int .i64 0, Value.int .i64 0, Value.slice (some ⟨b2, 0, none⟩) 2 2, Value.slice none 0 0, Value.int .i64 0, Value.string ⟨#[]⟩, Value.int .i64 0, Value.int .i64 0, Value.float .f64 0, Value.string ⟨#[]⟩, Value.slice none 0 0, Value.slice none 0 0, Value.slice none 0 0, Value.slice none 0 0, Value.int .i64 0, Value.string ⟨#[]⟩, Value.int .i64 0, Value.int .i64 0, Value.float .f64 0, Value.string ⟨#[]⟩, Value.slice none 0 0, Value.slice none 0 0, Value.slice none 0 0, Value.slice none 0 0, Value.int .i64 0, Value.int .i64 0, Value.int .i64 2, Value.int .i64 0, Value.int .i64 0, Value.int .i64 0, Value.int .i64 0, Value.slice none 0 0, Value.slice none 0 0, Value.int .i64 0, Value.string ⟨#[]⟩, Value.int .i64 0, Value.int .i64 0, Value.float .f64 0, Value.string ⟨#[]⟩, Value.slice none 0 0, Value.slice none 0 0, Value.slice none 0 0, Value.slice none 0 0, Value.int .i64 0, Value.string ⟨#[]⟩, Value.int .i64 0, Value.int .i64 0, Value.float .f64 0, Value.string ⟨#[]⟩, Value.slice none 0 0, Value.slice none 0 0, Value.slice none 0 0, Value.slice none 0 0, Value.int .i64 0, Value.int .i64 0, Value.int .i64 (-1), Value.int .i64 0, Value.int .i64 0] 42))
  have HS3 : Hid ((W2.alloc (.cells #[Value.int .i64 0, Value.int .i64 0, Value.slice (some ⟨b1, 0, none⟩) 1 1, Value.slice none 0 0, Value.int .i64 0, Value.string ⟨#[]⟩, Value.int .i64 0, Value.int .i64 0, Value.float .f64 0, Value.string ⟨#[]⟩, Value.slice none 0 0, Value.slice none 0 0, Value.slice none 0 0, Value.slice none 0 0, Value.int .i64 0, Value.string ⟨#[]⟩, Value.int .i64 0, Value.int .i64 0, Value.float .f64 0, Value.string ⟨#[]⟩, Value.slice none 0 0, Value.slice none 0 0, Value.slice none 0 0, Value.slice none 0 0, Value.int .i64 0, Value.int .i64 0, Value.int .i64 (-1), Value.int .i64 0, Value.int .i64 0, Value.int .i64 0, Value.int .i64 0, Value.slice (some ⟨b2, 0, none⟩) 2 2, Value.slice none 0 0, Value.int .i64 0, Value.string ⟨#[]⟩, Value.int .i64 0, Value.int .i64 0, Value.float .f64 0, Value.string ⟨#[]⟩, Value.slice none 0 0, Value.slice none 0 0, Value.slice none 0 0, Value.slice none 0 0, Value.int .i64 0, Value.string ⟨#[]⟩, Value.int .i64 0, Value.int .i64 0, Value.float .f64 0, Value.string ⟨#[]⟩, Value.slice none 0 0, Value.slice none 0 0, Value.slice none 0 0, Value.slice none 0 0, Value.int .i64 0, Value.int .i64 0, Value.int .i64 2, Value.int .i64 0, Value.int .i64 0, Value.int .i64 0, Value.int .i64 0, Value.slice none 0 0, Value.slice none 0 0, Value.int .i64 0, Value.string ⟨#[]⟩, Value.int .i64 0, Value.int .i64 0, Value.float .f64 0, Value.string ⟨#[]⟩, Value.slice none 0 0, Value.slice none 0 0, Value.slice none 0 0, Value.slice none 0 0, Value.int .i64 0, Value.string ⟨#[]⟩, Value.int .i64 0, Value.int .i64 0, Value.float .f64 0, Value.string ⟨#[]⟩, Value.slice none 0 0, Value.slice none 0 0, Value.slice none 0 0, Value.slice none 0 0, Value.int .i64 0, Value.int .i64 0, Value.int .i64 (-1), Value.int .i64 0, Value.int .i64 0] 42)).heap.size = W2.heap.size + 1) := Lib.hid (by simp)
  generalize W2.alloc (.cells #[Value.int .i64 0, Value.int .i64 0, Value.slice (some ⟨b1, 0, none⟩) 1 1, Value.slice none 0 0, Value.int .i64 0, Value.string ⟨#[]⟩, Value.int .i64 0, Value.int .i64 0, Value.float .f64 0, Value.string ⟨#[]⟩, Value.slice none 0 0, Value.slice none 0 0, Value.slice none 0 0, Value.slice none 0 0, Value.int .i64 0, Value.string ⟨#[]⟩, Value.int .i64 0, Value.int .i64 0, Value.float .f64 0, Value.string ⟨#[]⟩, Value.slice none 0 0, Value.slice none 0 0, Value.slice none 0 0, Value.slice none 0 0, Value.int .i64 0, Value.int .i64 0, Value.int .i64 (-1), Value.int .i64 0, Value.int .i64 0, Value.int .i64 0, Value.int .i64 0, Value.slice (some ⟨b2, 0, none⟩) 2 2, Value.slice none 0 0, Value.int .i64 0, Value.string ⟨#[]⟩, Value.int .i64 0, Value.int .i64 0, Value.float .f64 0, Value.string ⟨#[]⟩, Value.slice none 0 0, Value.slice none 0 0, Value.slice none 0 0, Value.slice none 0 0, Value.int .i64 0, Value.string ⟨#[]⟩, Value.int .i64 0, Value.int .i64 0, Value.float .f64 0, Value.string ⟨#[]⟩, Value.slice none 0 0, Value.slice none 0 0, Value.slice none 0 0, Value.slice none 0 0, Value.int .i64 0, Value.int .i64 0, Value.int .i64 2, Value.int .i64 0, Value.int .i64 0, Value.int .i64 0, Value.int .i64 0, Value.slice none 0 0, Value.slice none 0 0, Value.int .i64 0, Value.string ⟨#[]⟩, Value.int .i64 0, Value.int .i64 0, Value.float .f64 0, Value.string ⟨#[]⟩, Value.slice none 0 0, Value.slice none 0 0, Value.slice none 0 0, Value.slice none 0 0, Value.int .i64 0, Value.string ⟨#[]⟩, Value.int .i64 0, Value.int .i64 0, Value.float .f64 0, Value.string ⟨#[]⟩, Value.slice none 0 0, Value.slice none 0 0, Value.slice none 0 0, Value.slice none 0 0, Value.int .i64 0, Value.int .i64 0, Value.int .i64 (-1), Value.int .i64 0, Value.int .i64 0] 42) = W3 at *
  have HC4 := Lib.hid (range_box W3 (plainM (.slice (some ⟨b3, 0, none⟩) 3 3)) 27)
  have HB4 := Lib.hid (box_below W3 (.cells ⟨plainM (.slice (some ⟨b3, 0, none⟩) 3 3)⟩ 27))
  have HS4 := Lib.hid (box_size W3 (.cells ⟨plainM (.slice (some ⟨b3, 0, none⟩) 3 3)⟩ 27))
  have hz4 : W3.alloc (.cells ⟨plainM (.slice (some ⟨b3, 0, none⟩) 3 3)⟩ 27) = W3.alloc (.cells #[.int .i64 0, .slice none 0 0, .slice none 0 0, .slice none 0 0, .slice none 0 0, .slice (some ⟨b3, 0, none⟩) 3 3] 27) := rfl
  rw [hz4] at HC4 HB4 HS4
  generalize W3.alloc (.cells #[.int .i64 0, .slice none 0 0, .slice none 0 0, .slice none 0 0, .slice none 0 0, .slice (some ⟨b3, 0, none⟩) 3 3] 27) = W4 at *
  clear hz4
  have hs3 : W3.heap.size = mb := by have := HS3.out; have := HS2.out; have := HS1.out; omega
  have hs2 : W2.heap.size = b3 := by have := HS2.out; have := HS1.out; omega
  have hs1 : W1.heap.size = b2 := by have := HS1.out; omega
  rw [hs3] at HC4 HB4 HS4
  rw [hs2] at HC3 HB3
  rw [hs1] at HC2 HB2
  rw [hb1] at HC1
  have HB34 := Lib.hid (HB3.out.trans (HB4.out.mono (by omega)))
  have HB24 := Lib.hid (HB2.out.trans (HB34.out.mono (by omega)))
  have HBW := Lib.hid (HB1.out.trans (HB24.out.mono (by omega)))
  have HPL : Hid (PlainAt W4 (.slice (some ⟨b3, 0, none⟩) 3 3) L12) := Lib.hid (plain12 (b1 := b1) (b2 := b2) (fun j v hv => (HB24.out.cell (p := ⟨b1, j, none⟩) (show b1 < b2 by omega)).trans (HC1.out j v hv)) (fun j v hv => (HB34.out.cell (p := ⟨b2, j, none⟩) (show b2 < b3 by omega)).trans (HC2.out j v hv)) (fun j v hv => (HB4.out.cell (p := ⟨b3, j, none⟩) (show b3 < mb by omega)).trans (HC3.out j v hv)) (by have := HS4.out; omega))
  have HBm : Hid (b1 ≤ W4.heap.size ∧ mb < W4.heap.size) := Lib.hid (by have := HS4.out; omega)
  have HG4 : Hid (GraphAt W4 W4.heap.size (.slice (some ⟨b3, 0, none⟩) 3 3) (L12.map fun x => ⟨x.1, x.2, 0⟩)) := Lib.hid (plain_graph HPL.out L12_wf)
  clear HC1 HC2 HC3 HB2 HB3 HB34 HB24 HS1 HS2 HS3 HB1 hs3 hs2 hs1 hb1 hb2 hb3 hmb HB4 HS4
  have HCE := Lib.hid (edges_any (L12.map fun x => ⟨x.1, x.2, 0⟩) (.int .i64 0) (.slice none 0 0) (.slice none 0 0) (.slice none 0 0) (.slice none 0 0) (.slice (some ⟨b3, 0, none⟩) 3 3) W4 HG4.out (by rw [L12_edges]; decide))
  go_upto_region 3 with (first | ((with_reducible refine wl_sload 27 _ rfl ?hw2 mb 0 (plainM (.slice (some ⟨b3, 0, none⟩) 3 3)) _ rfl HC4.out Tryz.underlying27 rfl ?hi2 ?_); (case hw2 => first | exact wanted_none rfl | exact wanted_if rfl rfl rfl rfl); (case hi2 => kernel_rfl)) | (go_at_call 10; refine HCE.out.mono ?_; rintro e W5 ⟨v5, rfl, hown, hb5⟩; obtain ⟨A5, c5, hv5⟩ := own_sl hown; subst hv5; have HOE := Lib.hid hown; have HB5 := Lib.hid hb5; clear hown hb5))
  clear HCE
  have HB45 : ∀ z, Below W5.heap.size W5 z → Below W4.heap.size W4 z := fun z hz => HB5.out.trans (hz.mono HB5.out.size)
  obtain ⟨hel, EA, ec, hev, hea⟩ := HOE.out.at encE_len (by decide)
  obtain ⟨eb, eo, hea1, hbl, hc⟩ := hea (by decide)
  obtain ⟨ks, hk1, hk2, hk3⟩ := hc 3 _ rfl
  have hk3' : ks = encE (1, 2, 2) := hk3
  subst hk3'
  injection hev with hv1 hv2 hv3
  rw [hv1, hea1, hv3] at *
  have HRE := Lib.hid hk2
  have HBL := Lib.hid hbl
  clear hel hea hea1 hc hk1 hk2 hk3 hbl hv1 hv2 hv3
  have HGZ := fun z (hz : Below W5.heap.size W5 z) => HG4.out.next (HB45 z hz)
  have HLN : (edgesOf (L12.map fun x => (⟨x.1, x.2, 0⟩ : GN))).length ≤ 10000 := by rw [show edgesOf (L12.map fun x => (⟨x.1, x.2, 0⟩ : GN)) = _ from L12_edges]; decide
  go_wp2_with (fail)
  refine wp_region_tree t12a (fun z => Below W5.heap.size W5 z) (by kernel_rfl) (by kernel_rfl) (by kernel_rfl) rfl (by intro c a d v w h; cases d <;> exact h) ?_
  have hs0 : Below W5.heap.size W5 W5.drew := (Below.refl _ W5).drew
  refine tree_move (some 12) (.slice (some ⟨eb, eo, none⟩) 4 ec) _ _ rfl rfl rfl (by first | exact wanted_none rfl | exact wanted_if rfl rfl rfl rfl) hs0 rfl ?_
  go_frame
  refine tree_load (some 13) (.int .i64 4) _ rfl rfl (by first | exact wanted_none rfl | exact wanted_if rfl rfl rfl rfl) hs0 (fun z hz => by go_simp) ?_
  go_frame
  refine tree_load (some 14) (.bool true) _ rfl rfl (by first | exact wanted_none rfl | exact wanted_if rfl rfl rfl rfl) hs0 (fun z hz => by go_simp) ?_
  go_frame
  refine tree_move (some 15) (.bool true) _ _ rfl rfl rfl (by first | exact wanted_none rfl | exact wanted_if rfl rfl rfl rfl) hs0 rfl ?_
  go_frame
  refine tree_move (some 16) (.slice (some ⟨eb, eo, none⟩) 4 ec) _ _ rfl rfl rfl (by first | exact wanted_none rfl | exact wanted_if rfl rfl rfl rfl) hs0 rfl ?_
  go_frame
  refine tree_load (some 17) (.pointer (some ⟨eb, eo + 9, none⟩)) _ rfl rfl (by first | exact wanted_none rfl | exact wanted_if rfl rfl rfl rfl) hs0 (fun z hz => by go_simp) ?_
  go_frame
  refine tree_load (some 18) (.agg ⟨[.int .i64 1, .int .i64 2, .int .i64 2]⟩) _ rfl rfl (by first | exact wanted_none rfl | exact wanted_if rfl rfl rfl rfl) hs0 (fun z hz => exec_sload 51 rfl eb (eo + 9) [.int .i64 1, .int .i64 2, .int .i64 2] _ rfl (rangeAt_below HRE.out hz HBL.out) Tryz.underlying51 rfl (by kernel_rfl)) ?_
  go_frame
  refine tree_load (some 19) (.agg ⟨[.int .i64 1, .int .i64 2, .int .i64 2]⟩) _ rfl rfl (by first | exact wanted_none rfl | exact wanted_if rfl rfl rfl rfl) hs0 (fun z hz => by go_simp) ?_
  go_frame
  refine tree_load (some 20) (.bool true) _ rfl rfl (by first | exact wanted_none rfl | exact wanted_if rfl rfl rfl rfl) hs0 (fun z hz => by go_simp) ?_
  go_frame
  refine tree_pick (some 21) (.bool true) _ _ _ _ true rfl rfl rfl rfl (by first | exact wanted_none rfl | exact wanted_if rfl rfl rfl rfl) hs0 rfl ?_
  go_frame
  refine tree_move (some 22) (.bool true) _ _ rfl rfl rfl (by first | exact wanted_none rfl | exact wanted_if rfl rfl rfl rfl) hs0 rfl ?_
  go_frame
  refine tree_load (some 23) (.agg ⟨plainM (.slice (some ⟨b3, 0, none⟩) 3 3)⟩) _ rfl rfl (by first | exact wanted_none rfl | exact wanted_if rfl rfl rfl rfl) hs0 (fun z hz => exec_mload _ _ rfl mb (plainM (.slice (some ⟨b3, 0, none⟩) 3 3)) rfl rfl (rangeAt_below HC4.out (HB45 z hz) HBm.out.2)) ?_
  go_frame
  refine tree_pair (i := 12) (j := 13) (d1 := 24) (d2 := 25) (n := 2) (T := 3) (fun v z => IntsV z v [1, 3]) (fun v z => IntsV z v [1, 3]) 16 Tryz.func16 (by kernel_rfl) (by kernel_rfl) [.agg ⟨plainM (.slice (some ⟨b3, 0, none⟩) 3 3)⟩, .int .i64 2] #[.int .i64 1, .int .i64 3] _ _ _ _ rfl rfl rfl rfl rfl (by first | exact wanted_none rfl | exact wanted_if rfl rfl rfl rfl) (fun v => (by first | exact wanted_none rfl | exact wanted_if rfl rfl rfl rfl)) (by first | exact wanted_none rfl | exact wanted_if rfl rfl rfl rfl) (fun v => (by first | exact wanted_none rfl | exact wanted_if rfl rfl rfl rfl)) rfl (fun v => rfl) (fun z => by first | (go_simp; done) | (go_simp; rfl)) (fun v z => by first | (go_simp; done) | (go_simp; rfl)) ?hc12 (fun z hz => hz.alloc hz.size _) (fun v z hz => IntsV.below hz (box_below z _)) (fun z => lit_v z [1, 3] (by decide)) (by decide) hs0 ?rs12
  case hc12 =>
    intro z hz
    refine (into_any (L12.map fun x => (⟨x.1, x.2, 0⟩ : GN)) 2 (.int .i64 0) (.slice none 0 0) (.slice none 0 0) (.slice none 0 0) (.slice none 0 0) (.slice (some ⟨b3, 0, none⟩) 3 3) z (HGZ z hz) HLN).mono ?_
    rintro e z' ⟨v, rfl, ho, hb⟩
    rw [L12_into] at ho
    exact ⟨v, rfl, hz.trans (hb.mono hz.size), OwnSl.ints ho (by decide), fun u hu => IntsV.below hu hb⟩
  intro u1 u2 z1 hs1 hu1 hu2
  go_frame
  refine tree_to (some 26) 15 Tryz.func15 (by kernel_rfl) (by kernel_rfl) [u1, u2] _ _ _ rfl rfl rfl (by first | exact wanted_none rfl | exact wanted_if rfl rfl rfl rfl) rfl ?_
  have sm := same_ints u1 u2 [1, 3] [1, 3] (z1) hu1 hu2
  rw [show (([1, 3] : List Int) == [1, 3]) = true from beq_self_eq_true _] at sm
  refine sm.mono ?_
  rintro e z ⟨rfl, m1, rfl⟩
  have hs2 : Below W5.heap.size W5 ((z1).drewN m1) := below_drewN hs1 m1
  refine ⟨.bool true, rfl, hs2, ?_⟩
  go_frame
  refine tree_pick (some 27) (.bool true) _ _ _ _ true rfl rfl rfl rfl (by first | exact wanted_none rfl | exact wanted_if rfl rfl rfl rfl) hs2 rfl ?_
  go_frame
  refine tree_move (some 28) (.bool true) _ _ rfl rfl rfl (by first | exact wanted_none rfl | exact wanted_if rfl rfl rfl rfl) hs2 rfl ?_
  go_frame
  refine tree_load (some 29) (.agg ⟨plainM (.slice (some ⟨b3, 0, none⟩) 3 3)⟩) _ rfl rfl (by first | exact wanted_none rfl | exact wanted_if rfl rfl rfl rfl) hs2 (fun z hz => exec_mload _ _ rfl mb (plainM (.slice (some ⟨b3, 0, none⟩) 3 3)) rfl rfl (rangeAt_below HC4.out (HB45 z hz) HBm.out.2)) ?_
  go_frame
  generalize z1.drewN m1 = y1 at *
  refine tree_to (some 30) 18 Tryz.func18 (by kernel_rfl) (by kernel_rfl) [.agg ⟨plainM (.slice (some ⟨b3, 0, none⟩) 3 3)⟩, .int .i64 1, .int .i64 2] _ _ _ rfl rfl rfl (by first | exact wanted_none rfl | exact wanted_if rfl rfl rfl rfl) rfl ?_
  refine (out_any (L12.map fun x => (⟨x.1, x.2, 0⟩ : GN)) 1 2 (.int .i64 0) (.slice none 0 0) (.slice none 0 0) (.slice none 0 0) (.slice none 0 0) (.slice (some ⟨b3, 0, none⟩) 3 3) y1 (HGZ _ hs2) HLN).mono ?_
  rintro e z2 ⟨rfl, hb⟩
  have hs3 : Below W5.heap.size W5 z2 := hs2.trans (hb.mono hs2.size)
  refine ⟨.int .i64 (3), by rw [L12_out], hs3, ?_⟩
  clear hb
  go_frame
  refine tree_load (some 31) (.bool true) _ rfl rfl (by first | exact wanted_none rfl | exact wanted_if rfl rfl rfl rfl) hs3 (fun z hz => by go_simp) ?_
  go_frame
  refine tree_pick (some 32) (.bool true) _ _ _ _ true rfl rfl rfl rfl (by first | exact wanted_none rfl | exact wanted_if rfl rfl rfl rfl) hs3 rfl ?_
  go_frame
  refine tree_move (some 33) (.bool true) _ _ rfl rfl rfl (by first | exact wanted_none rfl | exact wanted_if rfl rfl rfl rfl) hs3 rfl ?_
  go_frame
  refine tree_load (some 34) (.agg ⟨plainM (.slice (some ⟨b3, 0, none⟩) 3 3)⟩) _ rfl rfl (by first | exact wanted_none rfl | exact wanted_if rfl rfl rfl rfl) hs3 (fun z hz => exec_mload _ _ rfl mb (plainM (.slice (some ⟨b3, 0, none⟩) 3 3)) rfl rfl (rangeAt_below HC4.out (HB45 z hz) HBm.out.2)) ?_
  go_frame
  refine tree_to (some 35) 18 Tryz.func18 (by kernel_rfl) (by kernel_rfl) [.agg ⟨plainM (.slice (some ⟨b3, 0, none⟩) 3 3)⟩, .int .i64 2, .int .i64 0] _ _ _ rfl rfl rfl (by first | exact wanted_none rfl | exact wanted_if rfl rfl rfl rfl) rfl ?_
  refine (out_any (L12.map fun x => (⟨x.1, x.2, 0⟩ : GN)) 2 0 (.int .i64 0) (.slice none 0 0) (.slice none 0 0) (.slice none 0 0) (.slice none 0 0) (.slice (some ⟨b3, 0, none⟩) 3 3) z2 (HGZ _ hs3) HLN).mono ?_
  rintro e z3 ⟨rfl, hb⟩
  have hs4 : Below W5.heap.size W5 z3 := hs3.trans (hb.mono hs3.size)
  refine ⟨.int .i64 (-1), by rw [L12_out2], hs4, ?_⟩
  clear hb
  go_frame
  refine tree_load (some 36) (.bool true) _ rfl rfl (by first | exact wanted_none rfl | exact wanted_if rfl rfl rfl rfl) hs4 (fun z hz => by go_simp) ?_
  go_frame
  refine tree_pick (some 37) (.bool true) _ _ _ _ true rfl rfl rfl rfl (by first | exact wanted_none rfl | exact wanted_if rfl rfl rfl rfl) hs4 rfl ?_
  go_frame
  refine tree_move (some 38) (.bool true) _ _ rfl rfl rfl (by first | exact wanted_none rfl | exact wanted_if rfl rfl rfl rfl) hs4 rfl ?_
  go_frame
  refine tree_load (some 39) (.agg ⟨plainM (.slice (some ⟨b3, 0, none⟩) 3 3)⟩) _ rfl rfl (by first | exact wanted_none rfl | exact wanted_if rfl rfl rfl rfl) hs4 (fun z hz => exec_mload _ _ rfl mb (plainM (.slice (some ⟨b3, 0, none⟩) 3 3)) rfl rfl (rangeAt_below HC4.out (HB45 z hz) HBm.out.2)) ?_
  go_frame
  refine tree_pair (i := 28) (j := 29) (d1 := 40) (d2 := 41) (n := 3) (T := 3) (fun v z => IntsV z v [0, 1, 2]) (fun v z => IntsV z v [0, 1, 2]) 20 Tryz.func20 (by kernel_rfl) (by kernel_rfl) [.agg ⟨plainM (.slice (some ⟨b3, 0, none⟩) 3 3)⟩, .int .i64 0] #[.int .i64 0, .int .i64 1, .int .i64 2] _ _ _ _ rfl rfl rfl rfl rfl (by first | exact wanted_none rfl | exact wanted_if rfl rfl rfl rfl) (fun v => (by first | exact wanted_none rfl | exact wanted_if rfl rfl rfl rfl)) (by first | exact wanted_none rfl | exact wanted_if rfl rfl rfl rfl) (fun v => (by first | exact wanted_none rfl | exact wanted_if rfl rfl rfl rfl)) rfl (fun v => rfl) (fun z => by first | (go_simp; done) | (go_simp; rfl)) (fun v z => by first | (go_simp; done) | (go_simp; rfl)) ?hc28 (fun z hz => hz.alloc hz.size _) (fun v z hz => IntsV.below hz (box_below z _)) (fun z => lit_v z [0, 1, 2] (by decide)) (by decide) hs4 ?rs28
  case hc28 =>
    intro z hz
    refine (reach_any (L12.map fun x => (⟨x.1, x.2, 0⟩ : GN)) 0 (.int .i64 0) (.slice none 0 0) (.slice none 0 0) (.slice none 0 0) (.slice none 0 0) (.slice (some ⟨b3, 0, none⟩) 3 3) z (HGZ z hz) HLN (by decide)).mono ?_
    rintro e z' ⟨v, rfl, ho, hb⟩
    rw [L12_reach] at ho
    exact ⟨v, rfl, hz.trans (hb.mono hz.size), OwnSl.ints ho (by decide), fun u hu => IntsV.below hu hb⟩
  intro u3 u4 z4 hs5 hu3 hu4
  go_frame
  refine tree_to (some 42) 15 Tryz.func15 (by kernel_rfl) (by kernel_rfl) [u3, u4] _ _ _ rfl rfl rfl (by first | exact wanted_none rfl | exact wanted_if rfl rfl rfl rfl) rfl ?_
  have sm := same_ints u3 u4 [0, 1, 2] [0, 1, 2] (z4) hu3 hu4
  rw [show (([0, 1, 2] : List Int) == [0, 1, 2]) = true from beq_self_eq_true _] at sm
  refine sm.mono ?_
  rintro e z ⟨rfl, m2, rfl⟩
  have hs6 : Below W5.heap.size W5 ((z4).drewN m2) := below_drewN hs5 m2
  refine ⟨.bool true, rfl, hs6, ?_⟩
  go_frame
  refine tree_pick (some 43) (.bool true) _ _ _ _ true rfl rfl rfl rfl (by first | exact wanted_none rfl | exact wanted_if rfl rfl rfl rfl) hs6 rfl ?_
  go_frame
  refine tree_move (some 44) (.bool true) _ _ rfl rfl rfl (by first | exact wanted_none rfl | exact wanted_if rfl rfl rfl rfl) hs6 rfl ?_
  go_frame
  refine tree_load (some 45) (.agg ⟨plainM (.slice (some ⟨b3, 0, none⟩) 3 3)⟩) _ rfl rfl (by first | exact wanted_none rfl | exact wanted_if rfl rfl rfl rfl) hs6 (fun z hz => exec_mload _ _ rfl mb (plainM (.slice (some ⟨b3, 0, none⟩) 3 3)) rfl rfl (rangeAt_below HC4.out (HB45 z hz) HBm.out.2)) ?_
  go_frame
  generalize z4.drewN m2 = y4 at *
  refine tree_to (some 46) 20 Tryz.func20 (by kernel_rfl) (by kernel_rfl) [.agg ⟨plainM (.slice (some ⟨b3, 0, none⟩) 3 3)⟩, .int .i64 2] _ _ _ rfl rfl rfl (by first | exact wanted_none rfl | exact wanted_if rfl rfl rfl rfl) rfl ?_
  refine (reach_any (L12.map fun x => (⟨x.1, x.2, 0⟩ : GN)) 2 (.int .i64 0) (.slice none 0 0) (.slice none 0 0) (.slice none 0 0) (.slice none 0 0) (.slice (some ⟨b3, 0, none⟩) 3 3) y4 (HGZ _ hs6) HLN (by decide)).mono ?_
  rintro e z5 ⟨v, rfl, ho, hb⟩
  rw [L12_reach2] at ho
  obtain ⟨A6, c6, rfl⟩ := own_sl ho
  have hs7 : Below W5.heap.size W5 z5 := hs6.trans (hb.mono hs6.size)
  refine ⟨_, rfl, hs7, ?_⟩
  clear hb ho
  go_frame
  refine tree_load (some 47) (.int .i64 0) _ rfl rfl (by first | exact wanted_none rfl | exact wanted_if rfl rfl rfl rfl) hs7 (fun z hz => by go_simp) ?_
  go_frame
  refine tree_load (some 48) (.bool true) _ rfl rfl (by first | exact wanted_none rfl | exact wanted_if rfl rfl rfl rfl) hs7 (fun z hz => by go_simp) ?_
  go_frame
  refine tree_pick (some 49) (.bool true) _ _ _ _ true rfl rfl rfl rfl (by first | exact wanted_none rfl | exact wanted_if rfl rfl rfl rfl) hs7 rfl ?_
  go_frame
  refine tree_move (some 50) (.bool true) _ _ rfl rfl rfl (by first | exact wanted_none rfl | exact wanted_if rfl rfl rfl rfl) hs7 rfl ?_
  go_frame
  refine tree_load (some 51) (.agg ⟨plainM (.slice (some ⟨b3, 0, none⟩) 3 3)⟩) _ rfl rfl (by first | exact wanted_none rfl | exact wanted_if rfl rfl rfl rfl) hs7 (fun z hz => exec_mload _ _ rfl mb (plainM (.slice (some ⟨b3, 0, none⟩) 3 3)) rfl rfl (rangeAt_below HC4.out (HB45 z hz) HBm.out.2)) ?_
  go_frame
  refine tree_load (some 52) (.agg ⟨plainM (.slice (some ⟨b3, 0, none⟩) 3 3)⟩) _ rfl rfl (by first | exact wanted_none rfl | exact wanted_if rfl rfl rfl rfl) hs7 (fun z hz => exec_mload _ _ rfl mb (plainM (.slice (some ⟨b3, 0, none⟩) 3 3)) rfl rfl (rangeAt_below HC4.out (HB45 z hz) HBm.out.2)) ?_
  go_frame
  refine tree_to (some 53) 9 Tryz.func9 (by kernel_rfl) (by kernel_rfl) [.agg ⟨plainM (.slice (some ⟨b3, 0, none⟩) 3 3)⟩] _ _ _ rfl rfl rfl (by first | exact wanted_none rfl | exact wanted_if rfl rfl rfl rfl) rfl ?_
  refine (own_plain (.slice (some ⟨b3, 0, none⟩) 3 3) L12 z5 (HPL.out.below (HB45 _ hs7)) (by decide) (by decide) (by decide)).mono ?_
  rintro e z6 ⟨v', rfl, hp6, hb⟩
  have hs8 : Below W5.heap.size W5 z6 := hs7.trans (hb.mono hs7.size)
  refine ⟨_, rfl, hs8, ?_⟩
  clear hb
  go_frame
  refine tree_to (some 54) 7 Tryz.func7 (by kernel_rfl) (by kernel_rfl) [.agg ⟨plainM (.slice (some ⟨b3, 0, none⟩) 3 3)⟩, .agg ⟨plainM v'⟩] _ _ _ rfl rfl rfl (by first | exact wanted_none rfl | exact wanted_if rfl rfl rfl rfl) rfl ?_
  refine (msame_plain (.slice (some ⟨b3, 0, none⟩) 3 3) v' L12 z6 (HPL.out.below (HB45 _ hs8)) hp6 (by decide)).mono ?_
  rintro e z7 ⟨rfl, hb⟩
  have hs9 : Below W5.heap.size W5 z7 := hs8.trans (hb.mono hs8.size)
  refine ⟨_, rfl, hs9, ?_⟩
  clear hb
  go_frame
  refine tree_pick (some 55) (.bool true) _ _ _ _ true rfl rfl rfl rfl (by first | exact wanted_none rfl | exact wanted_if rfl rfl rfl rfl) hs9 rfl ?_
  go_frame
  refine tree_assign (some 0) (.bool true) _ _ rfl rfl rfl (by first | exact wanted_none rfl | exact wanted_if rfl rfl rfl rfl) hs9 rfl ?_
  go_frame
  refine tree_end ?_
  clear hs0 hs1 hs2 hs3 hs4 hs5 hs6 hs7 hs8
  go_wp2
  go_ret
  exact ⟨rfl, HBW.out.trans ((HB45 _ hs9).mono HBW.out.size)⟩
end Go.Proofs.YtlfefikhmdbbfaaGreat
