/- Models of edges alone: the same as one another. -/
import Derived.Test.YtlfefikhmdbbfaaGreatZero2
namespace Go.Proofs.YtlfefikhmdbbfaaGreat
open Go Go.RowKit
set_option linter.unusedVariables false

theorem IntsV.cells {w : World} {v : Value} {l : List Int} (h : IntsV w v l) : ∃ A c, v = .slice A l.length c ∧ (0 < l.length → ∃ b o, A = some ⟨b, o, none⟩ ∧ ∀ j, j < l.length → w.cell? ⟨b, o + j, none⟩ = some (.int .i64 (l.getD j 0))) := by
  obtain ⟨_, A, c, rfl, h2⟩ := h.ints
  refine ⟨A, c, rfl, fun h0 => ?_⟩
  obtain ⟨b, o, rfl, _, h3⟩ := h2 h0
  refine ⟨b, o, rfl, fun j hj => h3 j _ ?_⟩
  rw [List.getD_eq_getElem?_getD, List.getElem?_eq_getElem hj]
  rfl
theorem eqi_any (u v : Value) (l : List Int) (w : World) (hu : IntsV w u l) (hv : IntsV w v l) : Calls Tryz.prog 57 #[u, v] w fun e w' => e = .returned (.bool true) ∧ Below w.heap.size w w' := by
  obtain ⟨A, c, rfl, h1⟩ := hu.cells
  obtain ⟨D, d, rfl, h2⟩ := hv.cells
  rcases Nat.eq_zero_or_pos l.length with h0 | h0
  · rw [h0]
    refine (Tryz.slices_Equal_int_empty A D c 0 d w (by omega)).mono fun e w' h => ?_
    obtain ⟨h3, h4⟩ := h
    subst h4
    exact ⟨by rw [h3]; rfl, Below.refl _ _⟩
  · obtain ⟨b, o, rfl, h3⟩ := h1 h0
    obtain ⟨b2, o2, rfl, h4⟩ := h2 h0
    refine (Tryz.slices_Equal_int b o l.length c b2 o2 l.length d l l w (Nat.le_refl _) (Nat.le_refl _) hu.1 hu.1 h3 h4).mono fun e w' h => ?_
    obtain ⟨h5, q, h6⟩ := h
    subst h6
    exact ⟨by rw [h5]; simp, below_drewN (Below.refl _ _) q⟩
theorem encC_len (v : Value) (c : Int) : (encC v c).length = 29 := rfl
theorem encC_sub (v : Value) (c : Int) (k : Nat) (hk : k = 4 ∨ k = 14) {w : World} {b : Nat} (h : w.rangeAt b 0 (encC v c)) : w.rangeAt b k encX := fun i u hu => by
  have hi : i < 10 := (List.getElem?_eq_some_iff.1 hu).1
  have := h (k + i) u (by
    rw [← hu]
    rcases hk with rfl | rfl
    · have : i = 0 ∨ i = 1 ∨ i = 2 ∨ i = 3 ∨ i = 4 ∨ i = 5 ∨ i = 6 ∨ i = 7 ∨ i = 8 ∨ i = 9 := by omega
      rcases this with rfl | rfl | rfl | rfl | rfl | rfl | rfl | rfl | rfl | rfl <;> rfl
    · have : i = 0 ∨ i = 1 ∨ i = 2 ∨ i = 3 ∨ i = 4 ∨ i = 5 ∨ i = 6 ∨ i = 7 ∨ i = 8 ∨ i = 9 := by omega
      rcases this with rfl | rfl | rfl | rfl | rfl | rfl | rfl | rfl | rfl | rfl <;> rfl)
  rwa [Nat.zero_add] at this

set_option maxHeartbeats 4000000 in
set_option maxRecDepth 100000 in
theorem node_same (u v : Value) (l : List Int) (c : Int) (w : World) (hu : IntsV w u l) (hv : IntsV w v l) :
    Calls Tryz.prog 31 #[.agg ⟨encC u c⟩, .agg ⟨encC v c⟩] w fun e w' => e = .returned (.bool true) ∧ Below w.heap.size w w' := by
  have HU := Lib.hid hu
  have HV := Lib.hid hv
  have HA := Lib.hid (range_box w (encC u c) 42)
  have HB1 := Lib.hid (box_below w (.cells ⟨encC u c⟩ 42))
  have HS1 := Lib.hid (box_size w (.cells ⟨encC u c⟩ 42))
  have HSE : Hid ((w.alloc (.cells ⟨encC u c⟩ 42)).heap.size = w.heap.size + 1) := Lib.hid (by simp)
  clear hu hv
  go_enter Tryz.func31, Tryz.ntmps31
  go_upto_region 1 with (fail)
  generalize w.alloc (.cells ⟨encC u c⟩ 42) = W1 at *
  have HB := Lib.hid (range_box W1 (encC v c) 42)
  have HB2 := Lib.hid (box_below W1 (.cells ⟨encC v c⟩ 42))
  have HS2 := Lib.hid (box_size W1 (.cells ⟨encC v c⟩ 42))
  generalize W1.alloc (.cells ⟨encC v c⟩ 42) = W at *
  have HAW := Lib.hid (rangeAt_below HA.out HB2.out HS1.out)
  have HBW := Lib.hid (HB1.out.trans (HB2.out.mono HB1.out.size))
  have HLT := Lib.hid (Nat.lt_of_lt_of_le HS1.out HB2.out.size)
  rw [HSE.out] at HB HS2
  obtain ⟨pb, hpb⟩ : ∃ pb, w.heap.size + 1 = pb := ⟨_, rfl⟩
  rw [hpb] at HB HS2
  rw [hpb]
  obtain ⟨N1, hN1⟩ : ∃ N1, Value.agg ⟨encC u c⟩ = N1 := ⟨_, rfl⟩
  obtain ⟨N2, hN2⟩ : ∃ N2, Value.agg ⟨encC v c⟩ = N2 := ⟨_, rfl⟩
  rw [hN1, hN2]
  clear hN1 hN2
  have HCA : Hid (∀ (i : Nat) x, (encC u c)[i]? = some x → ∀ z, Below W.heap.size W z → z.cell? ⟨w.heap.size, i, none⟩ = some x) := Lib.hid fun i x hx z hz => (hz.cell (p := ⟨w.heap.size, i, none⟩) HLT.out).trans (by have := HAW.out i x hx; rwa [Nat.zero_add] at this)
  have HCB : Hid (∀ (i : Nat) x, (encC v c)[i]? = some x → ∀ z, Below W.heap.size W z → z.cell? ⟨pb, i, none⟩ = some x) := Lib.hid fun i x hx z hz => (hz.cell (p := ⟨pb, i, none⟩) HS2.out).trans (by have := HB.out i x hx; rwa [Nat.zero_add] at this)
  clear HA HB1 HS1 HSE HB2 hpb
  have d0 := HCA.out 0 (.int .i64 0) rfl W (Below.refl _ _)
  have e0 := HCB.out 0 (.int .i64 0) rfl W (Below.refl _ _)
  have d1 := HCA.out 1 (.int .i64 0) rfl W (Below.refl _ _)
  have e1 := HCB.out 1 (.int .i64 0) rfl W (Below.refl _ _)
  have d24 := HCA.out 24 (.int .i64 0) rfl W (Below.refl _ _)
  have e24 := HCB.out 24 (.int .i64 0) rfl W (Below.refl _ _)
  have d25 := HCA.out 25 (.int .i64 0) rfl W (Below.refl _ _)
  have e25 := HCB.out 25 (.int .i64 0) rfl W (Below.refl _ _)
  have d26 := HCA.out 26 (.int .i64 c) rfl W (Below.refl _ _)
  have e26 := HCB.out 26 (.int .i64 c) rfl W (Below.refl _ _)
  have d27 := HCA.out 27 (.int .i64 0) rfl W (Below.refl _ _)
  have e27 := HCB.out 27 (.int .i64 0) rfl W (Below.refl _ _)
  have d28 := HCA.out 28 (.int .i64 0) rfl W (Below.refl _ _)
  have e28 := HCB.out 28 (.int .i64 0) rfl W (Below.refl _ _)
  obtain ⟨Au, cu, hAu, _⟩ := HU.out.cells
  obtain ⟨Av, cv, hAv, _⟩ := HV.out.cells
  subst hAu
  subst hAv
  have d2 := HCA.out 2 (.slice Au l.length cu) rfl W (Below.refl _ _)
  have e2 := HCB.out 2 (.slice Av l.length cv) rfl W (Below.refl _ _)
  have HEI := Lib.hid (eqi_any _ _ l W (HU.out.below HBW.out) (HV.out.below HBW.out))
  go_upto_region 2 with (fail)
  clear d0 e0 d1 e1 d24 e24 d25 e25 d26 e26 d27 e27 d28 e28
  go_wp2_with (first | (go_at_call 57; fail))
  refine HEI.out.mono ?_
  rintro e w2 ⟨rfl, hb2⟩
  have HB3 := Lib.hid hb2
  have d3 := HCA.out 3 (.slice none 0 0) rfl w2 hb2
  have e3 := HCB.out 3 (.slice none 0 0) rfl w2 hb2
  have HX1 := Lib.hid (encC_sub _ _ 4 (.inl rfl) (rangeAt_below HAW.out hb2 HLT.out))
  have HX2 := Lib.hid (encC_sub _ _ 4 (.inl rfl) (rangeAt_below HB.out hb2 HS2.out))
  clear d2 e2 hb2
  go_upto_region 3 with (first | (go_at_call 58; refine (eqx_nil _ _).mono ?_; rintro e z1 ⟨rfl, rfl⟩) | ((with_reducible refine wl_sload 40 _ rfl ?hw2 w.heap.size 4 encX _ rfl HX1.out Tryz.underlying40 rfl ?hi2 ?_); (case hw2 => first | exact wanted_none rfl | exact wanted_if rfl rfl rfl rfl); (case hi2 => kernel_rfl)) | ((with_reducible refine wl_sload 40 _ rfl ?hw2 pb 4 encX _ rfl HX2.out Tryz.underlying40 rfl ?hi2 ?_); (case hw2 => first | exact wanted_none rfl | exact wanted_if rfl rfl rfl rfl); (case hi2 => kernel_rfl)) | ((with_reducible refine wl_sload 40 _ rfl ?hw2 w.heap.size 14 encX _ rfl HY1.out Tryz.underlying40 rfl ?hi2 ?_); (case hw2 => first | exact wanted_none rfl | exact wanted_if rfl rfl rfl rfl); (case hi2 => kernel_rfl)) | ((with_reducible refine wl_sload 40 _ rfl ?hw2 pb 14 encX _ rfl HY2.out Tryz.underlying40 rfl ?hi2 ?_); (case hw2 => first | exact wanted_none rfl | exact wanted_if rfl rfl rfl rfl); (case hi2 => kernel_rfl)) | (go_at_call 59; refine (xsame_zero _).mono ?_; first | (rintro e w3 ⟨rfl, hb3⟩; have HY1 := Lib.hid (encC_sub _ _ 14 (.inr rfl) (rangeAt_below HAW.out (HB3.out.trans (hb3.mono HB3.out.size)) HLT.out)); have HY2 := Lib.hid (encC_sub _ _ 14 (.inr rfl) (rangeAt_below HB.out (HB3.out.trans (hb3.mono HB3.out.size)) HS2.out)); have HB4 := Lib.hid (HB3.out.trans (hb3.mono HB3.out.size)); clear HX1 HX2 hb3 HB3) | (rintro e w4 ⟨rfl, hb4⟩; have HB5 := Lib.hid (HB4.out.trans (hb4.mono HB4.out.size)); clear hb4)))
  go_wp2
  go_ret
  exact ⟨rfl, HBW.out.trans (HB5.out.mono HBW.out.size)⟩
end Go.Proofs.YtlfefikhmdbbfaaGreat
