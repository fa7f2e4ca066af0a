/- Parts of a proof: Zero3, Zero4. -/
import Derived.Test.YtpmjcbjdcjjplaaGreatPack48
import Derived.Test.YtpmjcbjdcjjplaaGreatPack49
section
namespace Go.Proofs.YtpmjcbjdcjjplaaGreat
open Go Go.RowKit
set_option linter.unusedVariables false
theorem IntsV.cells {w : World} {v : Value} {l : List Int} (h : IntsV w v l) : ∃ A c, v = .slice A l.length c ∧ (0 < l.length → ∃ b o, A = some ⟨b, o, none⟩ ∧ ∀ j, j < l.length → w.cell? ⟨b, o + j, none⟩ = some (.int .i64 (l.getD j 0))) := by
  obtain ⟨_, A, c, rfl, h2⟩ := h.ints
  refine ⟨A, c, rfl, fun h0 => ?_⟩
  obtain ⟨b, o, rfl, _, h3⟩ := h2 h0
  refine ⟨b, o, rfl, fun j hj => h3 j _ ?_⟩
  rw [List.getD_eq_getElem?_getD, List.getElem?_eq_getElem hj]
  rfl
theorem eqi_any (u v : Value) (l : List Int) (w : World) (hu : IntsV w u l) (hv : IntsV w v l) : Calls Tryz.prog 49 #[u, v] w fun e w' => e = .returned (.bool true) ∧ Below w.heap.size w w' := by
  obtain ⟨A, c, rfl, h1⟩ := hu.cells
  obtain ⟨D, d, rfl, h2⟩ := hv.cells
  rcases Nat.eq_zero_or_pos l.length with h0 | h0
  · rw [h0]
    refine (Tryz.slices_Equal_int_empty A D c 0 d w (by omega)).mono fun e w' h => ?_
    obtain ⟨h3, h4⟩ := h
    subst h4
    exact ⟨by rw [h3]; rfl, Below.refl _ _⟩
  · obtain ⟨b, o, rfl, h3⟩ := h1 h0
    obtain ⟨b2, o2, rfl, h4⟩ := h2 h0
    refine (Tryz.slices_Equal_int b o l.length c b2 o2 l.length d l l w (Nat.le_refl _) (Nat.le_refl _) hu.1 hu.1 h3 h4).mono fun e w' h => ?_
    obtain ⟨h5, q, h6⟩ := h
    subst h6
    exact ⟨by rw [h5]; simp, below_drewN (Below.refl _ _) q⟩
theorem encC_len (v : Value) (c : Int) : (encC v c).length = 29 := rfl
theorem encC_sub (v : Value) (c : Int) (k : Nat) (hk : k = 4 ∨ k = 14) {w : World} {b : Nat} (h : w.rangeAt b 0 (encC v c)) : w.rangeAt b k encX := fun i u hu => by
  have hi : i < 10 := (List.getElem?_eq_some_iff.1 hu).1
  have := h (k + i) u (by
    rw [← hu]
    rcases hk with rfl | rfl
    · have : i = 0 ∨ i = 1 ∨ i = 2 ∨ i = 3 ∨ i = 4 ∨ i = 5 ∨ i = 6 ∨ i = 7 ∨ i = 8 ∨ i = 9 := by omega
      rcases this with rfl | rfl | rfl | rfl | rfl | rfl | rfl | rfl | rfl | rfl <;> rfl
    · have : i = 0 ∨ i = 1 ∨ i = 2 ∨ i = 3 ∨ i = 4 ∨ i = 5 ∨ i = 6 ∨ i = 7 ∨ i = 8 ∨ i = 9 := by omega
      rcases this with rfl | rfl | rfl | rfl | rfl | rfl | rfl | rfl | rfl | rfl <;> rfl)
  rwa [Nat.zero_add] at this
set_option maxHeartbeats 4000000 in
set_option maxRecDepth 100000 in
theorem node_same (u v : Value) (l : List Int) (c : Int) (w : World) (hu : IntsV w u l) (hv : IntsV w v l) :
    Calls Tryz.prog 23 #[.agg ⟨encC u c⟩, .agg ⟨encC v c⟩] w fun e w' => e = .returned (.bool true) ∧ Below w.heap.size w w' := by
  have HU := Lib.hid hu
  have HV := Lib.hid hv
  have HA := Lib.hid (range_box w (encC u c) 42)
  have HB1 := Lib.hid (box_below w (.cells ⟨encC u c⟩ 42))
  have HS1 := Lib.hid (box_size w (.cells ⟨encC u c⟩ 42))
  have HSE : Hid ((w.alloc (.cells ⟨encC u c⟩ 42)).heap.size = w.heap.size + 1) := Lib.hid (by simp)
  clear hu hv
  go_enter Tryz.func23, Tryz.ntmps23
  go_upto_region 1 with (fail)
  generalize w.alloc (.cells ⟨encC u c⟩ 42) = W1 at *
  have HB := Lib.hid (range_box W1 (encC v c) 42)
  have HB2 := Lib.hid (box_below W1 (.cells ⟨encC v c⟩ 42))
  have HS2 := Lib.hid (box_size W1 (.cells ⟨encC v c⟩ 42))
  generalize W1.alloc (.cells ⟨encC v c⟩ 42) = W at *
  have HAW := Lib.hid (rangeAt_below HA.out HB2.out HS1.out)
  have HBW := Lib.hid (HB1.out.trans (HB2.out.mono HB1.out.size))
  have HLT := Lib.hid (Nat.lt_of_lt_of_le HS1.out HB2.out.size)
  rw [HSE.out] at HB HS2
  obtain ⟨pb, hpb⟩ : ∃ pb, w.heap.size + 1 = pb := ⟨_, rfl⟩
  rw [hpb] at HB HS2
  rw [hpb]
  obtain ⟨N1, hN1⟩ : ∃ N1, Value.agg ⟨encC u c⟩ = N1 := ⟨_, rfl⟩
  obtain ⟨N2, hN2⟩ : ∃ N2, Value.agg ⟨encC v c⟩ = N2 := ⟨_, rfl⟩
  rw [hN1, hN2]
  clear hN1 hN2
  have HCA : Hid (∀ (i : Nat) x, (encC u c)[i]? = some x → ∀ z, Below W.heap.size W z → z.cell? ⟨w.heap.size, i, none⟩ = some x) := Lib.hid fun i x hx z hz => (hz.cell (p := ⟨w.heap.size, i, none⟩) HLT.out).trans (by have := HAW.out i x hx; rwa [Nat.zero_add] at this)
  have HCB : Hid (∀ (i : Nat) x, (encC v c)[i]? = some x → ∀ z, Below W.heap.size W z → z.cell? ⟨pb, i, none⟩ = some x) := Lib.hid fun i x hx z hz => (hz.cell (p := ⟨pb, i, none⟩) HS2.out).trans (by have := HB.out i x hx; rwa [Nat.zero_add] at this)
  clear HA HB1 HS1 HSE HB2 hpb
  have d0 := HCA.out 0 (.int .i64 0) rfl W (Below.refl _ _)
  have e0 := HCB.out 0 (.int .i64 0) rfl W (Below.refl _ _)
  have d1 := HCA.out 1 (.int .i64 0) rfl W (Below.refl _ _)
  have e1 := HCB.out 1 (.int .i64 0) rfl W (Below.refl _ _)
  have d24 := HCA.out 24 (.int .i64 0) rfl W (Below.refl _ _)
  have e24 := HCB.out 24 (.int .i64 0) rfl W (Below.refl _ _)
  have d25 := HCA.out 25 (.int .i64 0) rfl W (Below.refl _ _)
  have e25 := HCB.out 25 (.int .i64 0) rfl W (Below.refl _ _)
  have d26 := HCA.out 26 (.int .i64 c) rfl W (Below.refl _ _)
  have e26 := HCB.out 26 (.int .i64 c) rfl W (Below.refl _ _)
  have d27 := HCA.out 27 (.int .i64 0) rfl W (Below.refl _ _)
  have e27 := HCB.out 27 (.int .i64 0) rfl W (Below.refl _ _)
  have d28 := HCA.out 28 (.int .i64 0) rfl W (Below.refl _ _)
  have e28 := HCB.out 28 (.int .i64 0) rfl W (Below.refl _ _)
  obtain ⟨Au, cu, hAu, _⟩ := HU.out.cells
  obtain ⟨Av, cv, hAv, _⟩ := HV.out.cells
  subst hAu
  subst hAv
  have d2 := HCA.out 2 (.slice Au l.length cu) rfl W (Below.refl _ _)
  have e2 := HCB.out 2 (.slice Av l.length cv) rfl W (Below.refl _ _)
  have HEI := Lib.hid (eqi_any _ _ l W (HU.out.below HBW.out) (HV.out.below HBW.out))
  go_upto_region 2 with (fail)
  clear d0 e0 d1 e1 d24 e24 d25 e25 d26 e26 d27 e27 d28 e28
  go_wp2_with (first | (go_at_call 49; fail))
  refine HEI.out.mono ?_
  rintro e w2 ⟨rfl, hb2⟩
  have HB3 := Lib.hid hb2
  have d3 := HCA.out 3 (.slice none 0 0) rfl w2 hb2
  have e3 := HCB.out 3 (.slice none 0 0) rfl w2 hb2
  have HX1 := Lib.hid (encC_sub _ _ 4 (.inl rfl) (rangeAt_below HAW.out hb2 HLT.out))
  have HX2 := Lib.hid (encC_sub _ _ 4 (.inl rfl) (rangeAt_below HB.out hb2 HS2.out))
  clear d2 e2 hb2
  go_upto_region 3 with (first | (go_at_call 50; refine (eqx_nil _ _).mono ?_; rintro e z1 ⟨rfl, rfl⟩) | ((with_reducible refine wl_sload 40 _ rfl ?hw2 w.heap.size 4 encX _ rfl HX1.out Tryz.underlying40 rfl ?hi2 ?_); (case hw2 => exact wantA rfl); (case hi2 => kernel_rfl)) | ((with_reducible refine wl_sload 40 _ rfl ?hw2 pb 4 encX _ rfl HX2.out Tryz.underlying40 rfl ?hi2 ?_); (case hw2 => exact wantA rfl); (case hi2 => kernel_rfl)) | ((with_reducible refine wl_sload 40 _ rfl ?hw2 w.heap.size 14 encX _ rfl HY1.out Tryz.underlying40 rfl ?hi2 ?_); (case hw2 => exact wantA rfl); (case hi2 => kernel_rfl)) | ((with_reducible refine wl_sload 40 _ rfl ?hw2 pb 14 encX _ rfl HY2.out Tryz.underlying40 rfl ?hi2 ?_); (case hw2 => exact wantA rfl); (case hi2 => kernel_rfl)) | (go_at_call 51; refine (xsame_zero _).mono ?_; first | (rintro e w3 ⟨rfl, hb3⟩; have HY1 := Lib.hid (encC_sub _ _ 14 (.inr rfl) (rangeAt_below HAW.out (HB3.out.trans (hb3.mono HB3.out.size)) HLT.out)); have HY2 := Lib.hid (encC_sub _ _ 14 (.inr rfl) (rangeAt_below HB.out (HB3.out.trans (hb3.mono HB3.out.size)) HS2.out)); have HB4 := Lib.hid (HB3.out.trans (hb3.mono HB3.out.size)); clear HX1 HX2 hb3 HB3) | (rintro e w4 ⟨rfl, hb4⟩; have HB5 := Lib.hid (HB4.out.trans (hb4.mono HB4.out.size)); clear hb4)))
  go_wp2
  go_ret
  exact ⟨rfl, HBW.out.trans (HB5.out.mono HBW.out.size)⟩
end Go.Proofs.YtpmjcbjdcjjplaaGreat
end
section
namespace Go.Proofs.YtpmjcbjdcjjplaaGreat
open Go Go.RowKit
set_option linter.unusedVariables false
def PlainR (w : World) (B : Nat) (cs : List Value) (x : List Int × Int) : Prop := ∃ v, cs = encC v x.2 ∧ SlAt w B 1 (Enc encI) v x.1
def PlainAt (w : World) (v : Value) (L : List (List Int × Int)) : Prop := SlAt w w.heap.size 29 (PlainR w w.heap.size) v L
theorem PlainAt.below {w W : World} {v : Value} {L : List (List Int × Int)} (h : PlainAt w v L) (hb : Below w.heap.size w W) : PlainAt W v L :=
  (SlAt.more (SlAt.below h hb fun _ _ _ h => h) hb.size).weak fun cs x hx => by
    obtain ⟨v, h1, h2⟩ := hx
    exact ⟨v, h1, SlAt.more (SlAt.below h2 hb fun _ _ _ h => h) hb.size⟩
theorem encC_ones {A : Option Addr} {n c : Nat} {k : Int} : ∀ u ∈ encC (.slice A n c) k, u.oneCell' = true := by
  intro u hu
  simp only [encC, encX, List.mem_append, List.mem_cons, List.not_mem_nil, or_false] at hu
  rcases hu with (((rfl | rfl | rfl | rfl) | (rfl | rfl | rfl | rfl | rfl | rfl | rfl | rfl | rfl | rfl)) | (rfl | rfl | rfl | rfl | rfl | rfl | rfl | rfl | rfl | rfl)) | (rfl | rfl | rfl | rfl | rfl) <;> rfl
set_option maxHeartbeats 4000000 in
set_option maxRecDepth 100000 in
theorem eqn_any (u v : Value) (L : List (List Int × Int)) (w : World) (hu : PlainAt w u L) (hv : PlainAt w v L) (hL : L.length ≤ 100) :
    Calls Tryz.prog 22 #[u, v, .func (.func 23) #[] #[]] w fun e w' => e = .returned (.bool true) ∧ Below w.heap.size w w' := by
  obtain ⟨_, A, c, rfl, h1⟩ := hu
  obtain ⟨_, D, d, rfl, h2⟩ := hv
  have HA := Lib.hid h1
  have HD := Lib.hid h2
  have hl2 : (L.length : Int) ≤ 100 := by omega
  clear h1 h2
  go_enter Tryz.func22, Tryz.ntmps22
  go_wp2
  go_loopg [17] L.length (fun q x u => ∃ j : Nat, j + q = L.length ∧ x = .int .i64 j ∧ Below w.heap.size w u)
  case atStart => exact ⟨0, by omega, rfl, Below.refl _ _⟩
  case round =>
    obtain ⟨j, hj, rfl, hb⟩ := hrel
    have HB := Lib.hid hb
    clear hb
    cases gk with
    | zero =>
      obtain rfl : j = L.length := by omega
      have hge : ¬ ((L.length : Int) < (L.length : Int)) := by omega
      go_wp2
      go_ret
      exact ⟨rfl, HB.out⟩
    | succ q =>
      have hlt : (j : Int) < (L.length : Int) := by omega
      obtain ⟨x, hx⟩ : ∃ x, L[j]? = some x := ⟨_, List.getElem?_eq_getElem (by omega)⟩
      obtain ⟨b1, o1, rfl, hb1, hc1⟩ := HA.out (by omega)
      obtain ⟨b2, o2, rfl, hb2, hc2⟩ := HD.out (by omega)
      obtain ⟨k1, _, hr1, v1, hk1, hs1⟩ := hc1 j x hx
      obtain ⟨k2, _, hr2, v2, hk2, hs2⟩ := hc2 j x hx
      have HR1 := Lib.hid (rangeAt_below hr1 HB.out hb1)
      have HR2' := Lib.hid hr2
      have HK1 : Hid (k1.length = 29) := Lib.hid (by rw [hk1]; rfl)
      have HK2 : Hid (k2.length = 29) := Lib.hid (by rw [hk2]; rfl)
      have HO1 : Hid (∀ u ∈ k1, u.oneCell' = true) := Lib.hid (by obtain ⟨_, A', c', h, _⟩ := hs1; rw [hk1, h]; exact encC_ones)
      have HO2 : Hid (∀ u ∈ k2, u.oneCell' = true) := Lib.hid (by obtain ⟨_, A', c', h, _⟩ := hs2; rw [hk2, h]; exact encC_ones)
      have HNS : Hid (∀ z, Below w.heap.size w z → Calls Tryz.prog 23 #[.agg ⟨k1⟩, .agg ⟨k2⟩] z fun e w' => e = .returned (.bool true) ∧ Below z.heap.size z w') := Lib.hid fun z hz => by
        rw [hk1, hk2]
        exact node_same v1 v2 x.1 x.2 z (IntsV.below (w := w) hs1 hz) (IntsV.below (w := w) hs2 hz)
      have HL2 := Lib.hid hb2
      clear hc1 hc2 hx hk1 hk2 hs1 hs2 hr1 hr2
      go_upto_region 6 with (first | ((with_reducible refine wl_sload 42 _ rfl ?hw2 b1 (o1 + j * 29) k1 _ rfl HR1.out Tryz.underlying42 rfl ?hi2 ?_); (case hw2 => exact wantA rfl); (case hi2 => rw [HK1.out]; kernel_rfl)) | ((with_reducible refine wl_sbox 42 _ _ rfl ?hw wr ?z k1 ?hwld ?hz ?hx ?hy ?hi ?h1 ?_); (case hwld => rfl); (case hx => rfl); (case hy => rfl); (case hw => exact wantA rfl); (case hz => rw [HK1.out]; rfl); (case hi => rw [HK1.out]; kernel_rfl); (case h1 => exact HO1.out); intro Z1 hbx; have HX1 := Lib.hid hbx; clear hbx))
      have HBZ := Lib.hid (HB.out.trans (HX1.out.below.mono HB.out.size))
      have HR2 := Lib.hid (rangeAt_below HR2'.out HBZ.out HL2.out)
      clear HR1 HR2'
      go_upto_region 7 with (first | ((with_reducible refine wl_sload 42 _ rfl ?hw2 b2 (o2 + j * 29) k2 _ rfl HR2.out Tryz.underlying42 rfl ?hi2 ?_); (case hw2 => exact wantA rfl); (case hi2 => rw [HK2.out]; kernel_rfl)) | ((with_reducible refine wl_sbox 42 _ _ rfl ?hw Z1 ?z2 k2 ?hwld ?hz ?hx ?hy ?hi ?h1 ?_); (case hwld => rfl); (case hx => rfl); (case hy => rfl); (case hw => exact wantA rfl); (case hz => rw [HK2.out]; rfl); (case hi => rw [HK2.out]; kernel_rfl); (case h1 => exact HO2.out); intro Z2 hbx; have HX2 := Lib.hid hbx; clear hbx))
      have HBY := Lib.hid (HBZ.out.trans (HX2.out.below.mono HBZ.out.size))
      have HRA := Lib.hid (rangeAt_below HX1.out.range HX2.out.below HX1.out.size)
      have HRB := Lib.hid HX2.out.range
      have HNC := Lib.hid (HNS.out Z2 HBY.out)
      go_wp2_with (first | ((with_reducible refine wl_sload 42 _ rfl ?hw2 wr.heap.size 0 k1 _ rfl HRA.out Tryz.underlying42 rfl ?hi2 ?_); (case hw2 => exact wantA rfl); (case hi2 => rw [HK1.out]; kernel_rfl)) | ((with_reducible refine wl_sload 42 _ rfl ?hw2 Z1.heap.size 0 k2 _ rfl HRB.out Tryz.underlying42 rfl ?hi2 ?_); (case hw2 => exact wantA rfl); (case hi2 => rw [HK2.out]; kernel_rfl)) | (go_at_call 23; refine HNC.out.mono ?_; rintro e w9 ⟨rfl, hb9⟩; have HB9 := Lib.hid hb9; clear hb9))
      go_roundg q
      case measure => omega
      case rel => exact ⟨j + 1, by omega, by go_num, HBY.out.trans (HB9.out.mono HBY.out.size)⟩
def plainM (v : Value) : List Value := [.int .i64 0, .slice none 0 0, .slice none 0 0, .slice none 0 0, .slice none 0 0, v]
set_option maxHeartbeats 4000000 in
set_option maxRecDepth 100000 in
theorem msame_plain (u v : Value) (L : List (List Int × Int)) (w : World) (hu : PlainAt w u L) (hv : PlainAt w v L) (hL : L.length ≤ 100) :
    Calls Tryz.prog 6 #[.agg ⟨plainM u⟩, .agg ⟨plainM v⟩] w fun e w' => e = .returned (.bool true) ∧ Below w.heap.size w w' := by
  have HU := Lib.hid hu
  have HV := Lib.hid hv
  have HA := Lib.hid (range_box w (plainM u) 27)
  have HB1 := Lib.hid (box_below w (.cells ⟨plainM u⟩ 27))
  have HS1 := Lib.hid (box_size w (.cells ⟨plainM u⟩ 27))
  have HSE : Hid ((w.alloc (.cells ⟨plainM u⟩ 27)).heap.size = w.heap.size + 1) := Lib.hid (by simp)
  clear hu hv
  go_enter Tryz.func6, Tryz.ntmps6
  go_upto_region 1 with (fail)
  generalize w.alloc (.cells ⟨plainM u⟩ 27) = W1 at *
  have HB := Lib.hid (range_box W1 (plainM v) 27)
  have HB2 := Lib.hid (box_below W1 (.cells ⟨plainM v⟩ 27))
  have HS2 := Lib.hid (box_size W1 (.cells ⟨plainM v⟩ 27))
  generalize W1.alloc (.cells ⟨plainM v⟩ 27) = W at *
  have HAW := Lib.hid (rangeAt_below HA.out HB2.out HS1.out)
  have HBW := Lib.hid (HB1.out.trans (HB2.out.mono HB1.out.size))
  rw [HSE.out] at HB
  obtain ⟨pb, hpb⟩ : ∃ pb, w.heap.size + 1 = pb := ⟨_, rfl⟩
  rw [hpb] at HB
  rw [hpb]
  have HEN := Lib.hid (eqn_any u v L W (HU.out.below HBW.out) (HV.out.below HBW.out) hL)
  have d0 : W.cell? ⟨w.heap.size, 0, none⟩ = some (.int .i64 0) := by have := HAW.out 0 (.int .i64 0) rfl; rwa [Nat.zero_add] at this
  have e0 : W.cell? ⟨pb, 0, none⟩ = some (.int .i64 0) := by have := HB.out 0 (.int .i64 0) rfl; rwa [Nat.zero_add] at this
  have d1 : W.cell? ⟨w.heap.size, 1, none⟩ = some (.slice none 0 0) := by have := HAW.out 1 (.slice none 0 0) rfl; rwa [Nat.zero_add] at this
  have e1 : W.cell? ⟨pb, 1, none⟩ = some (.slice none 0 0) := by have := HB.out 1 (.slice none 0 0) rfl; rwa [Nat.zero_add] at this
  have d2 : W.cell? ⟨w.heap.size, 2, none⟩ = some (.slice none 0 0) := by have := HAW.out 2 (.slice none 0 0) rfl; rwa [Nat.zero_add] at this
  have e2 : W.cell? ⟨pb, 2, none⟩ = some (.slice none 0 0) := by have := HB.out 2 (.slice none 0 0) rfl; rwa [Nat.zero_add] at this
  have d3 : W.cell? ⟨w.heap.size, 3, none⟩ = some (.slice none 0 0) := by have := HAW.out 3 (.slice none 0 0) rfl; rwa [Nat.zero_add] at this
  have e3 : W.cell? ⟨pb, 3, none⟩ = some (.slice none 0 0) := by have := HB.out 3 (.slice none 0 0) rfl; rwa [Nat.zero_add] at this
  have d4 : W.cell? ⟨w.heap.size, 4, none⟩ = some (.slice none 0 0) := by have := HAW.out 4 (.slice none 0 0) rfl; rwa [Nat.zero_add] at this
  have e4 : W.cell? ⟨pb, 4, none⟩ = some (.slice none 0 0) := by have := HB.out 4 (.slice none 0 0) rfl; rwa [Nat.zero_add] at this
  have d5 : W.cell? ⟨w.heap.size, 5, none⟩ = some (u) := by have := HAW.out 5 (u) rfl; rwa [Nat.zero_add] at this
  have e5 : W.cell? ⟨pb, 5, none⟩ = some (v) := by have := HB.out 5 (v) rfl; rwa [Nat.zero_add] at this
  clear HA HB1 HS1 HSE HB2 hpb HS2
  obtain ⟨_, Au, cu, hAu, _⟩ := HU.out
  obtain ⟨_, Av, cv, hAv, _⟩ := HV.out
  subst hAu
  subst hAv
  go_wp2_with (first | (go_at_call 17; refine (eqp_nil _).mono ?_; rintro e z1 ⟨rfl, rfl⟩) | (go_at_call 18; refine (eqv_nil _ _).mono ?_; rintro e z1 ⟨rfl, rfl⟩) | (go_at_call 20; refine (eqm_nil _ _).mono ?_; rintro e z1 ⟨rfl, rfl⟩) | (go_at_call 22; refine HEN.out.mono ?_; rintro e w9 ⟨rfl, hb9⟩; have HB9 := Lib.hid hb9; clear hb9))
  go_ret
  exact ⟨rfl, HBW.out.trans (HB9.out.mono HBW.out.size)⟩
end Go.Proofs.YtpmjcbjdcjjplaaGreat
end
