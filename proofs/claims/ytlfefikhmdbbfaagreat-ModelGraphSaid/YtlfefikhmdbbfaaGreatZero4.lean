/- Models of edges alone: model.Same. -/
import Derived.Test.YtlfefikhmdbbfaaGreatZero3
namespace Go.Proofs.YtlfefikhmdbbfaaGreat
open Go Go.RowKit
set_option linter.unusedVariables false

def PlainR (w : World) (B : Nat) (cs : List Value) (x : List Int × Int) : Prop := ∃ v, cs = encC v x.2 ∧ SlAt w B 1 (Enc encI) v x.1
def PlainAt (w : World) (v : Value) (L : List (List Int × Int)) : Prop := SlAt w w.heap.size 29 (PlainR w w.heap.size) v L
theorem PlainAt.below {w W : World} {v : Value} {L : List (List Int × Int)} (h : PlainAt w v L) (hb : Below w.heap.size w W) : PlainAt W v L :=
  (SlAt.more (SlAt.below h hb fun _ _ _ h => h) hb.size).weak fun cs x hx => by
    obtain ⟨v, h1, h2⟩ := hx
    exact ⟨v, h1, SlAt.more (SlAt.below h2 hb fun _ _ _ h => h) hb.size⟩
theorem encC_ones {A : Option Addr} {n c : Nat} {k : Int} : ∀ u ∈ encC (.slice A n c) k, u.oneCell' = true := by
  intro u hu
  simp only [encC, encX, List.mem_append, List.mem_cons, List.not_mem_nil, or_false] at hu
  rcases hu with (((rfl | rfl | rfl | rfl) | (rfl | rfl | rfl | rfl | rfl | rfl | rfl | rfl | rfl | rfl)) | (rfl | rfl | rfl | rfl | rfl | rfl | rfl | rfl | rfl | rfl)) | (rfl | rfl | rfl | rfl | rfl) <;> rfl

set_option maxHeartbeats 4000000 in
set_option maxRecDepth 100000 in
theorem eqn_any (u v : Value) (L : List (List Int × Int)) (w : World) (hu : PlainAt w u L) (hv : PlainAt w v L) (hL : L.length ≤ 100) :
    Calls Tryz.prog 30 #[u, v, .func (.func 31) #[] #[]] w fun e w' => e = .returned (.bool true) ∧ Below w.heap.size w w' := by
  obtain ⟨_, A, c, rfl, h1⟩ := hu
  obtain ⟨_, D, d, rfl, h2⟩ := hv
  have HA := Lib.hid h1
  have HD := Lib.hid h2
  have hl2 : (L.length : Int) ≤ 100 := by omega
  clear h1 h2
  go_enter Tryz.func30, Tryz.ntmps30
  go_wp2
  go_loopg [17] L.length (fun q x u => ∃ j : Nat, j + q = L.length ∧ x = .int .i64 j ∧ Below w.heap.size w u)
  case atStart => exact ⟨0, by omega, rfl, Below.refl _ _⟩
  case round =>
    obtain ⟨j, hj, rfl, hb⟩ := hrel
    have HB := Lib.hid hb
    clear hb
    cases gk with
    | zero =>
      obtain rfl : j = L.length := by omega
      have hge : ¬ ((L.length : Int) < (L.length : Int)) := by omega
      go_wp2
      go_ret
      exact ⟨rfl, HB.out⟩
    | succ q =>
      have hlt : (j : Int) < (L.length : Int) := by omega
      obtain ⟨x, hx⟩ : ∃ x, L[j]? = some x := ⟨_, List.getElem?_eq_getElem (by omega)⟩
      obtain ⟨b1, o1, rfl, hb1, hc1⟩ := HA.out (by omega)
      obtain ⟨b2, o2, rfl, hb2, hc2⟩ := HD.out (by omega)
      obtain ⟨k1, _, hr1, v1, hk1, hs1⟩ := hc1 j x hx
      obtain ⟨k2, _, hr2, v2, hk2, hs2⟩ := hc2 j x hx
      have HR1 := Lib.hid (rangeAt_below hr1 HB.out hb1)
      have HR2' := Lib.hid hr2
      have HK1 : Hid (k1.length = 29) := Lib.hid (by rw [hk1]; rfl)
      have HK2 : Hid (k2.length = 29) := Lib.hid (by rw [hk2]; rfl)
      have HO1 : Hid (∀ u ∈ k1, u.oneCell' = true) := Lib.hid (by obtain ⟨_, A', c', h, _⟩ := hs1; rw [hk1, h]; exact encC_ones)
      have HO2 : Hid (∀ u ∈ k2, u.oneCell' = true) := Lib.hid (by obtain ⟨_, A', c', h, _⟩ := hs2; rw [hk2, h]; exact encC_ones)
      have HNS : Hid (∀ z, Below w.heap.size w z → Calls Tryz.prog 31 #[.agg ⟨k1⟩, .agg ⟨k2⟩] z fun e w' => e = .returned (.bool true) ∧ Below z.heap.size z w') := Lib.hid fun z hz => by
        rw [hk1, hk2]
        exact node_same v1 v2 x.1 x.2 z (IntsV.below (w := w) hs1 hz) (IntsV.below (w := w) hs2 hz)
      have HL2 := Lib.hid hb2
      clear hc1 hc2 hx hk1 hk2 hs1 hs2 hr1 hr2
      go_upto_region 6 with (first | ((with_reducible refine wl_sload 42 _ rfl ?hw2 b1 (o1 + j * 29) k1 _ rfl HR1.out Tryz.underlying42 rfl ?hi2 ?_); (case hw2 => first | exact wanted_none rfl | exact wanted_if rfl rfl rfl rfl); (case hi2 => rw [HK1.out]; kernel_rfl)) | ((with_reducible refine wl_sbox 42 _ _ rfl ?hw wr ?z k1 ?hwld ?hz ?hx ?hy ?hi ?h1 ?_); (case hwld => rfl); (case hx => rfl); (case hy => rfl); (case hw => first | exact wanted_none rfl | exact wanted_if rfl rfl rfl rfl); (case hz => rw [HK1.out]; rfl); (case hi => rw [HK1.out]; kernel_rfl); (case h1 => exact HO1.out); intro Z1 hbx; have HX1 := Lib.hid hbx; clear hbx))
      have HBZ := Lib.hid (HB.out.trans (HX1.out.below.mono HB.out.size))
      have HR2 := Lib.hid (rangeAt_below HR2'.out HBZ.out HL2.out)
      clear HR1 HR2'
      go_upto_region 7 with (first | ((with_reducible refine wl_sload 42 _ rfl ?hw2 b2 (o2 + j * 29) k2 _ rfl HR2.out Tryz.underlying42 rfl ?hi2 ?_); (case hw2 => first | exact wanted_none rfl | exact wanted_if rfl rfl rfl rfl); (case hi2 => rw [HK2.out]; kernel_rfl)) | ((with_reducible refine wl_sbox 42 _ _ rfl ?hw Z1 ?z2 k2 ?hwld ?hz ?hx ?hy ?hi ?h1 ?_); (case hwld => rfl); (case hx => rfl); (case hy => rfl); (case hw => first | exact wanted_none rfl | exact wanted_if rfl rfl rfl rfl); (case hz => rw [HK2.out]; rfl); (case hi => rw [HK2.out]; kernel_rfl); (case h1 => exact HO2.out); intro Z2 hbx; have HX2 := Lib.hid hbx; clear hbx))
      have HBY := Lib.hid (HBZ.out.trans (HX2.out.below.mono HBZ.out.size))
      have HRA := Lib.hid (rangeAt_below HX1.out.range HX2.out.below HX1.out.size)
      have HRB := Lib.hid HX2.out.range
      have HNC := Lib.hid (HNS.out Z2 HBY.out)
      go_wp2_with (first | ((with_reducible refine wl_sload 42 _ rfl ?hw2 wr.heap.size 0 k1 _ rfl HRA.out Tryz.underlying42 rfl ?hi2 ?_); (case hw2 => first | exact wanted_none rfl | exact wanted_if rfl rfl rfl rfl); (case hi2 => rw [HK1.out]; kernel_rfl)) | ((with_reducible refine wl_sload 42 _ rfl ?hw2 Z1.heap.size 0 k2 _ rfl HRB.out Tryz.underlying42 rfl ?hi2 ?_); (case hw2 => first | exact wanted_none rfl | exact wanted_if rfl rfl rfl rfl); (case hi2 => rw [HK2.out]; kernel_rfl)) | (go_at_call 31; refine HNC.out.mono ?_; rintro e w9 ⟨rfl, hb9⟩; have HB9 := Lib.hid hb9; clear hb9))
      go_roundg q
      case measure => omega
      case rel => exact ⟨j + 1, by omega, by go_num, HBY.out.trans (HB9.out.mono HBY.out.size)⟩

def plainM (v : Value) : List Value := [.int .i64 0, .slice none 0 0, .slice none 0 0, .slice none 0 0, .slice none 0 0, v]
set_option maxHeartbeats 4000000 in
set_option maxRecDepth 100000 in
theorem msame_plain (u v : Value) (L : List (List Int × Int)) (w : World) (hu : PlainAt w u L) (hv : PlainAt w v L) (hL : L.length ≤ 100) :
    Calls Tryz.prog 7 #[.agg ⟨plainM u⟩, .agg ⟨plainM v⟩] w fun e w' => e = .returned (.bool true) ∧ Below w.heap.size w w' := by
  have HU := Lib.hid hu
  have HV := Lib.hid hv
  have HA := Lib.hid (range_box w (plainM u) 27)
  have HB1 := Lib.hid (box_below w (.cells ⟨plainM u⟩ 27))
  have HS1 := Lib.hid (box_size w (.cells ⟨plainM u⟩ 27))
  have HSE : Hid ((w.alloc (.cells ⟨plainM u⟩ 27)).heap.size = w.heap.size + 1) := Lib.hid (by simp)
  clear hu hv
  go_enter Tryz.func7, Tryz.ntmps7
  go_upto_region 1 with (fail)
  generalize w.alloc (.cells ⟨plainM u⟩ 27) = W1 at *
  have HB := Lib.hid (range_box W1 (plainM v) 27)
  have HB2 := Lib.hid (box_below W1 (.cells ⟨plainM v⟩ 27))
  have HS2 := Lib.hid (box_size W1 (.cells ⟨plainM v⟩ 27))
  generalize W1.alloc (.cells ⟨plainM v⟩ 27) = W at *
  have HAW := Lib.hid (rangeAt_below HA.out HB2.out HS1.out)
  have HBW := Lib.hid (HB1.out.trans (HB2.out.mono HB1.out.size))
  rw [HSE.out] at HB
  obtain ⟨pb, hpb⟩ : ∃ pb, w.heap.size + 1 = pb := ⟨_, rfl⟩
  rw [hpb] at HB
  rw [hpb]
  have HEN := Lib.hid (eqn_any u v L W (HU.out.below HBW.out) (HV.out.below HBW.out) hL)
  have d0 : W.cell? ⟨w.heap.size, 0, none⟩ = some (.int .i64 0) := by have := HAW.out 0 (.int .i64 0) rfl; rwa [Nat.zero_add] at this
  have e0 : W.cell? ⟨pb, 0, none⟩ = some (.int .i64 0) := by have := HB.out 0 (.int .i64 0) rfl; rwa [Nat.zero_add] at this
  have d1 : W.cell? ⟨w.heap.size, 1, none⟩ = some (.slice none 0 0) := by have := HAW.out 1 (.slice none 0 0) rfl; rwa [Nat.zero_add] at this
  have e1 : W.cell? ⟨pb, 1, none⟩ = some (.slice none 0 0) := by have := HB.out 1 (.slice none 0 0) rfl; rwa [Nat.zero_add] at this
  have d2 : W.cell? ⟨w.heap.size, 2, none⟩ = some (.slice none 0 0) := by have := HAW.out 2 (.slice none 0 0) rfl; rwa [Nat.zero_add] at this
  have e2 : W.cell? ⟨pb, 2, none⟩ = some (.slice none 0 0) := by have := HB.out 2 (.slice none 0 0) rfl; rwa [Nat.zero_add] at this
  have d3 : W.cell? ⟨w.heap.size, 3, none⟩ = some (.slice none 0 0) := by have := HAW.out 3 (.slice none 0 0) rfl; rwa [Nat.zero_add] at this
  have e3 : W.cell? ⟨pb, 3, none⟩ = some (.slice none 0 0) := by have := HB.out 3 (.slice none 0 0) rfl; rwa [Nat.zero_add] at this
  have d4 : W.cell? ⟨w.heap.size, 4, none⟩ = some (.slice none 0 0) := by have := HAW.out 4 (.slice none 0 0) rfl; rwa [Nat.zero_add] at this
  have e4 : W.cell? ⟨pb, 4, none⟩ = some (.slice none 0 0) := by have := HB.out 4 (.slice none 0 0) rfl; rwa [Nat.zero_add] at this
  have d5 : W.cell? ⟨w.heap.size, 5, none⟩ = some (u) := by have := HAW.out 5 (u) rfl; rwa [Nat.zero_add] at this
  have e5 : W.cell? ⟨pb, 5, none⟩ = some (v) := by have := HB.out 5 (v) rfl; rwa [Nat.zero_add] at this
  clear HA HB1 HS1 HSE HB2 hpb HS2
  obtain ⟨_, Au, cu, hAu, _⟩ := HU.out
  obtain ⟨_, Av, cv, hAv, _⟩ := HV.out
  subst hAu
  subst hAv
  go_wp2_with (first | (go_at_call 25; refine (eqp_nil _).mono ?_; rintro e z1 ⟨rfl, rfl⟩) | (go_at_call 26; refine (eqv_nil _ _).mono ?_; rintro e z1 ⟨rfl, rfl⟩) | (go_at_call 28; refine (eqm_nil _ _).mono ?_; rintro e z1 ⟨rfl, rfl⟩) | (go_at_call 30; refine HEN.out.mono ?_; rintro e w9 ⟨rfl, hb9⟩; have HB9 := Lib.hid hb9; clear hb9))
  go_ret
  exact ⟨rfl, HBW.out.trans (HB9.out.mono HBW.out.size)⟩
end Go.Proofs.YtlfefikhmdbbfaaGreat
