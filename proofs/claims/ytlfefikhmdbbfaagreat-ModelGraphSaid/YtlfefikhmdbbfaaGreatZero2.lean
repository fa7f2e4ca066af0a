/- value.row, Order and Same of the value that is nothing. -/
import Derived.Test.YtlfefikhmdbbfaaGreatZero
namespace Go.Proofs.YtlfefikhmdbbfaaGreat
open Go Go.RowKit
set_option linter.unusedVariables false

set_option maxHeartbeats 4000000 in
set_option maxRecDepth 100000 in
theorem row_zero (pa pb : Nat) (w : World) (ha : w.rangeAt pa 0 zeroV) (hb : w.rangeAt pb 0 zeroV) (hl : pa < w.heap.size ∧ pb < w.heap.size) :
    Calls Tryz.prog 81 #[.pointer (some ⟨pa, 0, none⟩), .pointer (some ⟨pb, 0, none⟩)] w fun e w' => e = .returned (.int .i64 0) ∧ Below w.heap.size w w' := by
  have HL := Lib.hid hl
  have HA := Lib.hid ha
  have HB := Lib.hid hb
  have d0 : w.cell? ⟨pa, 0, none⟩ = some (.int .i64 0) := by have := ha 0 (.int .i64 0) rfl; simpa using this
  clear ha hb hl
  go_enter Tryz.func81, Tryz.ntmps81
  go_upto_region 13 with (fail)
  clear d0
  refine wp_region_ord [(0, true), (1, true), (2, true), (3, true), (4, true), (5, true), (6, true), (7, true), (9, true), (10, true), (11, true), (12, true), (13, true), (14, true), (15, true), (16, true), (18, true), (19, true), (20, true), (21, true), (22, true), (23, true), (24, true), (25, true), (8, false), (17, false), (26, false), (27, false), (28, false), (29, true)]
    (fun z => Below w.heap.size w z) (by kernel_rfl) (by kernel_rfl) (by kernel_rfl) rfl (by intro c a d v w h; cases d <;> exact h) ?_
  have hs : Below w.heap.size w w.drew := (Below.refl _ w).drew
  have HCA : Hid (∀ z, Below w.heap.size w z → ∀ (i : Nat) v, zeroV[i]? = some v → z.cell? ⟨pa, i, none⟩ = some v) := Lib.hid fun z hz i v hv => by have := HA.out i v hv; rw [Nat.zero_add] at this; exact (hz.cell (p := ⟨pa, i, none⟩) HL.out.1).trans this
  have HCB : Hid (∀ z, Below w.heap.size w z → ∀ (i : Nat) v, zeroV[i]? = some v → z.cell? ⟨pb, i, none⟩ = some v) := Lib.hid fun z hz i v hv => by have := HB.out i v hv; rw [Nat.zero_add] at this; exact (hz.cell (p := ⟨pb, i, none⟩) HL.out.2).trans this
  refine ord_move (some 57) (.pointer (some ⟨pa, 0, none⟩)) _ _ rfl rfl rfl (by first | exact wanted_none rfl | exact wanted_if rfl rfl rfl rfl) hs rfl ?_
  go_frame
  refine ord_load (some 58) (.pointer (some ⟨pa, 0, none⟩)) _ rfl rfl (by first | exact wanted_none rfl | exact wanted_if rfl rfl rfl rfl) hs (fun z hz => by go_simp) ?_
  go_frame
  refine ord_load (some 59) (.pointer (some ⟨pa, 1, none⟩)) _ rfl rfl (by first | exact wanted_none rfl | exact wanted_if rfl rfl rfl rfl) hs (fun z hz => by go_simp) ?_
  go_frame
  refine ord_load (some 60) (.int .i64 0) _ rfl rfl (by first | exact wanted_none rfl | exact wanted_if rfl rfl rfl rfl) hs (fun z hz => by have dd := HCA.out z hz 1 (.int .i64 0) rfl; go_simp) ?_
  go_frame
  refine ord_move (some 61) (.pointer (some ⟨pb, 0, none⟩)) _ _ rfl rfl rfl (by first | exact wanted_none rfl | exact wanted_if rfl rfl rfl rfl) hs rfl ?_
  go_frame
  refine ord_load (some 62) (.pointer (some ⟨pb, 0, none⟩)) _ rfl rfl (by first | exact wanted_none rfl | exact wanted_if rfl rfl rfl rfl) hs (fun z hz => by go_simp) ?_
  go_frame
  refine ord_load (some 63) (.pointer (some ⟨pb, 1, none⟩)) _ rfl rfl (by first | exact wanted_none rfl | exact wanted_if rfl rfl rfl rfl) hs (fun z hz => by go_simp) ?_
  go_frame
  refine ord_load (some 64) (.int .i64 0) _ rfl rfl (by first | exact wanted_none rfl | exact wanted_if rfl rfl rfl rfl) hs (fun z hz => by have dd := HCB.out z hz 1 (.int .i64 0) rfl; go_simp) ?_
  go_frame
  refine ord_move (some 66) (.pointer (some ⟨pa, 0, none⟩)) _ _ rfl rfl rfl (by first | exact wanted_none rfl | exact wanted_if rfl rfl rfl rfl) hs rfl ?_
  go_frame
  refine ord_load (some 67) (.pointer (some ⟨pa, 0, none⟩)) _ rfl rfl (by first | exact wanted_none rfl | exact wanted_if rfl rfl rfl rfl) hs (fun z hz => by go_simp) ?_
  go_frame
  refine ord_load (some 68) (.pointer (some ⟨pa, 3, none⟩)) _ rfl rfl (by first | exact wanted_none rfl | exact wanted_if rfl rfl rfl rfl) hs (fun z hz => by go_simp) ?_
  go_frame
  refine ord_load (some 69) (.string ⟨#[]⟩) _ rfl rfl (by first | exact wanted_none rfl | exact wanted_if rfl rfl rfl rfl) hs (fun z hz => by have dd := HCA.out z hz 3 (.string ⟨#[]⟩) rfl; go_simp) ?_
  go_frame
  refine ord_move (some 70) (.pointer (some ⟨pb, 0, none⟩)) _ _ rfl rfl rfl (by first | exact wanted_none rfl | exact wanted_if rfl rfl rfl rfl) hs rfl ?_
  go_frame
  refine ord_load (some 71) (.pointer (some ⟨pb, 0, none⟩)) _ rfl rfl (by first | exact wanted_none rfl | exact wanted_if rfl rfl rfl rfl) hs (fun z hz => by go_simp) ?_
  go_frame
  refine ord_load (some 72) (.pointer (some ⟨pb, 3, none⟩)) _ rfl rfl (by first | exact wanted_none rfl | exact wanted_if rfl rfl rfl rfl) hs (fun z hz => by go_simp) ?_
  go_frame
  refine ord_load (some 73) (.string ⟨#[]⟩) _ rfl rfl (by first | exact wanted_none rfl | exact wanted_if rfl rfl rfl rfl) hs (fun z hz => by have dd := HCB.out z hz 3 (.string ⟨#[]⟩) rfl; go_simp) ?_
  go_frame
  refine ord_move (some 75) (.pointer (some ⟨pa, 0, none⟩)) _ _ rfl rfl rfl (by first | exact wanted_none rfl | exact wanted_if rfl rfl rfl rfl) hs rfl ?_
  go_frame
  refine ord_load (some 76) (.pointer (some ⟨pa, 0, none⟩)) _ rfl rfl (by first | exact wanted_none rfl | exact wanted_if rfl rfl rfl rfl) hs (fun z hz => by go_simp) ?_
  go_frame
  refine ord_load (some 77) (.pointer (some ⟨pa, 4, none⟩)) _ rfl rfl (by first | exact wanted_none rfl | exact wanted_if rfl rfl rfl rfl) hs (fun z hz => by go_simp) ?_
  go_frame
  refine ord_load (some 78) (.slice none 0 0) _ rfl rfl (by first | exact wanted_none rfl | exact wanted_if rfl rfl rfl rfl) hs (fun z hz => by have dd := HCA.out z hz 4 (.slice none 0 0) rfl; go_simp) ?_
  go_frame
  refine ord_move (some 79) (.pointer (some ⟨pb, 0, none⟩)) _ _ rfl rfl rfl (by first | exact wanted_none rfl | exact wanted_if rfl rfl rfl rfl) hs rfl ?_
  go_frame
  refine ord_load (some 80) (.pointer (some ⟨pb, 0, none⟩)) _ rfl rfl (by first | exact wanted_none rfl | exact wanted_if rfl rfl rfl rfl) hs (fun z hz => by go_simp) ?_
  go_frame
  refine ord_load (some 81) (.pointer (some ⟨pb, 4, none⟩)) _ rfl rfl (by first | exact wanted_none rfl | exact wanted_if rfl rfl rfl rfl) hs (fun z hz => by go_simp) ?_
  go_frame
  refine ord_load (some 82) (.slice none 0 0) _ rfl rfl (by first | exact wanted_none rfl | exact wanted_if rfl rfl rfl rfl) hs (fun z hz => by have dd := HCB.out z hz 4 (.slice none 0 0) rfl; go_simp) ?_
  go_frame
  refine ord_to (some 65) 97 Tryz.func97 (by kernel_rfl) (by kernel_rfl) [.int .i64 0, .int .i64 0] _ _ _ rfl rfl rfl (by first | exact wanted_none rfl | exact wanted_if rfl rfl rfl rfl) rfl ?_
  refine (cmp64_zero _).mono ?_
  rintro e z1 ⟨rfl, rfl⟩
  refine ⟨.int .i64 0, rfl, hs, ?_⟩
  go_frame
  refine ord_to (some 74) 99 Tryz.func99 (by kernel_rfl) (by kernel_rfl) [.string ⟨#[]⟩, .string ⟨#[]⟩] _ _ _ rfl rfl rfl (by first | exact wanted_none rfl | exact wanted_if rfl rfl rfl rfl) rfl ?_
  refine (strcmp_zero _).mono ?_
  rintro e z1 ⟨rfl, rfl⟩
  refine ⟨.int .i64 0, rfl, hs, ?_⟩
  go_frame
  refine ord_to (some 83) 100 Tryz.func100 (by kernel_rfl) (by kernel_rfl) [.slice none 0 0, .slice none 0 0] _ _ _ rfl rfl rfl (by first | exact wanted_none rfl | exact wanted_if rfl rfl rfl rfl) rfl ?_
  refine (slcmp_nil _).mono ?_
  rintro e z1 ⟨rfl, rfl⟩
  refine ⟨.int .i64 0, rfl, hs, ?_⟩
  go_frame
  have hs2 : Below w.heap.size w (w.drew.alloc (.cells #[.int .i64 0, .int .i64 0, .int .i64 0] 3)) := hs.alloc hs.size _
  have hce := cells_box w.drew [.int .i64 0, .int .i64 0, .int .i64 0] 3
  refine ord_run (some 84) (.slice (some ⟨w.drew.heap.size, 0, none⟩) 3 3) (w.drew.alloc (.cells #[.int .i64 0, .int .i64 0, .int .i64 0] 3)) _ rfl rfl (by first | exact wanted_none rfl | exact wanted_if rfl rfl rfl rfl) (by go_simp) hs2 ?_
  go_frame
  refine ord_to (some 85) 101 Tryz.func101 (by kernel_rfl) (by kernel_rfl) [.slice (some ⟨w.drew.heap.size, 0, none⟩) 3 3] _ _ _ rfl rfl rfl (by first | exact wanted_none rfl | exact wanted_if rfl rfl rfl rfl) rfl ?_
  refine (or_zero _ _ (fun i hi => hce i _ (by match i, hi with | 0, _ => rfl | 1, _ => rfl | 2, _ => rfl))).mono ?_
  rintro e z1 ⟨rfl, rfl⟩
  refine ⟨.int .i64 0, rfl, hs2, ?_⟩
  go_frame
  refine ord_assign (some 4) (.int .i64 0) _ _ rfl rfl rfl (by first | exact wanted_none rfl | exact wanted_if rfl rfl rfl rfl) hs2 rfl ?_
  go_frame
  refine ord_end ?_
  have HBF := Lib.hid hs2
  clear hs hs2 hce
  go_wp2
  go_ret
  exact ⟨rfl, HBF.out⟩

set_option maxHeartbeats 4000000 in
set_option maxRecDepth 100000 in
theorem vorder_zero (w : World) : Calls Tryz.prog 71 #[.agg ⟨zeroV⟩, .agg ⟨zeroV⟩] w fun e w' => e = .returned (.int .i64 0) ∧ Below w.heap.size w w' := by
  have HA := Lib.hid (range_box w zeroV 38)
  have HB1 := Lib.hid (box_below w (.cells ⟨zeroV⟩ 38))
  have HS1 := Lib.hid (box_size w (.cells ⟨zeroV⟩ 38))
  have HSE : Hid ((w.alloc (.cells ⟨zeroV⟩ 38)).heap.size = w.heap.size + 1) := Lib.hid (by simp)
  go_enter Tryz.func71, Tryz.ntmps71
  go_upto_region 1 with (fail)
  generalize w.alloc (.cells ⟨zeroV⟩ 38) = W1 at *
  have HB := Lib.hid (range_box W1 zeroV 38)
  have HB2 := Lib.hid (box_below W1 (.cells ⟨zeroV⟩ 38))
  have HS2 := Lib.hid (box_size W1 (.cells ⟨zeroV⟩ 38))
  generalize W1.alloc (.cells ⟨zeroV⟩ 38) = W at *
  have HAW := Lib.hid (rangeAt_below HA.out HB2.out HS1.out)
  have HBW := Lib.hid (HB1.out.trans (HB2.out.mono HB1.out.size))
  have HLT := Lib.hid (Nat.lt_of_lt_of_le HS1.out HB2.out.size)
  rw [HSE.out] at HB HS2
  obtain ⟨pb, hpb⟩ : ∃ pb, w.heap.size + 1 = pb := ⟨_, rfl⟩
  rw [hpb] at HB HS2
  rw [hpb]
  have d0 : W.cell? ⟨w.heap.size, 0, none⟩ = some (.int .i64 0) := by have := HAW.out 0 (.int .i64 0) rfl; simpa using this
  have e0 : W.cell? ⟨pb, 0, none⟩ = some (.int .i64 0) := by have := HB.out 0 (.int .i64 0) rfl; simpa using this
  have HRZ := Lib.hid (row_zero w.heap.size pb W HAW.out HB.out ⟨HLT.out, HS2.out⟩)
  clear HA HB1 HS1 HSE HB2 hpb
  go_upto_region 5 with (first | (go_at_call 80; refine (cmpi_zero _).mono ?_; rintro e z1 ⟨rfl, rfl⟩) | (go_at_call 81; refine HRZ.out.mono ?_; rintro e w2 ⟨rfl, hb2⟩; have HB2 := Lib.hid hb2; have d0' := (hb2.cell (p := ⟨w.heap.size, 0, none⟩) HLT.out).trans d0; clear hb2))
  have d5 : w2.cell? ⟨w.heap.size, 5, none⟩ = some (.slice none 0 0) := by have := HAW.out 5 (.slice none 0 0) rfl; rw [Nat.zero_add] at this; exact (HB2.out.cell (p := ⟨w.heap.size, 5, none⟩) HLT.out).trans this
  have e5 : w2.cell? ⟨pb, 5, none⟩ = some (.slice none 0 0) := by have := HB.out 5 (.slice none 0 0) rfl; rw [Nat.zero_add] at this; exact (HB2.out.cell (p := ⟨pb, 5, none⟩) HS2.out).trans this
  go_wp2_with (first | (go_at_call 83; refine (cmpf_nil _).mono ?_; rintro e z1 ⟨rfl, rfl⟩) | go_in)
  go_ret
  exact ⟨rfl, HBW.out.trans (HB2.out.mono HBW.out.size)⟩

set_option maxHeartbeats 4000000 in
set_option maxRecDepth 100000 in
theorem vsame_zero (w : World) : Calls Tryz.prog 56 #[.agg ⟨zeroV⟩, .agg ⟨zeroV⟩] w fun e w' => e = .returned (.bool true) ∧ Below w.heap.size w w' := by
  have HA := Lib.hid (range_box w zeroV 38)
  have HB1 := Lib.hid (box_below w (.cells ⟨zeroV⟩ 38))
  have HS1 := Lib.hid (box_size w (.cells ⟨zeroV⟩ 38))
  have HSE : Hid ((w.alloc (.cells ⟨zeroV⟩ 38)).heap.size = w.heap.size + 1) := Lib.hid (by simp)
  go_enter Tryz.func56, Tryz.ntmps56
  go_upto_region 1 with (fail)
  generalize w.alloc (.cells ⟨zeroV⟩ 38) = W1 at *
  have HB := Lib.hid (range_box W1 zeroV 38)
  have HB2 := Lib.hid (box_below W1 (.cells ⟨zeroV⟩ 38))
  have HS2 := Lib.hid (box_size W1 (.cells ⟨zeroV⟩ 38))
  generalize W1.alloc (.cells ⟨zeroV⟩ 38) = W at *
  have HAW := Lib.hid (rangeAt_below HA.out HB2.out HS1.out)
  have HBW := Lib.hid (HB1.out.trans (HB2.out.mono HB1.out.size))
  have HLT := Lib.hid (Nat.lt_of_lt_of_le HS1.out HB2.out.size)
  rw [HSE.out] at HB HS2
  obtain ⟨pb, hpb⟩ : ∃ pb, w.heap.size + 1 = pb := ⟨_, rfl⟩
  rw [hpb] at HB HS2
  rw [hpb]
  clear HA HB1 HS1 HSE HB2 hpb
  go_wp2_with (first | ((with_reducible refine wl_sload 38 _ rfl ?hw2 w.heap.size 0 zeroV _ rfl HAW.out Tryz.underlying38 rfl ?hi2 ?_); (case hw2 => first | exact wanted_none rfl | exact wanted_if rfl rfl rfl rfl); (case hi2 => kernel_rfl)) | ((with_reducible refine wl_sload 38 _ rfl ?hw2 pb 0 zeroV _ rfl HB.out Tryz.underlying38 rfl ?hi2 ?_); (case hw2 => first | exact wanted_none rfl | exact wanted_if rfl rfl rfl rfl); (case hi2 => kernel_rfl)) | (go_at_call 71; refine (vorder_zero _).mono ?_; rintro e w2 ⟨rfl, hb2⟩; have HB3 := Lib.hid hb2; clear hb2))
  go_ret
  exact ⟨rfl, HBW.out.trans (HB3.out.mono HBW.out.size)⟩

theorem eqs_nil (w : World) : Calls Tryz.prog 69 #[.slice none 0 0, .slice none 0 0] w fun e w' => e = .returned (.bool true) ∧ w' = w := by
  go_enter Tryz.func69, Tryz.ntmps69
  go_wp2
  go_loopg [13] 0 (fun q x u => q = 0 ∧ x = .int .i64 0 ∧ u = w)
  case atStart => exact ⟨rfl, rfl, rfl⟩
  case round =>
    obtain ⟨rfl, rfl, rfl⟩ := hrel
    go_wp2
    go_ret
    exact ⟨rfl, rfl⟩
theorem eqp_nil (w : World) : Calls Tryz.prog 25 #[.slice none 0 0, .slice none 0 0] w fun e w' => e = .returned (.bool true) ∧ w' = w := by
  go_enter Tryz.func25, Tryz.ntmps25
  go_wp2
  go_loopg [13] 0 (fun q x u => q = 0 ∧ x = .int .i64 0 ∧ u = w)
  case atStart => exact ⟨rfl, rfl, rfl⟩
  case round =>
    obtain ⟨rfl, rfl, rfl⟩ := hrel
    go_wp2
    go_ret
    exact ⟨rfl, rfl⟩
theorem eqx_nil (f : FuncId) (w : World) : Calls Tryz.prog 58 #[.slice none 0 0, .slice none 0 0, .func (.func f) #[] #[]] w fun e w' => e = .returned (.bool true) ∧ w' = w := by
  go_enter Tryz.func58, Tryz.ntmps58
  go_wp2
  go_loopg [17] 0 (fun q x u => q = 0 ∧ x = .int .i64 0 ∧ u = w)
  case atStart => exact ⟨rfl, rfl, rfl⟩
  case round =>
    obtain ⟨rfl, rfl, rfl⟩ := hrel
    go_wp2
    go_ret
    exact ⟨rfl, rfl⟩
theorem eqv_nil (f : FuncId) (w : World) : Calls Tryz.prog 26 #[.slice none 0 0, .slice none 0 0, .func (.func f) #[] #[]] w fun e w' => e = .returned (.bool true) ∧ w' = w := by
  go_enter Tryz.func26, Tryz.ntmps26
  go_wp2
  go_loopg [17] 0 (fun q x u => q = 0 ∧ x = .int .i64 0 ∧ u = w)
  case atStart => exact ⟨rfl, rfl, rfl⟩
  case round =>
    obtain ⟨rfl, rfl, rfl⟩ := hrel
    go_wp2
    go_ret
    exact ⟨rfl, rfl⟩
theorem eqm_nil (f : FuncId) (w : World) : Calls Tryz.prog 28 #[.slice none 0 0, .slice none 0 0, .func (.func f) #[] #[]] w fun e w' => e = .returned (.bool true) ∧ w' = w := by
  go_enter Tryz.func28, Tryz.ntmps28
  go_wp2
  go_loopg [17] 0 (fun q x u => q = 0 ∧ x = .int .i64 0 ∧ u = w)
  case atStart => exact ⟨rfl, rfl, rfl⟩
  case round =>
    obtain ⟨rfl, rfl, rfl⟩ := hrel
    go_wp2
    go_ret
    exact ⟨rfl, rfl⟩

set_option maxHeartbeats 4000000 in
set_option maxRecDepth 100000 in
theorem xsame_zero (w : World) : Calls Tryz.prog 59 #[.agg ⟨encX⟩, .agg ⟨encX⟩] w fun e w' => e = .returned (.bool true) ∧ Below w.heap.size w w' := by
  have HA := Lib.hid (range_box w encX 40)
  have HB1 := Lib.hid (box_below w (.cells ⟨encX⟩ 40))
  have HS1 := Lib.hid (box_size w (.cells ⟨encX⟩ 40))
  have HSE : Hid ((w.alloc (.cells ⟨encX⟩ 40)).heap.size = w.heap.size + 1) := Lib.hid (by simp)
  go_enter Tryz.func59, Tryz.ntmps59
  go_upto_region 1 with (fail)
  generalize w.alloc (.cells ⟨encX⟩ 40) = W1 at *
  have HB := Lib.hid (range_box W1 encX 40)
  have HB2 := Lib.hid (box_below W1 (.cells ⟨encX⟩ 40))
  have HS2 := Lib.hid (box_size W1 (.cells ⟨encX⟩ 40))
  generalize W1.alloc (.cells ⟨encX⟩ 40) = W at *
  have HAW := Lib.hid (rangeAt_below HA.out HB2.out HS1.out)
  have HBW := Lib.hid (HB1.out.trans (HB2.out.mono HB1.out.size))
  have HLT := Lib.hid (Nat.lt_of_lt_of_le HS1.out HB2.out.size)
  rw [HSE.out] at HB HS2
  obtain ⟨pb, hpb⟩ : ∃ pb, w.heap.size + 1 = pb := ⟨_, rfl⟩
  rw [hpb] at HB HS2
  rw [hpb]
  have d0 : W.cell? ⟨w.heap.size, 0, none⟩ = some (.int .i64 0) := by have := HAW.out 0 (.int .i64 0) rfl; simpa using this
  have e0 : W.cell? ⟨pb, 0, none⟩ = some (.int .i64 0) := by have := HB.out 0 (.int .i64 0) rfl; simpa using this
  have d1 : W.cell? ⟨w.heap.size, 1, none⟩ = some (.string ⟨#[]⟩) := by have := HAW.out 1 (.string ⟨#[]⟩) rfl; simpa using this
  have e1 : W.cell? ⟨pb, 1, none⟩ = some (.string ⟨#[]⟩) := by have := HB.out 1 (.string ⟨#[]⟩) rfl; simpa using this
  have HVA : Hid (W.rangeAt w.heap.size 2 zeroV) := Lib.hid (fun i v hv => by have := HAW.out (2 + i) v (by unfold zeroV at hv; unfold encX; have hi := (List.getElem?_eq_some_iff.1 hv).1; simp only [List.length_cons, List.length_nil] at hi; rw [← hv]; match i, hi with | 0, _ => rfl | 1, _ => rfl | 2, _ => rfl | 3, _ => rfl | 4, _ => rfl | 5, _ => rfl); rwa [Nat.zero_add] at this)
  have HVB : Hid (W.rangeAt pb 2 zeroV) := Lib.hid (fun i v hv => by have := HB.out (2 + i) v (by unfold zeroV at hv; unfold encX; have hi := (List.getElem?_eq_some_iff.1 hv).1; simp only [List.length_cons, List.length_nil] at hi; rw [← hv]; match i, hi with | 0, _ => rfl | 1, _ => rfl | 2, _ => rfl | 3, _ => rfl | 4, _ => rfl | 5, _ => rfl); rwa [Nat.zero_add] at this)
  clear HA HB1 HS1 HSE HB2 hpb
  go_wp2_with (first | ((with_reducible refine wl_sload 38 _ rfl ?hw2 w.heap.size 2 zeroV _ rfl HVA.out Tryz.underlying38 rfl ?hi2 ?_); (case hw2 => first | exact wanted_none rfl | exact wanted_if rfl rfl rfl rfl); (case hi2 => kernel_rfl)) | ((with_reducible refine wl_sload 38 _ rfl ?hw2 pb 2 zeroV _ rfl HVB.out Tryz.underlying38 rfl ?hi2 ?_); (case hw2 => first | exact wanted_none rfl | exact wanted_if rfl rfl rfl rfl); (case hi2 => kernel_rfl)) | (go_at_call 56; refine (vsame_zero _).mono ?_; rintro e w2 ⟨rfl, hb2⟩; have HB3 := Lib.hid hb2; have d8 : w2.cell? ⟨w.heap.size, 8, none⟩ = some (.slice none 0 0) := (hb2.cell (p := ⟨w.heap.size, 8, none⟩) HLT.out).trans (by have := HAW.out 8 (.slice none 0 0) rfl; rwa [Nat.zero_add] at this); have e8 : w2.cell? ⟨pb, 8, none⟩ = some (.slice none 0 0) := (hb2.cell (p := ⟨pb, 8, none⟩) HS2.out).trans (by have := HB.out 8 (.slice none 0 0) rfl; rwa [Nat.zero_add] at this); have d9 : w2.cell? ⟨w.heap.size, 9, none⟩ = some (.slice none 0 0) := (hb2.cell (p := ⟨w.heap.size, 9, none⟩) HLT.out).trans (by have := HAW.out 9 (.slice none 0 0) rfl; rwa [Nat.zero_add] at this); have e9 : w2.cell? ⟨pb, 9, none⟩ = some (.slice none 0 0) := (hb2.cell (p := ⟨pb, 9, none⟩) HS2.out).trans (by have := HB.out 9 (.slice none 0 0) rfl; rwa [Nat.zero_add] at this); clear hb2) | (go_at_call 69; refine (eqs_nil _).mono ?_; rintro e z1 ⟨rfl, rfl⟩) | (go_at_call 58; refine (eqx_nil _ _).mono ?_; rintro e z1 ⟨rfl, rfl⟩))
  go_ret
  exact ⟨rfl, HBW.out.trans (HB3.out.mono HBW.out.size)⟩
end Go.Proofs.YtlfefikhmdbbfaaGreat
