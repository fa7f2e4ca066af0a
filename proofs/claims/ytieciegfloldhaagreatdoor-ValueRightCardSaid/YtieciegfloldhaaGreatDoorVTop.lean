/- value.Text of a value whose text is known, or that is not right; value.Fits of a number. -/
import Derived.Test.YtieciegfloldhaaGreatDoorVText
namespace Go.Proofs.YtieciegfloldhaaGreatDoor
open Go Go.RowKit
set_option linter.unusedVariables false

theorem bld_new (w : World) : Bld0 w.heap.size w.heap.size [] (w.alloc (.cells #[.pointer none, .slice none 0 0] 55)) :=
  .inl ⟨Nat.le_refl _, .slice none 0 0, heap_alloc_new w _, ⟨rfl, .inl ⟨rfl, rfl⟩⟩, by simp [Value.ownBlock]⟩
set_option maxHeartbeats 1000000 in
set_option maxRecDepth 100000 in
theorem text_top (t : VT) (txt : List UInt8) (ht : TextC t txt) (h0 : txt ≠ []) (hl : txt.length ≤ 1000000) (hr : (decide (cntV t 0 ≤ 200) && rightV t 1) = true) (cs : List Value) (w : World) (hv : ValAt w w.heap.size cs t) :
    Calls Tryz.prog 7 #[.agg ⟨cs⟩] w fun e w' => e = .returned (.tuple #[.string ⟨txt.toArray⟩, .int .i64 0]) ∧ Below w.heap.size w w' := by
  have HB1 := Lib.hid (box_below w (.cells ⟨cs⟩ 26))
  have HS1 := Lib.hid (box_size w (.cells ⟨cs⟩ 26))
  have HR1 := Lib.hid (range_box w cs 26)
  have HL := Lib.hid (val_one hv)
  have HV := Lib.hid hv
  have HT := Lib.hid ht
  have H0 := Lib.hid (And.intro h0 hl)
  have HRT := Lib.hid (right_top t cs (w.alloc (.cells ⟨cs⟩ 26)) (hv.next HB1.out))
  rw [hr] at HRT
  clear hv ht h0 hl hr
  go_enter Tryz.func7, Tryz.ntmps7
  go_upto_region 1 with (fail)
  generalize w.alloc (.cells ⟨cs⟩ 26) = W at *
  go_upto_region 4 with (first | ((with_reducible refine wl_sload 26 _ rfl ?hwa w.heap.size 0 cs _ rfl HR1.out Tryz.underlying26 rfl ?hia ?_); (case hwa => first | exact wanted_none rfl | exact wanted_if rfl rfl rfl rfl); (case hia => rw [HL.out.1]; kernel_rfl)) | (go_at_call 8; refine HRT.out.mono ?_; rintro e w2 ⟨rfl, hb2⟩; have HB2 := Lib.hid hb2; clear hb2))
  have HBN := Lib.hid (bld_new w2)
  have HB3 := Lib.hid (box_below w2 (.cells #[.pointer none, .slice none 0 0] 55))
  have HS3 := Lib.hid (box_size w2 (.cells #[.pointer none, .slice none 0 0] 55))
  generalize w2.alloc (.cells #[.pointer none, .slice none 0 0] 55) = W3 at *
  obtain ⟨B, hB⟩ : ∃ B, w2.heap.size = B := ⟨_, rfl⟩
  rw [hB] at HBN HB3 HS3
  rw [hB]
  have HWB : Hid (w.heap.size < B) := Lib.hid (hB ▸ Nat.lt_of_lt_of_le HS1.out HB2.out.size)
  have HBW2 := Lib.hid (HB1.out.trans (HB2.out.mono HB1.out.size))
  have HBW3 := Lib.hid (HBW2.out.trans (HB3.out.mono (Nat.le_of_lt HWB.out)))
  have HR3 := Lib.hid (rangeAt_below (rangeAt_below HR1.out HB2.out HS1.out) HB3.out HWB.out)
  have HCT := Lib.hid (HT.out cs w.heap.size 0 B B [] W3 HWB.out (Nat.le_of_lt HS3.out) HR3.out ((HV.out.under HBW3.out).more (Nat.le_of_lt HWB.out)) HBN.out (by simpa using H0.out.2))
  clear hB HR1 HB1 HB2 HRT HT HR3 HBN
  go_wp2_with (first | (go_at_call 29; refine HCT.out.mono ?_; rintro e w4 ⟨rfl, hb4, hbl⟩; have HB4 := Lib.hid hb4; have HL4 := Lib.hid hbl; clear hb4 hbl) | (go_at_call 30; refine (bstring B B txt _ HB4.out H0.out.1).mono ?_; rintro e w5 ⟨rfl, hbl⟩; have HL5 := Lib.hid hbl; clear hbl))
  go_ret2
  exact ⟨rfl, HBW3.out.trans ((HL4.out.trans HL5.out).mono (Nat.le_of_lt HWB.out))⟩
set_option maxHeartbeats 1000000 in
theorem text_no (t : VT) (hr : (decide (cntV t 0 ≤ 200) && rightV t 1) = false) (cs : List Value) (w : World) (hv : ValAt w w.heap.size cs t) :
    Calls Tryz.prog 7 #[.agg ⟨cs⟩] w fun e w' => e = .returned (.tuple #[.string ⟨#[]⟩, .int .i64 5]) ∧ Below w.heap.size w w' := by
  have HB1 := Lib.hid (box_below w (.cells ⟨cs⟩ 26))
  have HR1 := Lib.hid (range_box w cs 26)
  have HL := Lib.hid (val_one hv)
  have HRT := Lib.hid (right_top t cs (w.alloc (.cells ⟨cs⟩ 26)) (hv.next HB1.out))
  rw [hr] at HRT
  clear hv hr
  go_enter Tryz.func7, Tryz.ntmps7
  go_upto_region 1 with (fail)
  generalize w.alloc (.cells ⟨cs⟩ 26) = W at *
  go_wp2_with (first | ((with_reducible refine wl_sload 26 _ rfl ?hwa w.heap.size 0 cs _ rfl HR1.out Tryz.underlying26 rfl ?hia ?_); (case hwa => first | exact wanted_none rfl | exact wanted_if rfl rfl rfl rfl); (case hia => rw [HL.out.1]; kernel_rfl)) | (go_at_call 8; refine HRT.out.mono ?_; rintro e w2 ⟨rfl, hb2⟩; have HB2 := Lib.hid hb2; clear hb2))
  go_ret2
  exact ⟨rfl, HB1.out.trans (HB2.out.mono HB1.out.size)⟩
end Go.Proofs.YtieciegfloldhaaGreatDoor
