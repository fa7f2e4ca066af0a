/- value.Fits of a number and the type of numbers; concrete values as trees. -/
import Derived.Test.YtieciegfloldhaaGreatDoorVTop
namespace Go.Proofs.YtieciegfloldhaaGreatDoor
open Go Go.RowKit
set_option linter.unusedVariables false

def cellsOfV (k n : Int) (f : Nat) (s : ByteArray) (vn vi : Value) : List Value := [.int .i64 k, .int .i64 n, .float .f64 f, .string s, vn, vi]
theorem plain_at (w : World) (B : Nat) (k n : Int) (f : Nat) (s : ByteArray) (hk : wfI k) (hn : wfI n) (hf : (Lit.float .f64 f).wf = true) (hs : s.size ≤ maxLen) :
    ValAt w B (cellsOfV k n f s (.slice none 0 0) (.slice none 0 0)) (.mk k n f s [] []) :=
  ValAt.of hk hn hf hs (SlAt.nil w B 1 _) (Nat.zero_le _) (SlAt.nil w B 6 _)
theorem num_right (n : Int) : (decide (cntV (.mk 2 n 0 ⟨#[]⟩ [] []) 0 ≤ 200) && rightV (.mk 2 n 0 ⟨#[]⟩ [] []) 1) = true := by
  have h0 : cmpF 0 0 = 0 := cmpF_good.refl 0
  have h1 : (⟨#[]⟩ : ByteArray).toList = [] := by rw [toList_eq]
  simp [cntV, cntL, rightV, bareB, h0, h1]
set_option maxHeartbeats 1000000 in
theorem tparts_nil (p o : Nat) (k : Int) (w : World) (h : w.rangeAt p o [.int .i64 k, .slice none 0 0, .slice none 0 0]) : Calls Tryz.prog 40 #[.pointer (some ⟨p, o, none⟩), .int .i64 0] w fun e w' => e = .returned (.int .i64 1) ∧ w' = w := by
  have d2 := h 2 _ rfl
  clear h
  go_enter Tryz.func40, Tryz.ntmps40
  go_wp2
  go_loopg [1, 13] 0 (fun q n x u => q = 0 ∧ n = .int .i64 1 ∧ x = .int .i64 0 ∧ u = w)
  case atStart => exact ⟨rfl, rfl, rfl, rfl⟩
  case round =>
    obtain ⟨rfl, rfl, rfl, rfl⟩ := hrel
    go_wp2
    go_ret
    exact ⟨rfl, rfl⟩
set_option maxHeartbeats 1000000 in
theorem typed_int (p o : Nat) (w : World) (h : w.rangeAt p o [.int .i64 2, .slice none 0 0, .slice none 0 0]) : Calls Tryz.prog 41 #[.pointer (some ⟨p, o, none⟩), .int .i64 1] w fun e w' => e = .returned (.bool true) ∧ w' = w := by
  have d0 : w.cell? ⟨p, o, none⟩ = some (.int .i64 2) := h 0 _ rfl
  have d1 := h 1 _ rfl
  have d2 := h 2 _ rfl
  clear h
  go_enter Tryz.func41, Tryz.ntmps41
  go_wp2
  go_ret
  exact ⟨rfl, rfl⟩
set_option maxHeartbeats 1000000 in
theorem tright_int (w : World) : Calls Tryz.prog 14 #[.agg ⟨[.int .i64 2, .slice none 0 0, .slice none 0 0]⟩] w fun e w' => e = .returned (.bool true) ∧ Below w.heap.size w w' := by
  have HB1 := Lib.hid (box_below w (.cells ⟨[.int .i64 2, .slice none 0 0, .slice none 0 0]⟩ 36))
  have HR1 := Lib.hid (range_box w [.int .i64 2, .slice none 0 0, .slice none 0 0] 36)
  go_enter Tryz.func14, Tryz.ntmps14
  go_wp2_with (first | (go_at_call 40; refine (tparts_nil _ 0 2 _ HR1.out).mono ?_; rintro e w2 ⟨rfl, hzw⟩; obtain rfl := hzw) | (go_at_call 41; refine (typed_int _ 0 _ HR1.out).mono ?_; rintro e w2 ⟨rfl, hzw⟩; obtain rfl := hzw))
  go_ret
  exact ⟨rfl, HB1.out⟩
set_option maxHeartbeats 1000000 in
theorem fits_int (p q : Nat) (n : Int) (w : World) (h : w.cell? ⟨p, 0, none⟩ = some (.int .i64 2)) (h' : w.cell? ⟨q, 0, none⟩ = some (.int .i64 2)) :
    Calls Tryz.prog 43 #[.pointer (some ⟨p, 0, none⟩), .pointer (some ⟨q, 0, none⟩)] w fun e w' => e = .returned (.bool true) ∧ Below w.heap.size w w' := by
  go_enter Tryz.func43, Tryz.ntmps43
  go_wp2
  go_quiet (fail)
  have d0 : (w.drewN nq).cell? ⟨p, 0, none⟩ = some (.int .i64 2) := h
  have HBN := Lib.hid (below_drewN (Below.refl w.heap.size w) nq)
  generalize w.drewN nq = W at *
  go_wp2
  go_ret
  exact ⟨rfl, HBN.out⟩
set_option maxHeartbeats 1000000 in
set_option maxRecDepth 100000 in
theorem fits_num (n : Int) (hn : wfI n) (w : World) : Calls Tryz.prog 16 #[.agg ⟨cellsOfV 2 n 0 ⟨#[]⟩ (.slice none 0 0) (.slice none 0 0)⟩, .agg ⟨[.int .i64 2, .slice none 0 0, .slice none 0 0]⟩] w fun e w' => e = .returned (.bool true) ∧ Below w.heap.size w w' := by
  have HA := Lib.hid (range_box w (cellsOfV 2 n 0 ⟨#[]⟩ (.slice none 0 0) (.slice none 0 0)) 26)
  have HB1 := Lib.hid (box_below w (.cells ⟨cellsOfV 2 n 0 ⟨#[]⟩ (.slice none 0 0) (.slice none 0 0)⟩ 26))
  have HS1 := Lib.hid (box_size w (.cells ⟨cellsOfV 2 n 0 ⟨#[]⟩ (.slice none 0 0) (.slice none 0 0)⟩ 26))
  have HSE : Hid ((w.alloc (.cells ⟨cellsOfV 2 n 0 ⟨#[]⟩ (.slice none 0 0) (.slice none 0 0)⟩ 26)).heap.size = w.heap.size + 1) := Lib.hid (by simp)
  have HV := Lib.hid (fun z : World => plain_at z z.heap.size 2 n 0 ⟨#[]⟩ (by show (Lit.int .i64 2).wf = true; decide +kernel) hn (by decide +kernel) (Nat.zero_le _))
  generalize hcs : cellsOfV 2 n 0 ⟨#[]⟩ (.slice none 0 0) (.slice none 0 0) = cs at *
  have HL : Hid (cs.length = 6) := Lib.hid (by rw [← hcs]; rfl)
  have HC0 : Hid (cs[0]? = some (.int .i64 2)) := Lib.hid (by rw [← hcs]; rfl)
  clear hcs hn
  go_enter Tryz.func16, Tryz.ntmps16
  go_upto_region 1 with (fail)
  generalize w.alloc (.cells ⟨cs⟩ 26) = W1 at *
  have HB := Lib.hid (range_box W1 [.int .i64 2, .slice none 0 0, .slice none 0 0] 36)
  have HB2 := Lib.hid (box_below W1 (.cells ⟨[.int .i64 2, .slice none 0 0, .slice none 0 0]⟩ 36))
  have HS2 := Lib.hid (box_size W1 (.cells ⟨[.int .i64 2, .slice none 0 0, .slice none 0 0]⟩ 36))
  have hz : W1.alloc (.cells ⟨[.int .i64 2, .slice none 0 0, .slice none 0 0]⟩ 36) = W1.alloc (.cells #[.int .i64 2, .slice none 0 0, .slice none 0 0] 36) := rfl
  rw [hz] at HB HB2 HS2
  generalize W1.alloc (.cells #[.int .i64 2, .slice none 0 0, .slice none 0 0] 36) = W at *
  clear hz
  have HAW := Lib.hid (rangeAt_below HA.out HB2.out HS1.out)
  have HBW := Lib.hid (HB1.out.trans (HB2.out.mono HB1.out.size))
  have HLT := Lib.hid (Nat.lt_of_lt_of_le HS1.out HB2.out.size)
  rw [HSE.out] at HB HS2
  obtain ⟨pb, hpb⟩ : ∃ pb, w.heap.size + 1 = pb := ⟨_, rfl⟩
  rw [hpb] at HB HS2
  rw [hpb]
  have HRT := Lib.hid (right_top _ cs W (HV.out W))
  rw [num_right] at HRT
  clear HA HB1 HS1 HSE HB2 hpb HV
  go_wp2_with (first | ((with_reducible refine wl_sload 26 _ rfl ?hwa w.heap.size 0 cs _ rfl HAW.out Tryz.underlying26 rfl ?hia ?_); (case hwa => first | exact wanted_none rfl | exact wanted_if rfl rfl rfl rfl); (case hia => rw [HL.out]; kernel_rfl)) | ((with_reducible refine wl_sload 36 _ rfl ?hwb pb 0 [.int .i64 2, .slice none 0 0, .slice none 0 0] _ rfl HBR2.out Tryz.underlying36 rfl ?hib ?_); (case hwb => first | exact wanted_none rfl | exact wanted_if rfl rfl rfl rfl); (case hib => kernel_rfl)) | (go_at_call 8; refine HRT.out.mono ?_; rintro e w2 ⟨rfl, hb2⟩; have HBR2 := Lib.hid (rangeAt_below HB.out hb2 HS2.out); have HB2 := Lib.hid hb2; clear hb2) | (go_at_call 14; refine (tright_int _).mono ?_; rintro e w3 ⟨rfl, hb3⟩; have HB3 := Lib.hid (HB2.out.trans (hb3.mono HB2.out.size)); clear hb3) | (go_at_call 43; refine (fits_int _ _ 0 _ ((HB3.out.cell (p := ⟨w.heap.size, 0, none⟩) HLT.out).trans (HAW.out 0 _ HC0.out)) ((HB3.out.cell (p := ⟨pb, 0, none⟩) HS2.out).trans (HB.out 0 _ rfl))).mono ?_; rintro e w4 ⟨rfl, hb4⟩; have HB4 := Lib.hid (HB3.out.trans (hb4.mono HB3.out.size)); clear hb4))
  go_ret
  exact ⟨rfl, HBW.out.trans (HB4.out.mono HBW.out.size)⟩
end Go.Proofs.YtieciegfloldhaaGreatDoor
