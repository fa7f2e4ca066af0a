/- value.row of any two values. -/
import Derived.Test.YtieciegfloldhaaGreatDoorVRow
namespace Go.Proofs.YtieciegfloldhaaGreatDoor
open Go Go.RowKit
set_option linter.unusedVariables false

def rowV (k n n' : Int) (f f' : Nat) (s s' : ByteArray) (ns ns' : List ByteArray) : Int :=
  if k = 1 ∨ k = 2 then cmpI n n' else if k = 3 then cmpF f f' else if k = 4 then cmpS s s' else if k = 5 then 0 else if k = 6 then listC cmpS ns ns'
  else or3 (cmpI n n') (cmpS s s') (listC cmpS ns ns')
set_option maxHeartbeats 4000000 in
set_option maxRecDepth 100000 in
theorem row_any (k k' n n' : Int) (f f' : Nat) (s s' : ByteArray) (ns ns' : List ByteArray) (vn vn' vi vi' : Value) (pa pb : Nat) (w : World)
    (ha : w.rangeAt pa 0 [.int .i64 k, .int .i64 n, .float .f64 f, .string s, vn, vi]) (hb : w.rangeAt pb 0 [.int .i64 k', .int .i64 n', .float .f64 f', .string s', vn', vi']) (hl : pa < w.heap.size ∧ pb < w.heap.size)
    (hf : f < 2 ^ 64) (hf' : f' < 2 ^ 64) (hn : SlAt w w.heap.size 1 StrR vn ns) (hn' : SlAt w w.heap.size 1 StrR vn' ns') :
    Calls Tryz.prog 48 #[.pointer (some ⟨pa, 0, none⟩), .pointer (some ⟨pb, 0, none⟩)] w fun e w' => e = .returned (.int .i64 (rowV k n n' f f' s s' ns ns')) ∧ Below w.heap.size w w' := by
  have HL := Lib.hid hl
  have HA := Lib.hid ha
  have HB := Lib.hid hb
  have HN := Lib.hid hn
  have HN' := Lib.hid hn'
  have HF := Lib.hid (And.intro hf hf')
  have d0 : w.cell? ⟨pa, 0, none⟩ = some (.int .i64 k) := by have := ha 0 _ rfl; simpa using this
  have d1 : w.cell? ⟨pa, 1, none⟩ = some (.int .i64 n) := by have := ha 1 _ rfl; simpa using this
  have e1 : w.cell? ⟨pb, 1, none⟩ = some (.int .i64 n') := by have := hb 1 _ rfl; simpa using this
  have d2 : w.cell? ⟨pa, 2, none⟩ = some (.float .f64 f) := by have := ha 2 _ rfl; simpa using this
  have e2 : w.cell? ⟨pb, 2, none⟩ = some (.float .f64 f') := by have := hb 2 _ rfl; simpa using this
  have d3 : w.cell? ⟨pa, 3, none⟩ = some (.string s) := by have := ha 3 _ rfl; simpa using this
  have e3 : w.cell? ⟨pb, 3, none⟩ = some (.string s') := by have := hb 3 _ rfl; simpa using this
  have d4 : w.cell? ⟨pa, 4, none⟩ = some vn := by have := ha 4 _ rfl; simpa using this
  have e4 : w.cell? ⟨pb, 4, none⟩ = some vn' := by have := hb 4 _ rfl; simpa using this
  clear ha hb hl hf hf' hn hn'
  by_cases k1 : k = 1
  · subst k1
    have HV : Hid (rowV 1 n n' f f' s s' ns ns' = cmpI n n') := Lib.hid rfl
    clear d2 e2 d3 e3 d4 e4
    go_enter Tryz.func48, Tryz.ntmps48
    go_wp2
    go_quiet ((go_at_call 69; exact Calls.quiet_of_same (cmp64 n n' _)))
    go_wp2
    go_ret
    exact ⟨ret_int HV.out.symm, below_drewN (Below.refl _ w) _⟩
  by_cases k2 : k = 2
  · subst k2
    have HV : Hid (rowV 2 n n' f f' s s' ns ns' = cmpI n n') := Lib.hid rfl
    clear d2 e2 d3 e3 d4 e4
    go_enter Tryz.func48, Tryz.ntmps48
    go_wp2
    go_quiet ((go_at_call 69; exact Calls.quiet_of_same (cmp64 n n' _)))
    go_wp2
    go_ret
    exact ⟨ret_int HV.out.symm, below_drewN (Below.refl _ w) _⟩
  by_cases k3 : k = 3
  · subst k3
    have HV : Hid (rowV 3 n n' f f' s s' ns ns' = cmpF f f') := Lib.hid rfl
    clear d1 e1 d3 e3 d4 e4
    go_enter Tryz.func48, Tryz.ntmps48
    go_wp2
    go_quiet ((go_at_call 70; exact Calls.quiet_of_same (forder_any f f' HF.out.1 HF.out.2 _)))
    go_wp2
    go_ret
    exact ⟨ret_int HV.out.symm, below_drewN (Below.refl _ w) _⟩
  by_cases k4 : k = 4
  · subst k4
    have HV : Hid (rowV 4 n n' f f' s s' ns ns' = cmpS s s') := Lib.hid rfl
    clear d1 e1 d2 e2 d4 e4
    go_enter Tryz.func48, Tryz.ntmps48
    go_wp2
    go_quiet ((go_at_call 71; exact Calls.quiet_of_same (strcmp s s' _)))
    go_wp2
    go_ret
    exact ⟨ret_int HV.out.symm, below_drewN (Below.refl _ w) _⟩
  by_cases k6 : k = 6
  · subst k6
    have HV : Hid (rowV 6 n n' f f' s s' ns ns' = listC cmpS ns ns') := Lib.hid rfl
    clear d1 e1 d2 e2 d3 e3
    go_enter Tryz.func48, Tryz.ntmps48
    go_wp2
    go_quiet ((go_at_call 72; exact Calls.quiet_of_same (slcmp_any vn vn' ns ns' w.heap.size _ (HN.out.below (below_drewN (Below.refl _ w) _) fun _ _ _ h => h) (HN'.out.below (below_drewN (Below.refl _ w) _) fun _ _ _ h => h))))
    go_wp2
    go_ret
    exact ⟨ret_int HV.out.symm, below_drewN (Below.refl _ w) _⟩
  by_cases k5 : k = 5
  · subst k5
    have HV : Hid (rowV 5 n n' f f' s s' ns ns' = 0) := Lib.hid rfl
    clear d1 e1 d2 e2 d3 e3 d4 e4
    go_enter Tryz.func48, Tryz.ntmps48
    go_wp2
    go_ret
    exact ⟨ret_int HV.out.symm, Below.refl _ w⟩
  have HV : Hid (rowV k n n' f f' s s' ns ns' = or3 (cmpI n n') (cmpS s s') (listC cmpS ns ns')) := Lib.hid (by unfold rowV; rw [if_neg (by omega), if_neg k3, if_neg k4, if_neg k5, if_neg k6])
  have t1 : (k == 1) = false := by simpa using k1
  have t2 : (k == 2) = false := by simpa using k2
  have t3 : (k == 3) = false := by simpa using k3
  have t4 : (k == 4) = false := by simpa using k4
  have t5 : (k == 5) = false := by simpa using k5
  have t6 : (k == 6) = false := by simpa using k6
  clear d1 e1 d2 e2 d3 e3 d4 e4 k1 k2 k3 k4 k5 k6
  go_enter Tryz.func48, Tryz.ntmps48
  go_upto_region 13 with (fail)
  clear d0 t1 t2 t3 t4 t5 t6
  refine wp_region_ord [(0, true), (1, true), (2, true), (3, true), (4, true), (5, true), (6, true), (7, true), (9, true), (10, true), (11, true), (12, true), (13, true), (14, true), (15, true), (16, true), (18, true), (19, true), (20, true), (21, true), (22, true), (23, true), (24, true), (25, true), (8, false), (17, false), (26, false), (27, false), (28, false), (29, true)]
    (fun z => Below w.heap.size w z) (by kernel_rfl) (by kernel_rfl) (by kernel_rfl) rfl (by intro c a d v w h; cases d <;> exact h) ?_
  have hs : Below w.heap.size w w.drew := (Below.refl _ w).drew
  have HCA : Hid (∀ z, Below w.heap.size w z → ∀ (i : Nat) v, ([.int .i64 k, .int .i64 n, .float .f64 f, .string s, vn, vi] : List Value)[i]? = some v → z.cell? ⟨pa, i, none⟩ = some v) := Lib.hid fun z hz i v hv => by have := HA.out i v hv; rw [Nat.zero_add] at this; exact (hz.cell (p := ⟨pa, i, none⟩) HL.out.1).trans this
  have HCB : Hid (∀ z, Below w.heap.size w z → ∀ (i : Nat) v, ([.int .i64 k', .int .i64 n', .float .f64 f', .string s', vn', vi'] : List Value)[i]? = some v → z.cell? ⟨pb, i, none⟩ = some v) := Lib.hid fun z hz i v hv => by have := HB.out i v hv; rw [Nat.zero_add] at this; exact (hz.cell (p := ⟨pb, i, none⟩) HL.out.2).trans this
  refine ord_move (some 57) (.pointer (some ⟨pa, 0, none⟩)) _ _ rfl rfl rfl (by first | exact wanted_none rfl | exact wanted_if rfl rfl rfl rfl) hs rfl ?_
  go_frame
  refine ord_load (some 58) (.pointer (some ⟨pa, 0, none⟩)) _ rfl rfl (by first | exact wanted_none rfl | exact wanted_if rfl rfl rfl rfl) hs (fun z hz => by go_simp) ?_
  go_frame
  refine ord_load (some 59) (.pointer (some ⟨pa, 1, none⟩)) _ rfl rfl (by first | exact wanted_none rfl | exact wanted_if rfl rfl rfl rfl) hs (fun z hz => by go_simp) ?_
  go_frame
  refine ord_load (some 60) (.int .i64 n) _ rfl rfl (by first | exact wanted_none rfl | exact wanted_if rfl rfl rfl rfl) hs (fun z hz => by have dd := HCA.out z hz 1 (.int .i64 n) rfl; go_simp) ?_
  go_frame
  refine ord_move (some 61) (.pointer (some ⟨pb, 0, none⟩)) _ _ rfl rfl rfl (by first | exact wanted_none rfl | exact wanted_if rfl rfl rfl rfl) hs rfl ?_
  go_frame
  refine ord_load (some 62) (.pointer (some ⟨pb, 0, none⟩)) _ rfl rfl (by first | exact wanted_none rfl | exact wanted_if rfl rfl rfl rfl) hs (fun z hz => by go_simp) ?_
  go_frame
  refine ord_load (some 63) (.pointer (some ⟨pb, 1, none⟩)) _ rfl rfl (by first | exact wanted_none rfl | exact wanted_if rfl rfl rfl rfl) hs (fun z hz => by go_simp) ?_
  go_frame
  refine ord_load (some 64) (.int .i64 n') _ rfl rfl (by first | exact wanted_none rfl | exact wanted_if rfl rfl rfl rfl) hs (fun z hz => by have dd := HCB.out z hz 1 (.int .i64 n') rfl; go_simp) ?_
  go_frame
  refine ord_move (some 66) (.pointer (some ⟨pa, 0, none⟩)) _ _ rfl rfl rfl (by first | exact wanted_none rfl | exact wanted_if rfl rfl rfl rfl) hs rfl ?_
  go_frame
  refine ord_load (some 67) (.pointer (some ⟨pa, 0, none⟩)) _ rfl rfl (by first | exact wanted_none rfl | exact wanted_if rfl rfl rfl rfl) hs (fun z hz => by go_simp) ?_
  go_frame
  refine ord_load (some 68) (.pointer (some ⟨pa, 3, none⟩)) _ rfl rfl (by first | exact wanted_none rfl | exact wanted_if rfl rfl rfl rfl) hs (fun z hz => by go_simp) ?_
  go_frame
  refine ord_load (some 69) (.string s) _ rfl rfl (by first | exact wanted_none rfl | exact wanted_if rfl rfl rfl rfl) hs (fun z hz => by have dd := HCA.out z hz 3 (.string s) rfl; go_simp) ?_
  go_frame
  refine ord_move (some 70) (.pointer (some ⟨pb, 0, none⟩)) _ _ rfl rfl rfl (by first | exact wanted_none rfl | exact wanted_if rfl rfl rfl rfl) hs rfl ?_
  go_frame
  refine ord_load (some 71) (.pointer (some ⟨pb, 0, none⟩)) _ rfl rfl (by first | exact wanted_none rfl | exact wanted_if rfl rfl rfl rfl) hs (fun z hz => by go_simp) ?_
  go_frame
  refine ord_load (some 72) (.pointer (some ⟨pb, 3, none⟩)) _ rfl rfl (by first | exact wanted_none rfl | exact wanted_if rfl rfl rfl rfl) hs (fun z hz => by go_simp) ?_
  go_frame
  refine ord_load (some 73) (.string s') _ rfl rfl (by first | exact wanted_none rfl | exact wanted_if rfl rfl rfl rfl) hs (fun z hz => by have dd := HCB.out z hz 3 (.string s') rfl; go_simp) ?_
  go_frame
  refine ord_move (some 75) (.pointer (some ⟨pa, 0, none⟩)) _ _ rfl rfl rfl (by first | exact wanted_none rfl | exact wanted_if rfl rfl rfl rfl) hs rfl ?_
  go_frame
  refine ord_load (some 76) (.pointer (some ⟨pa, 0, none⟩)) _ rfl rfl (by first | exact wanted_none rfl | exact wanted_if rfl rfl rfl rfl) hs (fun z hz => by go_simp) ?_
  go_frame
  refine ord_load (some 77) (.pointer (some ⟨pa, 4, none⟩)) _ rfl rfl (by first | exact wanted_none rfl | exact wanted_if rfl rfl rfl rfl) hs (fun z hz => by go_simp) ?_
  go_frame
  refine ord_load (some 78) vn _ rfl rfl (by first | exact wanted_none rfl | exact wanted_if rfl rfl rfl rfl) hs (fun z hz => by have dd := HCA.out z hz 4 vn rfl; go_simp) ?_
  go_frame
  refine ord_move (some 79) (.pointer (some ⟨pb, 0, none⟩)) _ _ rfl rfl rfl (by first | exact wanted_none rfl | exact wanted_if rfl rfl rfl rfl) hs rfl ?_
  go_frame
  refine ord_load (some 80) (.pointer (some ⟨pb, 0, none⟩)) _ rfl rfl (by first | exact wanted_none rfl | exact wanted_if rfl rfl rfl rfl) hs (fun z hz => by go_simp) ?_
  go_frame
  refine ord_load (some 81) (.pointer (some ⟨pb, 4, none⟩)) _ rfl rfl (by first | exact wanted_none rfl | exact wanted_if rfl rfl rfl rfl) hs (fun z hz => by go_simp) ?_
  go_frame
  refine ord_load (some 82) vn' _ rfl rfl (by first | exact wanted_none rfl | exact wanted_if rfl rfl rfl rfl) hs (fun z hz => by have dd := HCB.out z hz 4 vn' rfl; go_simp) ?_
  go_frame
  refine ord_to (some 65) 69 Tryz.func69 (by kernel_rfl) (by kernel_rfl) [.int .i64 n, .int .i64 n'] _ _ _ rfl rfl rfl (by first | exact wanted_none rfl | exact wanted_if rfl rfl rfl rfl) rfl ?_
  refine (cmp64 n n' _).mono ?_
  rintro e z1 ⟨rfl, rfl⟩
  refine ⟨.int .i64 (cmpI n n'), rfl, hs, ?_⟩
  go_frame
  refine ord_to (some 74) 71 Tryz.func71 (by kernel_rfl) (by kernel_rfl) [.string s, .string s'] _ _ _ rfl rfl rfl (by first | exact wanted_none rfl | exact wanted_if rfl rfl rfl rfl) rfl ?_
  refine (strcmp s s' _).mono ?_
  rintro e z1 ⟨rfl, rfl⟩
  refine ⟨.int .i64 (cmpS s s'), rfl, hs, ?_⟩
  go_frame
  refine ord_to (some 83) 72 Tryz.func72 (by kernel_rfl) (by kernel_rfl) [vn, vn'] _ _ _ rfl rfl rfl (by first | exact wanted_none rfl | exact wanted_if rfl rfl rfl rfl) rfl ?_
  refine (slcmp_any vn vn' ns ns' w.heap.size _ (HN.out.below hs fun _ _ _ h => h) (HN'.out.below hs fun _ _ _ h => h)).mono ?_
  rintro e z1 ⟨rfl, rfl⟩
  refine ⟨.int .i64 (listC cmpS ns ns'), rfl, hs, ?_⟩
  go_frame
  generalize cmpI n n' = r1 at *
  generalize cmpS s s' = r2 at *
  generalize listC cmpS ns ns' = r3 at *
  have hs2 : Below w.heap.size w (w.drew.alloc (.cells #[.int .i64 r1, .int .i64 r2, .int .i64 r3] 3)) := hs.alloc hs.size _
  have hce := cells_box w.drew [.int .i64 r1, .int .i64 r2, .int .i64 r3] 3
  refine ord_run (some 84) (.slice (some ⟨w.drew.heap.size, 0, none⟩) 3 3) (w.drew.alloc (.cells #[.int .i64 r1, .int .i64 r2, .int .i64 r3] 3)) _ rfl rfl (by first | exact wanted_none rfl | exact wanted_if rfl rfl rfl rfl) (by go_simp) hs2 ?_
  go_frame
  refine ord_to (some 85) 73 Tryz.func73 (by kernel_rfl) (by kernel_rfl) [.slice (some ⟨w.drew.heap.size, 0, none⟩) 3 3] _ _ _ rfl rfl rfl (by first | exact wanted_none rfl | exact wanted_if rfl rfl rfl rfl) rfl ?_
  refine (or_any _ r1 r2 r3 _ (hce 0 _ rfl) (hce 1 _ rfl) (hce 2 _ rfl)).mono ?_
  rintro e z1 ⟨rfl, rfl⟩
  refine ⟨.int .i64 (or3 r1 r2 r3), rfl, hs2, ?_⟩
  go_frame
  refine ord_assign (some 4) (.int .i64 (or3 r1 r2 r3)) _ _ rfl rfl rfl (by first | exact wanted_none rfl | exact wanted_if rfl rfl rfl rfl) hs2 rfl ?_
  go_frame
  refine ord_end ?_
  have HBF := Lib.hid hs2
  clear hs hs2 hce
  go_wp2
  go_ret
  exact ⟨ret_int HV.out.symm, HBF.out⟩
end Go.Proofs.YtieciegfloldhaaGreatDoor
