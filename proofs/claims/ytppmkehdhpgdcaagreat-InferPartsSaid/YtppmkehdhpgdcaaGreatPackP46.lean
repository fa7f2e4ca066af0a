/- Parts of a proof: INil. -/
import Derived.Test.YtppmkehdhpgdcaaGreatPackP39
namespace Go.Proofs.YtppmkehdhpgdcaaGreat
open Go Go.RowKit
set_option linter.unusedVariables false
set_option linter.unusedSimpArgs false
set_option maxHeartbeats 1000000 in
set_option maxRecDepth 100000 in
theorem ilabel_bad (b : Nat) (t : ET) (cs : List Value) (v : Value) (w : World) (hv : ExpAt w w.heap.size cs t) (hr : rightET t = false) :
    Calls Tryz.prog 11 #[.pointer (some ⟨b, 0, none⟩), .agg ⟨cs⟩, v] w fun e w' => e = .returned (.tuple #[.int .i64 0, .int .i64 2]) ∧ Below w.heap.size w w' := by
  have HCL := Lib.hid (eslen hv)
  have HB := Lib.hid (box_below w (.cells ⟨cs⟩ 30))
  have HR := Lib.hid (range_box w cs 30)
  have HV := Lib.hid ((hv.under HB.out).more HB.out.size)
  have HRT := Lib.hid hr
  clear hv hr
  go_enter Tryz.func11, Tryz.ntmps11
  go_upto_region 1 with (fail)
  generalize w.alloc (.cells ⟨cs⟩ 30) = W at *
  have HC := Lib.hid (prightE t cs W HV.out)
  rw [HRT.out] at HC
  go_wp2_with (first | ((with_reducible refine wl_sload 30 _ rfl ?hwa w.heap.size 0 cs _ rfl HR.out Tryz.underlying30 rfl ?hia ?_); (case hwa => (first | exact wanted_none rfl | exact wanted_if rfl rfl rfl rfl)); (case hia => rw [HCL.out]; kernel_rfl)) | (go_at_call 29; refine HC.out.mono ?_; rintro e z ⟨rfl, hb⟩; have HB2 := Lib.hid hb; clear hb))
  go_ret2
  exact ⟨rfl, HB.out.trans (HB2.out.mono HB.out.size)⟩
end Go.Proofs.YtppmkehdhpgdcaaGreat
