/- The value that is nothing, and the expression: the same as themselves. -/
import Derived.Test.YtedajbpjokmlaaaOut
import Derived.Test.YtedajbpjokmlaaaLib2
namespace Go.Proofs.Ytedajbpjokmlaaa
open Go Go.RowKit
set_option linter.unusedVariables false

def zeroV : List Value := [.int .i64 0, .int .i64 0, .float .f64 0, .string ⟨#[]⟩, .slice none 0 0, .slice none 0 0]
theorem cmp64_zero (w : World) : Calls Try.prog 117 #[.int .i64 0, .int .i64 0] w fun e w' => e = .returned (.int .i64 0) ∧ w' = w := by
  go_enter Try.func117, Try.ntmps117
  go_wp2_with (go_in)
  go_ret
  exact ⟨rfl, rfl⟩
theorem cmpi_zero (w : World) : Calls Try.prog 113 #[.int .i64 0, .int .i64 0] w fun e w' => e = .returned (.int .i64 0) ∧ w' = w := by
  go_enter Try.func113, Try.ntmps113
  go_wp2_with (go_in)
  go_ret
  exact ⟨rfl, rfl⟩
theorem strcmp_zero (w : World) : Calls Try.prog 119 #[.string ⟨#[]⟩, .string ⟨#[]⟩] w fun e w' => e = .returned (.int .i64 0) ∧ w' = w := Try.strings_Compare ⟨#[]⟩ ⟨#[]⟩ w
theorem slcmp_nil (w : World) : Calls Try.prog 120 #[.slice none 0 0, .slice none 0 0] w fun e w' => e = .returned (.int .i64 0) ∧ w' = w := by
  go_enter Try.func120, Try.ntmps120
  go_wp2
  go_loopg [11] 0 (fun q x u => q = 0 ∧ x = .int .i64 0 ∧ u = w)
  case atStart => exact ⟨rfl, rfl, rfl⟩
  case round =>
    obtain ⟨rfl, rfl, rfl⟩ := hrel
    go_wp2
    go_ret
    exact ⟨rfl, rfl⟩
theorem cmpf_nil (w : World) : Calls Try.prog 116 #[.slice none 0 0, .slice none 0 0, .func (.func 110) #[] #[]] w fun e w' => e = .returned (.int .i64 0) ∧ w' = w := by
  go_enter Try.func116, Try.ntmps116
  go_wp2
  go_loopg [13] 0 (fun q x u => q = 0 ∧ x = .int .i64 0 ∧ u = w)
  case atStart => exact ⟨rfl, rfl, rfl⟩
  case round =>
    obtain ⟨rfl, rfl, rfl⟩ := hrel
    go_wp2
    go_ret
    exact ⟨rfl, rfl⟩
theorem or_zero (b : Nat) (w : World) (h : ∀ i, i < 3 → w.cell? ⟨b, i, none⟩ = some (.int .i64 0)) : Calls Try.prog 121 #[.slice (some ⟨b, 0, none⟩) 3 3] w fun e w' => e = .returned (.int .i64 0) ∧ w' = w := by
  have H := Lib.hid h
  clear h
  go_enter Try.func121, Try.ntmps121
  go_wp2
  go_loopg [8] 3 (fun q x u => ∃ k : Nat, k + q = 3 ∧ x = .int .i64 k ∧ u = w)
  case atStart => exact ⟨0, rfl, rfl, rfl⟩
  case round =>
    obtain ⟨k, hk, rfl, rfl⟩ := hrel
    cases gk with
    | zero =>
      have hge : ¬ ((k : Int) < 3) := by omega
      go_wp2
      go_ret
      exact ⟨rfl, rfl⟩
    | succ q =>
      have hlt : (k : Int) < 3 := by omega
      have dk := H.out k (by omega)
      go_wp2_with (go_in)
      go_roundg q
      case measure => omega
      case rel => exact ⟨k + 1, by omega, by go_num, rfl⟩
end Go.Proofs.Ytedajbpjokmlaaa
