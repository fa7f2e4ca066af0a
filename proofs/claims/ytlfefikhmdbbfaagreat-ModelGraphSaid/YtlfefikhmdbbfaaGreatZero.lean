/- The value that is nothing, and the expression: the same as themselves. -/
import Derived.Test.YtlfefikhmdbbfaaGreatOut
import Derived.Test.YtlfefikhmdbbfaaGreatLib2
namespace Go.Proofs.YtlfefikhmdbbfaaGreat
open Go Go.RowKit
set_option linter.unusedVariables false

def zeroV : List Value := [.int .i64 0, .int .i64 0, .float .f64 0, .string ⟨#[]⟩, .slice none 0 0, .slice none 0 0]
theorem cmp64_zero (w : World) : Calls Tryz.prog 97 #[.int .i64 0, .int .i64 0] w fun e w' => e = .returned (.int .i64 0) ∧ w' = w := by
  go_enter Tryz.func97, Tryz.ntmps97
  go_wp2_with (go_in)
  go_ret
  exact ⟨rfl, rfl⟩
theorem cmpi_zero (w : World) : Calls Tryz.prog 80 #[.int .i64 0, .int .i64 0] w fun e w' => e = .returned (.int .i64 0) ∧ w' = w := by
  go_enter Tryz.func80, Tryz.ntmps80
  go_wp2_with (go_in)
  go_ret
  exact ⟨rfl, rfl⟩
theorem strcmp_zero (w : World) : Calls Tryz.prog 99 #[.string ⟨#[]⟩, .string ⟨#[]⟩] w fun e w' => e = .returned (.int .i64 0) ∧ w' = w := Tryz.strings_Compare ⟨#[]⟩ ⟨#[]⟩ w
theorem slcmp_nil (w : World) : Calls Tryz.prog 100 #[.slice none 0 0, .slice none 0 0] w fun e w' => e = .returned (.int .i64 0) ∧ w' = w := by
  go_enter Tryz.func100, Tryz.ntmps100
  go_wp2
  go_loopg [11] 0 (fun q x u => q = 0 ∧ x = .int .i64 0 ∧ u = w)
  case atStart => exact ⟨rfl, rfl, rfl⟩
  case round =>
    obtain ⟨rfl, rfl, rfl⟩ := hrel
    go_wp2
    go_ret
    exact ⟨rfl, rfl⟩
theorem cmpf_nil (w : World) : Calls Tryz.prog 83 #[.slice none 0 0, .slice none 0 0, .func (.func 71) #[] #[]] w fun e w' => e = .returned (.int .i64 0) ∧ w' = w := by
  go_enter Tryz.func83, Tryz.ntmps83
  go_wp2
  go_loopg [13] 0 (fun q x u => q = 0 ∧ x = .int .i64 0 ∧ u = w)
  case atStart => exact ⟨rfl, rfl, rfl⟩
  case round =>
    obtain ⟨rfl, rfl, rfl⟩ := hrel
    go_wp2
    go_ret
    exact ⟨rfl, rfl⟩
theorem or_zero (b : Nat) (w : World) (h : ∀ i, i < 3 → w.cell? ⟨b, i, none⟩ = some (.int .i64 0)) : Calls Tryz.prog 101 #[.slice (some ⟨b, 0, none⟩) 3 3] w fun e w' => e = .returned (.int .i64 0) ∧ w' = w := by
  have H := Lib.hid h
  clear h
  go_enter Tryz.func101, Tryz.ntmps101
  go_wp2
  go_loopg [8] 3 (fun q x u => ∃ k : Nat, k + q = 3 ∧ x = .int .i64 k ∧ u = w)
  case atStart => exact ⟨0, rfl, rfl, rfl⟩
  case round =>
    obtain ⟨k, hk, rfl, rfl⟩ := hrel
    cases gk with
    | zero =>
      have hge : ¬ ((k : Int) < 3) := by omega
      go_wp2
      go_ret
      exact ⟨rfl, rfl⟩
    | succ q =>
      have hlt : (k : Int) < 3 := by omega
      have dk := H.out k (by omega)
      go_wp2_with (go_in)
      go_roundg q
      case measure => omega
      case rel => exact ⟨k + 1, by omega, by go_num, rfl⟩
end Go.Proofs.YtlfefikhmdbbfaaGreat
