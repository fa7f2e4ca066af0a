/- Parts of a proof: TextV. -/
import Derived.Lib.ItoaLen
import Derived.Lib.ItoaMem
import Derived.Test.YtppmkehdhpgdcaaGreatPackP25
import Derived.Test.YtppmkehdhpgdcaaGreatPackP27
import Derived.Test.YtppmkehdhpgdcaaGreatPackP34
namespace Go.Proofs.YtppmkehdhpgdcaaGreat
open Go
set_option linter.unusedVariables false
theorem itoa_le {n : Int} (h0 : -9223372036854775808 ≤ n) (h1 : n ≤ 9223372036854775807) : (Lib.itoa n).length ≤ 21 := Lib.itoa_length_le n h0 h1
theorem dec_len {n : Nat} (h : n < 9223372036854775808) : (Lib.decDigits n).length ≤ 21 := by
  have := itoa_le (n := (n : Int)) (by omega) (by omega)
  rw [Lib.itoa_nonneg] at this; exact this
end Go.Proofs.YtppmkehdhpgdcaaGreat
