/- Parts of a proof: FText, RDig, EConst. -/
import Derived.Lib.ItoaMem
import Derived.Laws.BytesString
import Derived.Laws.BitsAllLaws
import Derived.Laws.Bits64b
import Derived.Lib.ItoaLen
import Derived.Test.YtpmjcbjdcjjplaaGreatPack9
import Derived.Test.YtpmjcbjdcjjplaaGreatPack10
import Derived.Test.YtpmjcbjdcjjplaaGreatPack11
import Derived.Test.YtpmjcbjdcjjplaaGreatPack12
import Derived.Test.YtpmjcbjdcjjplaaGreatPack13
import Derived.Test.YtpmjcbjdcjjplaaGreatPack14
import Derived.Test.YtpmjcbjdcjjplaaGreatPack17
import Derived.Test.YtpmjcbjdcjjplaaGreatPack20
import Derived.Test.YtpmjcbjdcjjplaaGreatPack21
section
namespace Go.Proofs.YtpmjcbjdcjjplaaGreat
open Go Go.RowKit Go.Sort Go.Lib
set_option linter.unusedVariables false
set_option linter.unusedSimpArgs false
def TabP (w : World) : Prop := Lib.TabIs Tryz.prog w "internal/strconv.uint64pow10" .u64 Lib.pow10Tab
theorem TabP.next {w w' : World} (h : TabP w) (hb : Below w.heap.size w w') : TabP w' := by
  unfold TabP Lib.TabIs World.var? at *
  cases hg : Tryz.prog.globalNamed "internal/strconv.uint64pow10" with
  | none => simp [hg] at h
  | some g =>
    simp only [hg, Option.bind_some] at h ⊢
    have hlt : g < w.heap.size := by
      rcases Nat.lt_or_ge g w.heap.size with h' | h'
      · exact h'
      · rw [Array.getElem?_eq_none h'] at h; simp at h
    rw [hb.block g hlt]
    exact h
end Go.Proofs.YtpmjcbjdcjjplaaGreat
end
section
namespace Go.Proofs.YtpmjcbjdcjjplaaGreat
open Go Go.RowKit
set_option linter.unusedVariables false
set_option linter.unusedSimpArgs false
def DigAt (R : List UInt8) (q : Nat) (T : List UInt8) : Prop := Lib.decDigits q ++ T = R
theorem DigAt.next {R : List UInt8} {q : Nat} {T : List UInt8} (h : DigAt R q T) (hq : ¬ q < 10) : DigAt R (q / 10) (UInt8.ofNat (48 + q % 10) :: T) := by
  unfold DigAt at *
  rw [dec_more hq] at h
  rw [← h]; simp
theorem DigAt.len {R : List UInt8} {q : Nat} {T : List UInt8} (h : DigAt R q T) : T.length ≤ R.length := by
  unfold DigAt at h
  rw [← h, List.length_append]; omega
end Go.Proofs.YtpmjcbjdcjjplaaGreat
end
section
namespace Go.Proofs.YtpmjcbjdcjjplaaGreat
open Go Go.RowKit
set_option linter.unusedVariables false
set_option linter.unusedSimpArgs false
def rightW (t : VT) : Bool := decide (cntV t 0 ≤ 200) && rightV t 1
end Go.Proofs.YtpmjcbjdcjjplaaGreat
end
