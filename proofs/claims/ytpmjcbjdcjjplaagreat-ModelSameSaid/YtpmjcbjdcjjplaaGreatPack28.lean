/- Parts of a proof: Text2. -/
import Derived.Laws.IdiomStrings
import Derived.Lib.ItoaLen
import Derived.Lib.ItoaMem
import Derived.Test.YtpmjcbjdcjjplaaGreatPack13
import Derived.Test.YtpmjcbjdcjjplaaGreatPack14
import Derived.Test.YtpmjcbjdcjjplaaGreatPack20
import Derived.Test.YtpmjcbjdcjjplaaGreatPack22
import Derived.Test.YtpmjcbjdcjjplaaGreatPack25
namespace Go.Proofs.YtpmjcbjdcjjplaaGreat
open Go Go.RowKit
set_option linter.unusedVariables false
set_option linter.unusedSimpArgs false
def TabB (B : Nat) (w : World) : Prop := ∃ w0 : World, w0.heap.size ≤ B ∧ TabP w0 ∧ Below w0.heap.size w0 w
theorem TabB.here {B : Nat} {w : World} (h : TabB B w) : TabP w := let ⟨_, _, h1, h2⟩ := h; h1.next h2
theorem TabB.next {B : Nat} {w w' : World} (h : TabB B w) (hb : Below B w w') : TabB B w' := let ⟨w0, h0, h1, h2⟩ := h; ⟨w0, h0, h1, h2.trans (hb.mono h0)⟩
theorem TabP.low {w : World} (h : TabP w) : TabB w.heap.size w := ⟨w, Nat.le_refl _, h, Below.refl _ _⟩
end Go.Proofs.YtpmjcbjdcjjplaaGreat
