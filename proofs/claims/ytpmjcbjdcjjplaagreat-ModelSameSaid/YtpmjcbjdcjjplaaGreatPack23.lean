/- Parts of a proof: EvalP. -/
import Derived.Laws.FloatArith
import Derived.Laws.Cover2
import Derived.Lib.SlicesS
import Derived.Lib.ItoaLen
import Derived.Lib.ItoaMem
import Derived.Test.YtpmjcbjdcjjplaaGreatPack4
import Derived.Test.YtpmjcbjdcjjplaaGreatPack9
import Derived.Test.YtpmjcbjdcjjplaaGreatPack12
import Derived.Test.YtpmjcbjdcjjplaaGreatPack13
import Derived.Test.YtpmjcbjdcjjplaaGreatPack14
import Derived.Test.YtpmjcbjdcjjplaaGreatPack15
import Derived.Test.YtpmjcbjdcjjplaaGreatPack17
import Derived.Test.YtpmjcbjdcjjplaaGreatPack20
import Derived.Test.YtpmjcbjdcjjplaaGreatPack22
namespace Go.Proofs.YtpmjcbjdcjjplaaGreat
open Go Go.RowKit
set_option linter.unusedVariables false
set_option linter.unusedSimpArgs false
def v0 : VT := .mk 0 0 0 ⟨#[]⟩ [] []
end Go.Proofs.YtpmjcbjdcjjplaaGreat
