/- Parts of a proof: FitV. -/
import Derived.Test.YtpmjcbjdcjjplaaGreatDoorPackS5
import Derived.Test.YtpmjcbjdcjjplaaGreatDoorPackS11
set_option maxHeartbeats 8000000
set_option maxRecDepth 100000
set_option linter.unusedVariables false
set_option linter.unusedSimpArgs false
namespace Go.Proofs.YtpmjcbjdcjjplaaGreatDoor
open Go.ChangeShapes Go.WideShapes Go.ChangeAt Go.RowKit Go.Deep
inductive Fit:VT->Prop
 |mk {k n:Int} {f:Nat} {s:ByteArray} {ns:List ByteArray} {its:List VT} (h1:ns.length*16<=reachBytes) (h2:its.length*88<=reachBytes) (h3:∀ x∈its,Fit x):Fit (.mk k n f s ns its)
theorem Fit.inv {k n:Int} {f:Nat} {s:ByteArray} {ns:List ByteArray} {its:List VT} (h:Fit (.mk k n f s ns its)):ns.length*16<=reachBytes/\its.length*88<=reachBytes/\∀ x∈its,Fit x:=by
 cases h with
 |mk h1 h2 h3=>exact⟨h1,h2,h3⟩
section
variable {H:Type} {enc:TypeId × Value->H} {W:World}
end
end Go.Proofs.YtpmjcbjdcjjplaaGreatDoor
