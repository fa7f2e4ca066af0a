/- Parts of a proof: Kit. -/
import Derived.WalkSpells
import Derived.WalkLawsBesides
import Derived.BigQuiet
import Derived.Test.YtpmjcbjdcjjplaaGreatDoorPackS0
set_option maxHeartbeats 8000000
set_option maxRecDepth 100000
set_option linter.unusedVariables false
set_option linter.unusedSimpArgs false
namespace Go.Proofs.YtpmjcbjdcjjplaaGreatDoor
open Go.RowKit
theorem zW {k:IntKind} {a b:Int} (h:a= b):Ending.returned (.int k a)= .returned (.int k b):=by rw[h]
theorem z8 {a b:Bool} (h:a= b):Ending.returned (.bool a)= .returned (.bool b):=by rw[h]
section
variable {P:Program} {f:FuncId} {args:Array Value} {w:World} {a n:Nat} {v:Value}
end
theorem zj {B:Nat} {u w:World} (h:Below B u w) (n:Nat):Below B u (w.drewN n):=⟨h.os,h.tape,h.output,h.size,h.block⟩
end Go.Proofs.YtpmjcbjdcjjplaaGreatDoor
