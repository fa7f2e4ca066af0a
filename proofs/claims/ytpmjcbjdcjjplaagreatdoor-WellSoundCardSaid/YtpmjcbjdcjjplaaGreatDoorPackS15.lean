/- Parts of a proof: LatList. -/
import Derived.Test.YtpmjcbjdcjjplaaGreatDoorPackS14
set_option maxHeartbeats 8000000
set_option maxRecDepth 100000
set_option linter.unusedVariables false
set_option linter.unusedSimpArgs false
namespace Go.Proofs.YtpmjcbjdcjjplaaGreatDoor
open Go.RowKit P
def ints (l:List Int):List Value:=l.map fun i=> .int .i64 i
def OwnInts (w':World) (base:Nat) (v:Value) (l:List Int):Prop:=w'.ownsRow base 3 1 v l.length (ints l)
end Go.Proofs.YtpmjcbjdcjjplaaGreatDoor
