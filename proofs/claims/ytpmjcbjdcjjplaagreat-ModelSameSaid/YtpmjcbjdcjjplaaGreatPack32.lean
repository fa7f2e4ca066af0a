/- Parts of a proof: LatList. -/
import Derived.KernelRfl
import Derived.Test.YtpmjcbjdcjjplaaGreatPack31
namespace Go.Proofs.YtpmjcbjdcjjplaaGreat
open Go.RowKit P
def ints (l : List Int) : List Value := l.map fun i => .int .i64 i
def OwnInts (w' : World) (base : Nat) (v : Value) (l : List Int) : Prop := w'.ownsRow base 3 1 v l.length (ints l)
end Go.Proofs.YtpmjcbjdcjjplaaGreat
