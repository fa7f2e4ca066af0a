/- Parts of a proof: E10A, E10U, E10N. -/
import Derived.Lib.Builder
import Derived.Lib.AppendStr
import Derived.Lib.UnsafeStr
import Derived.Laws.Externs
import Derived.Laws.IdiomCopy
import Derived.Test.YtpmjcbjdcjjplaaGreatPack8
import Derived.Test.YtpmjcbjdcjjplaaGreatPack9
import Derived.Test.YtpmjcbjdcjjplaaGreatPack10
import Derived.Test.YtpmjcbjdcjjplaaGreatPack12
import Derived.Test.YtpmjcbjdcjjplaaGreatPack14
import Derived.Test.YtpmjcbjdcjjplaaGreatPack16
import Derived.Test.YtpmjcbjdcjjplaaGreatPack17
import Derived.Test.YtpmjcbjdcjjplaaGreatPack22
import Derived.Test.YtpmjcbjdcjjplaaGreatPack23
import Derived.Test.YtpmjcbjdcjjplaaGreatPack25
import Derived.Test.YtpmjcbjdcjjplaaGreatPack27
import Derived.Test.YtpmjcbjdcjjplaaGreatPack28
section
namespace Go.Proofs.YtpmjcbjdcjjplaaGreat
open Go Go.RowKit
set_option linter.unusedVariables false
set_option linter.unusedSimpArgs false
def zV6 : List Value := valC 0 0 0 ⟨#[]⟩
end Go.Proofs.YtpmjcbjdcjjplaaGreat
end
section
namespace Go.Proofs.YtpmjcbjdcjjplaaGreat
open Go Go.RowKit
set_option linter.unusedVariables false
set_option linter.unusedSimpArgs false
theorem Kept.grow {P : Nat → Prop} {w w' : World} {cs : List Value} {t : VT} (h : Kept P w cs t) (hb : Below w.heap.size w w') : Kept (fun b => P b ∨ w.heap.size ≤ b) w' cs t := h.to (fun b hp hlt => ⟨.inl hp, hb.block b hlt⟩) hb.size
end Go.Proofs.YtpmjcbjdcjjplaaGreat
end
section
namespace Go.Proofs.YtpmjcbjdcjjplaaGreat
open Go Go.RowKit
set_option linter.unusedVariables false
set_option linter.unusedSimpArgs false
structure MacAt (w : World) (mp : Nat) (va vb : Value) (E : List VarT) (V : List VT) : Prop where
  lt : mp < w.heap.size
  cells : w.rangeAt mp 0 [va, vb]
  vars : SlAt w w.heap.size 11 (VarAt w w.heap.size) va E
  vals : SlAt w w.heap.size 6 (ValAt w w.heap.size) vb V
  few : E.length ≤ 10000
  right : ∀ v ∈ V, rightW v = true
  tab : TabP w
theorem MacAt.below {w z : World} {mp : Nat} {va vb : Value} {E : List VarT} {V : List VT} (h : MacAt w mp va vb E V) (hb : Below w.heap.size w z) : MacAt z mp va vb E V :=
  ⟨Nat.lt_of_lt_of_le h.lt hb.size, rangeAt_below h.cells hb h.lt, (h.vars.below hb fun _ _ _ k => (k.under hb).more hb.size).more hb.size, (h.vals.below hb fun _ _ _ k => (k.under hb).more hb.size).more hb.size, h.few, h.right, h.tab.next hb⟩
end Go.Proofs.YtpmjcbjdcjjplaaGreat
end
