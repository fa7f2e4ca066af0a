/- The document's edges that lead to nodes. -/
import Derived.Test.YtlfefikhmdbbfaaGreatEdges2
namespace Go.Proofs.YtlfefikhmdbbfaaGreat
open Go.RowKit
set_option linter.unusedVariables false

theorem push_below {α : Type} {T : TypeId} {k B base : Nat} {enc : α → List Value} {w0 w w' : World} {v : Value} {l : List α} (h : Below B w0 w) (hB : B ≤ w.heap.size) (hown : OwnSl T k enc w base v l) (hbase : B ≤ base) (hg : w.grownBy w' v.ownBlock) : Below B w0 w' :=
  h.grown hg hB fun b hb => Nat.le_trans hbase (hown.block hb)
theorem filter_take {α : Type} {p : α → Bool} {l : List α} {j : Nat} {x : α} (h : l[j]? = some x) : (l.take (j + 1)).filter p = (l.take j).filter p ++ if p x = true then [x] else [] := by
  rw [take_at h, List.filter_append]
  by_cases hp : p x = true <;> simp [hp]

end Go.Proofs.YtlfefikhmdbbfaaGreat
