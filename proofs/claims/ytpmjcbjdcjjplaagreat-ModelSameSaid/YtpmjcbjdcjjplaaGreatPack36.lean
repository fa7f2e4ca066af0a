/- Parts of a proof: E10X, E10V, E10W. -/
import Derived.Lib.AppendZeros
import Derived.Laws.BitsAllLaws
import Derived.Laws.BitsLemmas
import Derived.Test.YtpmjcbjdcjjplaaGreatPack2
import Derived.Test.YtpmjcbjdcjjplaaGreatPack7
import Derived.Test.YtpmjcbjdcjjplaaGreatPack9
import Derived.Test.YtpmjcbjdcjjplaaGreatPack10
import Derived.Test.YtpmjcbjdcjjplaaGreatPack12
import Derived.Test.YtpmjcbjdcjjplaaGreatPack13
import Derived.Test.YtpmjcbjdcjjplaaGreatPack15
import Derived.Test.YtpmjcbjdcjjplaaGreatPack16
import Derived.Test.YtpmjcbjdcjjplaaGreatPack17
import Derived.Test.YtpmjcbjdcjjplaaGreatPack23
import Derived.Test.YtpmjcbjdcjjplaaGreatPack27
import Derived.Test.YtpmjcbjdcjjplaaGreatPack29
section
namespace Go.Proofs.YtpmjcbjdcjjplaaGreat
open Go Go.RowKit
set_option linter.unusedVariables false
set_option linter.unusedSimpArgs false
structure BB (w W : World) (ca cb : List Value) : Prop where
  wa : Whole 38 W w.heap.size ca
  wb : Whole 38 W (w.heap.size + 1) cb
  wr : Whole 38 W (w.heap.size + 2) zV6
  bel : Below w.heap.size w W
theorem BB.next {w W W' : World} {ca cb : List Value} (h : BB w W ca cb) (hb : Below W.heap.size W W') : BB w W' ca cb :=
  ⟨h.wa.keep (hb.block _ h.wa.lt), h.wb.keep (hb.block _ h.wb.lt), h.wr.keep (hb.block _ h.wr.lt), h.bel.trans (hb.mono h.bel.size)⟩
theorem BB.fin {w W Z : World} {ca cb : List Value} (h : BB w W ca cb) (hx : But W Z (w.heap.size + 2) (w.heap.size + 2)) : Below w.heap.size w Z := h.bel.trans (hx.below (B := w.heap.size) h.bel.size (by omega) (by omega))
end Go.Proofs.YtpmjcbjdcjjplaaGreat
end
section
namespace Go.Proofs.YtpmjcbjdcjjplaaGreat
open Go Go.RowKit
set_option linter.unusedVariables false
set_option linter.unusedSimpArgs false
structure EB (w W : World) (q : Nat) : Prop where
  wb : Whole 38 W q zV6
  bel : Below w.heap.size w W
  ge : w.heap.size ≤ q
  lt : q < W.heap.size
theorem EB.next {w W W' : World} {q : Nat} (h : EB w W q) (hb : Below W.heap.size W W') : EB w W' q := ⟨h.wb.keep (hb.block _ h.lt), h.bel.trans (hb.mono h.bel.size), h.ge, Nat.lt_of_lt_of_le h.lt hb.size⟩
theorem EB.drew {w W : World} {q : Nat} (h : EB w W q) : EB w W.drew q := h.next (Below.refl _ _).drew
theorem EB.fin {w W Z : World} {q : Nat} (h : EB w W q) (hx : But W Z q q) : Below w.heap.size w Z := h.bel.trans (hx.below (B := w.heap.size) h.bel.size h.ge h.ge)
theorem EB.kept {w W Z : World} {q : Nat} {cs : List Value} {v : VT} (he : EB w W q) (h : Kept (fun b => q < b) W cs v) (hx : But W Z q q) : Kept (fun b => w.heap.size ≤ b) Z cs v :=
  h.to (fun b hp hlt => ⟨Nat.le_trans he.ge (Nat.le_of_lt hp), hx.block b hlt (Nat.ne_of_gt hp) (Nat.ne_of_gt hp)⟩) hx.size
section
variable (mp : Nat) (va vb : Value) (E : List VarT) (V : List VT) (p o : Nat) (w : World)
end
end Go.Proofs.YtpmjcbjdcjjplaaGreat
end
section
namespace Go.Proofs.YtpmjcbjdcjjplaaGreat
open Go Go.RowKit
set_option linter.unusedVariables false
set_option linter.unusedSimpArgs false
theorem own_formL {α : Type} {T : TypeId} {k base : Nat} {enc : α → List Value} {w : World} {v : Value} {l : List α} (h : OwnSl T k enc w base v l) : ∃ A c, v = .slice A l.length c := by
  rcases h.2 with ⟨rfl, h0⟩ | ⟨g, cap, cur, rfl, _⟩
  · exact ⟨none, 0, by rw [h0]⟩
  · exact ⟨_, _, rfl⟩
section
variable (mp : Nat) (va vb : Value) (E : List VarT) (V : List VT) (p o : Nat) (w : World)
end
end Go.Proofs.YtpmjcbjdcjjplaaGreat
end
