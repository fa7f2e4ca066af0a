/-
  No cell of these rows narrows 'for every input' (looked for: loops, veiled, ifaces, maps, wideKeys, modest, calm, conditions, laid).
  DERIVED. THE GIVEN ROWS OF THIS SEAT. 12 by the template 'for every input the law returns true; each argument reads behind the call as it read before'; 0 by the template 'total and deterministic' (their statements: YtpikafadfailkaaTotals.lean).
  GIVEN WITH THE SEED: the statements are not yours to turn. If you find one false, say at which input.
  Laid BY PROGRAM, IN A SANDBOX (cutbox-rows.mjs): the forced cells as the released guide's own fill.sh prints them over the translation ca67e7aed5406816… (all of the seat's roots in one cut). By AI agents, Wed Nov 11 2026. No macro, syntax, notation, axiom, sorry.
-/
import Derived.Test.YtpikafadfailkaaChecked
import GoSem.Claim
import GoSem.ClaimJoined
import GoSem.ClaimMapViews
import Derived.JoinedTies
import Derived.KernelRfl
namespace Go.Proofs.Ytpikafadfailkaa
/- THE CELL 'sum', in the pinned program and in every row, IS THE sha256 OF THE DUMP (.gsa) THAT YtpikafadfailkaaProg.lean LOADS. Nothing in Lean hashes anything: it is a label: what it is worth is what the hold of that sum in a sandbox is worth. -/
noncomputable def Try.pinned : Pinned := { name := "ytpikafadfailkaa", sum := "ca67e7aed5406816d266e301cbe11611cfd7ef16060133f15f71bcf2baf4d897", checked := Try.checked }
namespace Rows
def none {H : Type} : Left H := { results := [], args := [] }

/-- 'basculelaw01.LatticeLaws': WHATEVER THE INPUT: true; the input reads as it did. -/
def latticeLawsSpec : ChangeSpec := { name := "latticeLaws", fn := fun _ => fun
  | [d1, d2, d3, d4, d5] => { results := [.lit (.bool true)], args := [d1, d2, d3, d4, d5] }
  | _ => none }
def latticeLawsRow : OpenClaim := { program := "ytpikafadfailkaa", sum := "ca67e7aed5406816d266e301cbe11611cfd7ef16060133f15f71bcf2baf4d897", func := "bascule/basculelaw01.LatticeLaws", spec := "latticeLaws", unfollowed := true, recurses := true, apart := false }
def LatticeLawsSaid : Prop := latticeLawsRow.holds Try.pinned (OpenSpec.ofChange latticeLawsSpec)

/-- ITS FALSE NEIGHBOUR: 'it returns false'. Refute it at one input. -/
def latticeLawsWrong : ChangeSpec := { name := "latticeLaws", fn := fun _ => fun
  | [d1, d2, d3, d4, d5] => { results := [.lit (.bool false)], args := [d1, d2, d3, d4, d5] }
  | _ => none }
def LatticeLawsWrongFalsely : Prop := latticeLawsRow.holds Try.pinned (OpenSpec.ofChange latticeLawsWrong)

/-- 'basculelaw01.LatticeOrder': WHATEVER THE INPUT: true; the input reads as it did. -/
def latticeOrderSpec : ChangeSpec := { name := "latticeOrder", fn := fun _ => fun
  | [d1, d2] => { results := [.lit (.bool true)], args := [d1, d2] }
  | _ => none }
def latticeOrderRow : OpenClaim := { program := "ytpikafadfailkaa", sum := "ca67e7aed5406816d266e301cbe11611cfd7ef16060133f15f71bcf2baf4d897", func := "bascule/basculelaw01.LatticeOrder", spec := "latticeOrder", apart := false }
def LatticeOrderSaid : Prop := latticeOrderRow.holds Try.pinned (OpenSpec.ofChange latticeOrderSpec)

/-- ITS FALSE NEIGHBOUR: 'it returns false'. Refute it at one input. -/
def latticeOrderWrong : ChangeSpec := { name := "latticeOrder", fn := fun _ => fun
  | [d1, d2] => { results := [.lit (.bool false)], args := [d1, d2] }
  | _ => none }
def LatticeOrderWrongFalsely : Prop := latticeOrderRow.holds Try.pinned (OpenSpec.ofChange latticeOrderWrong)

/-- 'basculelaw01.LatticeDual': WHATEVER THE INPUT: true; the input reads as it did. -/
def latticeDualSpec : ChangeSpec := { name := "latticeDual", fn := fun _ => fun
  | [d1, d2, d3, d4] => { results := [.lit (.bool true)], args := [d1, d2, d3, d4] }
  | _ => none }
def latticeDualRow : OpenClaim := { program := "ytpikafadfailkaa", sum := "ca67e7aed5406816d266e301cbe11611cfd7ef16060133f15f71bcf2baf4d897", func := "bascule/basculelaw01.LatticeDual", spec := "latticeDual", apart := false }
def LatticeDualSaid : Prop := latticeDualRow.holds Try.pinned (OpenSpec.ofChange latticeDualSpec)

/-- ITS FALSE NEIGHBOUR: 'it returns false'. Refute it at one input. -/
def latticeDualWrong : ChangeSpec := { name := "latticeDual", fn := fun _ => fun
  | [d1, d2, d3, d4] => { results := [.lit (.bool false)], args := [d1, d2, d3, d4] }
  | _ => none }
def LatticeDualWrongFalsely : Prop := latticeDualRow.holds Try.pinned (OpenSpec.ofChange latticeDualWrong)

/-- 'basculelaw01.LatticeMakes': WHATEVER THE INPUT: true; the input reads as it did. -/
def latticeMakesSpec : ChangeSpec := { name := "latticeMakes", fn := fun _ => fun
  | [d1, d2, d3, d4] => { results := [.lit (.bool true)], args := [d1, d2, d3, d4] }
  | _ => none }
def latticeMakesRow : OpenClaim := { program := "ytpikafadfailkaa", sum := "ca67e7aed5406816d266e301cbe11611cfd7ef16060133f15f71bcf2baf4d897", func := "bascule/basculelaw01.LatticeMakes", spec := "latticeMakes", apart := false }
def LatticeMakesSaid : Prop := latticeMakesRow.holds Try.pinned (OpenSpec.ofChange latticeMakesSpec)

/-- ITS FALSE NEIGHBOUR: 'it returns false'. Refute it at one input. -/
def latticeMakesWrong : ChangeSpec := { name := "latticeMakes", fn := fun _ => fun
  | [d1, d2, d3, d4] => { results := [.lit (.bool false)], args := [d1, d2, d3, d4] }
  | _ => none }
def LatticeMakesWrongFalsely : Prop := latticeMakesRow.holds Try.pinned (OpenSpec.ofChange latticeMakesWrong)

/-- 'basculelaw01.LatticeNear': WHATEVER THE INPUT: true; the input reads as it did. -/
def latticeNearSpec : ChangeSpec := { name := "latticeNear", fn := fun _ => fun
  | [d1, d2, d3] => { results := [.lit (.bool true)], args := [d1, d2, d3] }
  | _ => none }
def latticeNearRow : OpenClaim := { program := "ytpikafadfailkaa", sum := "ca67e7aed5406816d266e301cbe11611cfd7ef16060133f15f71bcf2baf4d897", func := "bascule/basculelaw01.LatticeNear", spec := "latticeNear", apart := false }
def LatticeNearSaid : Prop := latticeNearRow.holds Try.pinned (OpenSpec.ofChange latticeNearSpec)

/-- ITS FALSE NEIGHBOUR: 'it returns false'. Refute it at one input. -/
def latticeNearWrong : ChangeSpec := { name := "latticeNear", fn := fun _ => fun
  | [d1, d2, d3] => { results := [.lit (.bool false)], args := [d1, d2, d3] }
  | _ => none }
def LatticeNearWrongFalsely : Prop := latticeNearRow.holds Try.pinned (OpenSpec.ofChange latticeNearWrong)

/-- 'basculelaw01.LatticeNil': WHATEVER THE INPUT: true; the input reads as it did. -/
def latticeNilSpec : ChangeSpec := { name := "latticeNil", fn := fun _ => fun
  | [d1, d2] => { results := [.lit (.bool true)], args := [d1, d2] }
  | _ => none }
def latticeNilRow : OpenClaim := { program := "ytpikafadfailkaa", sum := "ca67e7aed5406816d266e301cbe11611cfd7ef16060133f15f71bcf2baf4d897", func := "bascule/basculelaw01.LatticeNil", spec := "latticeNil", apart := false }
def LatticeNilSaid : Prop := latticeNilRow.holds Try.pinned (OpenSpec.ofChange latticeNilSpec)

/-- ITS FALSE NEIGHBOUR: 'it returns false'. Refute it at one input. -/
def latticeNilWrong : ChangeSpec := { name := "latticeNil", fn := fun _ => fun
  | [d1, d2] => { results := [.lit (.bool false)], args := [d1, d2] }
  | _ => none }
def LatticeNilWrongFalsely : Prop := latticeNilRow.holds Try.pinned (OpenSpec.ofChange latticeNilWrong)

/-- 'basculelaw02.LabelFolds': WHATEVER THE INPUT: true; the input reads as it did. -/
def labelFoldsSpec : ChangeSpec := { name := "labelFolds", fn := fun _ => fun
  | [d1, d2, d3, d4] => { results := [.lit (.bool true)], args := [d1, d2, d3, d4] }
  | _ => none }
def labelFoldsRow : OpenClaim := { program := "ytpikafadfailkaa", sum := "ca67e7aed5406816d266e301cbe11611cfd7ef16060133f15f71bcf2baf4d897", func := "bascule/basculelaw02.LabelFolds", spec := "labelFolds", unfollowed := true, recurses := true, apart := false }
def LabelFoldsSaid : Prop := labelFoldsRow.holds Try.pinned (OpenSpec.ofChange labelFoldsSpec)

/-- ITS FALSE NEIGHBOUR: 'it returns false'. Refute it at one input. -/
def labelFoldsWrong : ChangeSpec := { name := "labelFolds", fn := fun _ => fun
  | [d1, d2, d3, d4] => { results := [.lit (.bool false)], args := [d1, d2, d3, d4] }
  | _ => none }
def LabelFoldsWrongFalsely : Prop := labelFoldsRow.holds Try.pinned (OpenSpec.ofChange labelFoldsWrong)

/-- 'basculelaw02.LabelRaises': WHATEVER THE INPUT: true; the input reads as it did. -/
def labelRaisesSpec : ChangeSpec := { name := "labelRaises", fn := fun _ => fun
  | [d1, d2, d3, d4] => { results := [.lit (.bool true)], args := [d1, d2, d3, d4] }
  | _ => none }
def labelRaisesRow : OpenClaim := { program := "ytpikafadfailkaa", sum := "ca67e7aed5406816d266e301cbe11611cfd7ef16060133f15f71bcf2baf4d897", func := "bascule/basculelaw02.LabelRaises", spec := "labelRaises", unfollowed := true, recurses := true, apart := false }
def LabelRaisesSaid : Prop := labelRaisesRow.holds Try.pinned (OpenSpec.ofChange labelRaisesSpec)

/-- ITS FALSE NEIGHBOUR: 'it returns false'. Refute it at one input. -/
def labelRaisesWrong : ChangeSpec := { name := "labelRaises", fn := fun _ => fun
  | [d1, d2, d3, d4] => { results := [.lit (.bool false)], args := [d1, d2, d3, d4] }
  | _ => none }
def LabelRaisesWrongFalsely : Prop := labelRaisesRow.holds Try.pinned (OpenSpec.ofChange labelRaisesWrong)

/-- 'basculelaw02.LabelLeast': WHATEVER THE INPUT: true; the input reads as it did. -/
def labelLeastSpec : ChangeSpec := { name := "labelLeast", fn := fun _ => fun
  | [d1, d2, d3, d4, d5] => { results := [.lit (.bool true)], args := [d1, d2, d3, d4, d5] }
  | _ => none }
def labelLeastRow : OpenClaim := { program := "ytpikafadfailkaa", sum := "ca67e7aed5406816d266e301cbe11611cfd7ef16060133f15f71bcf2baf4d897", func := "bascule/basculelaw02.LabelLeast", spec := "labelLeast", unfollowed := true, recurses := true, apart := false }
def LabelLeastSaid : Prop := labelLeastRow.holds Try.pinned (OpenSpec.ofChange labelLeastSpec)

/-- ITS FALSE NEIGHBOUR: 'it returns false'. Refute it at one input. -/
def labelLeastWrong : ChangeSpec := { name := "labelLeast", fn := fun _ => fun
  | [d1, d2, d3, d4, d5] => { results := [.lit (.bool false)], args := [d1, d2, d3, d4, d5] }
  | _ => none }
def LabelLeastWrongFalsely : Prop := labelLeastRow.holds Try.pinned (OpenSpec.ofChange labelLeastWrong)

/-- 'basculelaw02.LabelNil': WHATEVER THE INPUT: true; the input reads as it did. -/
def labelNilSpec : ChangeSpec := { name := "labelNil", fn := fun _ => fun
  | [d1, d2] => { results := [.lit (.bool true)], args := [d1, d2] }
  | _ => none }
def labelNilRow : OpenClaim := { program := "ytpikafadfailkaa", sum := "ca67e7aed5406816d266e301cbe11611cfd7ef16060133f15f71bcf2baf4d897", func := "bascule/basculelaw02.LabelNil", spec := "labelNil", unfollowed := true, recurses := true, apart := false }
def LabelNilSaid : Prop := labelNilRow.holds Try.pinned (OpenSpec.ofChange labelNilSpec)

/-- ITS FALSE NEIGHBOUR: 'it returns false'. Refute it at one input. -/
def labelNilWrong : ChangeSpec := { name := "labelNil", fn := fun _ => fun
  | [d1, d2] => { results := [.lit (.bool false)], args := [d1, d2] }
  | _ => none }
def LabelNilWrongFalsely : Prop := labelNilRow.holds Try.pinned (OpenSpec.ofChange labelNilWrong)

/-- 'basculelaw02.LabelAll': WHATEVER THE INPUT: true; the input reads as it did. -/
def labelAllSpec : ChangeSpec := { name := "labelAll", fn := fun _ => fun
  | [d1, d2, d3, d4] => { results := [.lit (.bool true)], args := [d1, d2, d3, d4] }
  | _ => none }
def labelAllRow : OpenClaim := { program := "ytpikafadfailkaa", sum := "ca67e7aed5406816d266e301cbe11611cfd7ef16060133f15f71bcf2baf4d897", func := "bascule/basculelaw02.LabelAll", spec := "labelAll", unfollowed := true, recurses := true, apart := false }
def LabelAllSaid : Prop := labelAllRow.holds Try.pinned (OpenSpec.ofChange labelAllSpec)

/-- ITS FALSE NEIGHBOUR: 'it returns false'. Refute it at one input. -/
def labelAllWrong : ChangeSpec := { name := "labelAll", fn := fun _ => fun
  | [d1, d2, d3, d4] => { results := [.lit (.bool false)], args := [d1, d2, d3, d4] }
  | _ => none }
def LabelAllWrongFalsely : Prop := labelAllRow.holds Try.pinned (OpenSpec.ofChange labelAllWrong)

/-- 'basculelaw02.LabelSees': WHATEVER THE INPUT: true; the input reads as it did. -/
def labelSeesSpec : ChangeSpec := { name := "labelSees", fn := fun _ => fun
  | [d1, d2, d3, d4, d5] => { results := [.lit (.bool true)], args := [d1, d2, d3, d4, d5] }
  | _ => none }
def labelSeesRow : OpenClaim := { program := "ytpikafadfailkaa", sum := "ca67e7aed5406816d266e301cbe11611cfd7ef16060133f15f71bcf2baf4d897", func := "bascule/basculelaw02.LabelSees", spec := "labelSees", unfollowed := true, recurses := true, apart := false }
def LabelSeesSaid : Prop := labelSeesRow.holds Try.pinned (OpenSpec.ofChange labelSeesSpec)

/-- ITS FALSE NEIGHBOUR: 'it returns false'. Refute it at one input. -/
def labelSeesWrong : ChangeSpec := { name := "labelSees", fn := fun _ => fun
  | [d1, d2, d3, d4, d5] => { results := [.lit (.bool false)], args := [d1, d2, d3, d4, d5] }
  | _ => none }
def LabelSeesWrongFalsely : Prop := labelSeesRow.holds Try.pinned (OpenSpec.ofChange labelSeesWrong)

/- THE SECOND FORM. 'bulk': how many values and letters a reading holds, each counted each time it is reached (what is shared counts as often as it is met; a slice's spare places count too). A statement '..UptoSaid' is the law's where the arguments, and the package variables that the reading takes, are together of bulk at most 1048576: NARROWER than '..Said'. Prove '..Said' where nothing that the law and all that it calls make is longer than what came in: it says more and counts as full. Else prove '..UptoSaid'. A law counts once. -/
mutual
def uptoBulk {H : Type} : DataW H → Nat
  | .lit (.string bytes) => bytes.length + 1
  | .lit _ => 1
  | .nil => 1
  | .ptr d => uptoBulk d + 1
  | .slice elems spare => uptoBulkAll elems + uptoBulkAll spare + 1
  | .agg parts => uptoBulkAll parts + 1
  | .iface _ d => uptoBulk d + 1
  | .map entries => uptoBulkEntries entries + 1
  | .held _ => 1
def uptoBulkAll {H : Type} : List (DataW H) → Nat
  | [] => 0
  | d :: r => uptoBulk d + uptoBulkAll r
def uptoBulkEntries {H : Type} : List (Lit × DataW H) → Nat
  | [] => 0
  | x :: r => uptoBulkEntry x + uptoBulkEntries r
def uptoBulkEntry {H : Type} : Lit × DataW H → Nat
  | (.string bytes, d) => bytes.length + uptoBulk d + 1
  | (_, d) => uptoBulk d + 1
 end
def uptoSmall : (H : Type) → List (DataW H) → Bool := fun _ ds => decide (uptoBulkAll ds ≤ 1048576)
def OpenSpec.upto (s : _root_.Go.ChangeSpec) : _root_.Go.OpenSpec := { _root_.Go.OpenSpec.ofChange s with cond := some uptoSmall }

/-- 'basculelaw01.LatticeLaws', WHERE WHAT IT READS IS OF BULK AT MOST 1048576: true; the input reads as it did. -/
def latticeLawsUptoRow : OpenClaim := { program := "ytpikafadfailkaa", sum := "ca67e7aed5406816d266e301cbe11611cfd7ef16060133f15f71bcf2baf4d897", func := "bascule/basculelaw01.LatticeLaws", spec := "latticeLaws", unfollowed := true, recurses := true, apart := false, narrowed := true }
def LatticeLawsUptoSaid : Prop := latticeLawsUptoRow.holds Try.pinned (OpenSpec.upto latticeLawsSpec)

/-- 'basculelaw01.LatticeOrder', WHERE WHAT IT READS IS OF BULK AT MOST 1048576: true; the input reads as it did. -/
def latticeOrderUptoRow : OpenClaim := { program := "ytpikafadfailkaa", sum := "ca67e7aed5406816d266e301cbe11611cfd7ef16060133f15f71bcf2baf4d897", func := "bascule/basculelaw01.LatticeOrder", spec := "latticeOrder", apart := false, narrowed := true }
def LatticeOrderUptoSaid : Prop := latticeOrderUptoRow.holds Try.pinned (OpenSpec.upto latticeOrderSpec)

/-- 'basculelaw01.LatticeDual', WHERE WHAT IT READS IS OF BULK AT MOST 1048576: true; the input reads as it did. -/
def latticeDualUptoRow : OpenClaim := { program := "ytpikafadfailkaa", sum := "ca67e7aed5406816d266e301cbe11611cfd7ef16060133f15f71bcf2baf4d897", func := "bascule/basculelaw01.LatticeDual", spec := "latticeDual", apart := false, narrowed := true }
def LatticeDualUptoSaid : Prop := latticeDualUptoRow.holds Try.pinned (OpenSpec.upto latticeDualSpec)

/-- 'basculelaw01.LatticeMakes', WHERE WHAT IT READS IS OF BULK AT MOST 1048576: true; the input reads as it did. -/
def latticeMakesUptoRow : OpenClaim := { program := "ytpikafadfailkaa", sum := "ca67e7aed5406816d266e301cbe11611cfd7ef16060133f15f71bcf2baf4d897", func := "bascule/basculelaw01.LatticeMakes", spec := "latticeMakes", apart := false, narrowed := true }
def LatticeMakesUptoSaid : Prop := latticeMakesUptoRow.holds Try.pinned (OpenSpec.upto latticeMakesSpec)

/-- 'basculelaw01.LatticeNear', WHERE WHAT IT READS IS OF BULK AT MOST 1048576: true; the input reads as it did. -/
def latticeNearUptoRow : OpenClaim := { program := "ytpikafadfailkaa", sum := "ca67e7aed5406816d266e301cbe11611cfd7ef16060133f15f71bcf2baf4d897", func := "bascule/basculelaw01.LatticeNear", spec := "latticeNear", apart := false, narrowed := true }
def LatticeNearUptoSaid : Prop := latticeNearUptoRow.holds Try.pinned (OpenSpec.upto latticeNearSpec)

/-- 'basculelaw01.LatticeNil', WHERE WHAT IT READS IS OF BULK AT MOST 1048576: true; the input reads as it did. -/
def latticeNilUptoRow : OpenClaim := { program := "ytpikafadfailkaa", sum := "ca67e7aed5406816d266e301cbe11611cfd7ef16060133f15f71bcf2baf4d897", func := "bascule/basculelaw01.LatticeNil", spec := "latticeNil", apart := false, narrowed := true }
def LatticeNilUptoSaid : Prop := latticeNilUptoRow.holds Try.pinned (OpenSpec.upto latticeNilSpec)

/-- 'basculelaw02.LabelFolds', WHERE WHAT IT READS IS OF BULK AT MOST 1048576: true; the input reads as it did. -/
def labelFoldsUptoRow : OpenClaim := { program := "ytpikafadfailkaa", sum := "ca67e7aed5406816d266e301cbe11611cfd7ef16060133f15f71bcf2baf4d897", func := "bascule/basculelaw02.LabelFolds", spec := "labelFolds", unfollowed := true, recurses := true, apart := false, narrowed := true }
def LabelFoldsUptoSaid : Prop := labelFoldsUptoRow.holds Try.pinned (OpenSpec.upto labelFoldsSpec)

/-- 'basculelaw02.LabelRaises', WHERE WHAT IT READS IS OF BULK AT MOST 1048576: true; the input reads as it did. -/
def labelRaisesUptoRow : OpenClaim := { program := "ytpikafadfailkaa", sum := "ca67e7aed5406816d266e301cbe11611cfd7ef16060133f15f71bcf2baf4d897", func := "bascule/basculelaw02.LabelRaises", spec := "labelRaises", unfollowed := true, recurses := true, apart := false, narrowed := true }
def LabelRaisesUptoSaid : Prop := labelRaisesUptoRow.holds Try.pinned (OpenSpec.upto labelRaisesSpec)

/-- 'basculelaw02.LabelLeast', WHERE WHAT IT READS IS OF BULK AT MOST 1048576: true; the input reads as it did. -/
def labelLeastUptoRow : OpenClaim := { program := "ytpikafadfailkaa", sum := "ca67e7aed5406816d266e301cbe11611cfd7ef16060133f15f71bcf2baf4d897", func := "bascule/basculelaw02.LabelLeast", spec := "labelLeast", unfollowed := true, recurses := true, apart := false, narrowed := true }
def LabelLeastUptoSaid : Prop := labelLeastUptoRow.holds Try.pinned (OpenSpec.upto labelLeastSpec)

/-- 'basculelaw02.LabelNil', WHERE WHAT IT READS IS OF BULK AT MOST 1048576: true; the input reads as it did. -/
def labelNilUptoRow : OpenClaim := { program := "ytpikafadfailkaa", sum := "ca67e7aed5406816d266e301cbe11611cfd7ef16060133f15f71bcf2baf4d897", func := "bascule/basculelaw02.LabelNil", spec := "labelNil", unfollowed := true, recurses := true, apart := false, narrowed := true }
def LabelNilUptoSaid : Prop := labelNilUptoRow.holds Try.pinned (OpenSpec.upto labelNilSpec)

/-- 'basculelaw02.LabelAll', WHERE WHAT IT READS IS OF BULK AT MOST 1048576: true; the input reads as it did. -/
def labelAllUptoRow : OpenClaim := { program := "ytpikafadfailkaa", sum := "ca67e7aed5406816d266e301cbe11611cfd7ef16060133f15f71bcf2baf4d897", func := "bascule/basculelaw02.LabelAll", spec := "labelAll", unfollowed := true, recurses := true, apart := false, narrowed := true }
def LabelAllUptoSaid : Prop := labelAllUptoRow.holds Try.pinned (OpenSpec.upto labelAllSpec)

/-- 'basculelaw02.LabelSees', WHERE WHAT IT READS IS OF BULK AT MOST 1048576: true; the input reads as it did. -/
def labelSeesUptoRow : OpenClaim := { program := "ytpikafadfailkaa", sum := "ca67e7aed5406816d266e301cbe11611cfd7ef16060133f15f71bcf2baf4d897", func := "bascule/basculelaw02.LabelSees", spec := "labelSees", unfollowed := true, recurses := true, apart := false, narrowed := true }
def LabelSeesUptoSaid : Prop := labelSeesUptoRow.holds Try.pinned (OpenSpec.upto labelSeesSpec)

end Rows
end Go.Proofs.Ytpikafadfailkaa
