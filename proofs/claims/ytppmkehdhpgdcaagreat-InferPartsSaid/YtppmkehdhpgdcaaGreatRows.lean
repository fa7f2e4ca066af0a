/-
  NARROWER THAN 'FOR EVERY INPUT', by the rows' own cells (each row's printed sentence says how): InferParts: loops · InferLabels: loops · InferNil: loops.
  DERIVED. THE GIVEN ROWS OF THIS SEAT. 3 by the template 'for every input the law returns true; each argument reads behind the call as it read before'; 0 by the template 'total and deterministic' (their statements: YtppmkehdhpgdcaaGreatTotals.lean).
  GIVEN WITH THE SEED: the statements are not yours to turn. If you find one false, say at which input.
  Laid BY PROGRAM, IN A SANDBOX (cutbox-rows.mjs): the forced cells as the released guide's own fill.sh prints them over the translation 7e6549fa7fb49d46… (all of the seat's roots in one cut). By AI agents, Wed Nov 11 2026. No macro, syntax, notation, axiom, sorry.
-/
import Derived.Test.YtppmkehdhpgdcaaGreatChecked
import GoSem.Claim
import GoSem.ClaimJoined
import GoSem.ClaimMapViews
import Derived.JoinedTies
import Derived.KernelRfl
namespace Go.Proofs.YtppmkehdhpgdcaaGreat
/- THE CELL 'sum', in the pinned program and in every row, IS THE sha256 OF THE DUMP (.gsa) THAT YtppmkehdhpgdcaaGreatProg.lean LOADS. Nothing in Lean hashes anything: it is a label: what it is worth is what the hold of that sum in a sandbox is worth. -/
noncomputable def Tryz.pinned : Pinned := { name := "ytppmkehdhpgdcaagreat", sum := "7e6549fa7fb49d46fe4c6ddaba747a55bb3b323283e186914c4ecdebc348e995", checked := Tryz.checked }
namespace Rows
def none {H : Type} : Left H := { results := [], args := [] }

/-- 'basculelaw11.InferParts': WHATEVER THE INPUT: true; the input reads as it did. -/
def inferPartsSpec : ChangeSpec := { name := "inferParts", fn := fun _ => fun
  | [d1, d2, d3, d4, d5] => { results := [.lit (.bool true)], args := [d1, d2, d3, d4, d5] }
  | _ => none }
def inferPartsRow : OpenClaim := { program := "ytppmkehdhpgdcaagreat", sum := "7e6549fa7fb49d46fe4c6ddaba747a55bb3b323283e186914c4ecdebc348e995", func := "bascule/basculelaw11.InferParts", spec := "inferParts", inPlace := ["math.Float64frombits", "math.Float64bits"], unfollowed := true, recurses := true, loops := true, apart := false }
def InferPartsSaid : Prop := inferPartsRow.holds Tryz.pinned (OpenSpec.ofChange inferPartsSpec)

/-- ITS FALSE NEIGHBOUR: 'it returns false'. Refute it at one input. -/
def inferPartsWrong : ChangeSpec := { name := "inferParts", fn := fun _ => fun
  | [d1, d2, d3, d4, d5] => { results := [.lit (.bool false)], args := [d1, d2, d3, d4, d5] }
  | _ => none }
def InferPartsWrongFalsely : Prop := inferPartsRow.holds Tryz.pinned (OpenSpec.ofChange inferPartsWrong)

/-- 'basculelaw11.InferLabels': WHATEVER THE INPUT: true; the input reads as it did. -/
def inferLabelsSpec : ChangeSpec := { name := "inferLabels", fn := fun _ => fun
  | [d1, d2, d3, d4] => { results := [.lit (.bool true)], args := [d1, d2, d3, d4] }
  | _ => none }
def inferLabelsRow : OpenClaim := { program := "ytppmkehdhpgdcaagreat", sum := "7e6549fa7fb49d46fe4c6ddaba747a55bb3b323283e186914c4ecdebc348e995", func := "bascule/basculelaw11.InferLabels", spec := "inferLabels", inPlace := ["math.Float64frombits", "math.Float64bits"], unfollowed := true, recurses := true, loops := true, apart := false }
def InferLabelsSaid : Prop := inferLabelsRow.holds Tryz.pinned (OpenSpec.ofChange inferLabelsSpec)

/-- ITS FALSE NEIGHBOUR: 'it returns false'. Refute it at one input. -/
def inferLabelsWrong : ChangeSpec := { name := "inferLabels", fn := fun _ => fun
  | [d1, d2, d3, d4] => { results := [.lit (.bool false)], args := [d1, d2, d3, d4] }
  | _ => none }
def InferLabelsWrongFalsely : Prop := inferLabelsRow.holds Tryz.pinned (OpenSpec.ofChange inferLabelsWrong)

/-- 'basculelaw11.InferNil': WHATEVER THE INPUT: true; the input reads as it did. -/
def inferNilSpec : ChangeSpec := { name := "inferNil", fn := fun _ => fun
  | [d1, d2] => { results := [.lit (.bool true)], args := [d1, d2] }
  | _ => none }
def inferNilRow : OpenClaim := { program := "ytppmkehdhpgdcaagreat", sum := "7e6549fa7fb49d46fe4c6ddaba747a55bb3b323283e186914c4ecdebc348e995", func := "bascule/basculelaw11.InferNil", spec := "inferNil", inPlace := ["math.Float64frombits", "math.Float64bits"], unfollowed := true, recurses := true, loops := true, apart := false }
def InferNilSaid : Prop := inferNilRow.holds Tryz.pinned (OpenSpec.ofChange inferNilSpec)

/-- ITS FALSE NEIGHBOUR: 'it returns false'. Refute it at one input. -/
def inferNilWrong : ChangeSpec := { name := "inferNil", fn := fun _ => fun
  | [d1, d2] => { results := [.lit (.bool false)], args := [d1, d2] }
  | _ => none }
def InferNilWrongFalsely : Prop := inferNilRow.holds Tryz.pinned (OpenSpec.ofChange inferNilWrong)

/- THE SECOND FORM. 'bulk': how many values and letters a reading holds, each counted each time it is reached (what is shared counts as often as it is met; a slice's spare places count too). A statement '..UptoSaid' is the law's where the arguments, and the package variables that the reading takes, are together of bulk at most 1048576: NARROWER than '..Said'. Prove '..Said' where nothing that the law and all that it calls make is longer than what came in: it says more and counts as full. Else prove '..UptoSaid'. A law counts once. -/
mutual
def uptoBulk {H : Type} : DataW H → Nat
  | .lit (.string bytes) => bytes.length + 1
  | .lit _ => 1
  | .nil => 1
  | .ptr d => uptoBulk d + 1
  | .slice elems spare => uptoBulkAll elems + uptoBulkAll spare + 1
  | .agg parts => uptoBulkAll parts + 1
  | .iface _ d => uptoBulk d + 1
  | .map entries => uptoBulkEntries entries + 1
  | .held _ => 1
def uptoBulkAll {H : Type} : List (DataW H) → Nat
  | [] => 0
  | d :: r => uptoBulk d + uptoBulkAll r
def uptoBulkEntries {H : Type} : List (Lit × DataW H) → Nat
  | [] => 0
  | x :: r => uptoBulkEntry x + uptoBulkEntries r
def uptoBulkEntry {H : Type} : Lit × DataW H → Nat
  | (.string bytes, d) => bytes.length + uptoBulk d + 1
  | (_, d) => uptoBulk d + 1
 end
def uptoSmall : (H : Type) → List (DataW H) → Bool := fun _ ds => decide (uptoBulkAll ds ≤ 1048576)
def OpenSpec.upto (s : _root_.Go.ChangeSpec) : _root_.Go.OpenSpec := { _root_.Go.OpenSpec.ofChange s with cond := some uptoSmall }

/-- 'basculelaw11.InferParts', WHERE WHAT IT READS IS OF BULK AT MOST 1048576: true; the input reads as it did. -/
def inferPartsUptoRow : OpenClaim := { program := "ytppmkehdhpgdcaagreat", sum := "7e6549fa7fb49d46fe4c6ddaba747a55bb3b323283e186914c4ecdebc348e995", func := "bascule/basculelaw11.InferParts", spec := "inferParts", inPlace := ["math.Float64frombits", "math.Float64bits"], unfollowed := true, recurses := true, loops := true, apart := false, narrowed := true }
def InferPartsUptoSaid : Prop := inferPartsUptoRow.holds Tryz.pinned (OpenSpec.upto inferPartsSpec)

/-- 'basculelaw11.InferLabels', WHERE WHAT IT READS IS OF BULK AT MOST 1048576: true; the input reads as it did. -/
def inferLabelsUptoRow : OpenClaim := { program := "ytppmkehdhpgdcaagreat", sum := "7e6549fa7fb49d46fe4c6ddaba747a55bb3b323283e186914c4ecdebc348e995", func := "bascule/basculelaw11.InferLabels", spec := "inferLabels", inPlace := ["math.Float64frombits", "math.Float64bits"], unfollowed := true, recurses := true, loops := true, apart := false, narrowed := true }
def InferLabelsUptoSaid : Prop := inferLabelsUptoRow.holds Tryz.pinned (OpenSpec.upto inferLabelsSpec)

/-- 'basculelaw11.InferNil', WHERE WHAT IT READS IS OF BULK AT MOST 1048576: true; the input reads as it did. -/
def inferNilUptoRow : OpenClaim := { program := "ytppmkehdhpgdcaagreat", sum := "7e6549fa7fb49d46fe4c6ddaba747a55bb3b323283e186914c4ecdebc348e995", func := "bascule/basculelaw11.InferNil", spec := "inferNil", inPlace := ["math.Float64frombits", "math.Float64bits"], unfollowed := true, recurses := true, loops := true, apart := false, narrowed := true }
def InferNilUptoSaid : Prop := inferNilUptoRow.holds Tryz.pinned (OpenSpec.upto inferNilSpec)

end Rows
end Go.Proofs.YtppmkehdhpgdcaaGreat
