/-
  DERIVED. GIVEN WITH THE SEED: THE CARDS: each row of YtmpbepjjbaeebaaGreatDoorRows.lean that lists a variable, with what it lists TIED to the program's text (the seventh form; the later family's looks); each row that meets fmt, with fmt's text TOLD by the authors' own Lean function (tested against real Go, not proved from fmt's source: count such statements apart). THE CARD IS WHAT COUNTS. Prove the row's statement (the work); the ties are given (YtmpbepjjbaeebaaGreatDoorTie.lean); close each card by the builder's one call (the guide's Derived/Test/ToyasCard.lean, 'card_holds'). Laid BY PROGRAM, IN A SANDBOX (cutbox-door.mjs). By AI agents, Wed Nov 11 2026. No macro, syntax, notation, axiom, sorry.
-/
import Derived.Test.YtmpbepjjbaeebaaGreatDoorRows
import GoSem.ClaimSeven
namespace Go.Proofs.YtmpbepjjbaeebaaGreatDoor
namespace Rows

/-- THE TIED CARD OF 'basculelaw10.EvalPlays'. -/
def evalPlaysCard : Claim7 := { stood := { row := evalPlaysRow, standIns := [], harness := (true, "04c806fdf39eae5401552d0abc5456affaeb6fccdd4311e1b3184b78110c4aeb"), looks := true }, kinds := [], alts := [], laidByText := true, laidKinds := [.data, .data, .data], laidTests := true, laidLooks := .later }
def EvalPlaysCardSaid : Prop := Claim7.holds Tryz.pinned (.plain (OpenSpec.ofChange evalPlaysSpec)) evalPlaysCard

/-- THE TIED CARD OF 'basculelaw10.EvalSound'. -/
def evalSoundCard : Claim7 := { stood := { row := evalSoundRow, standIns := [], harness := (true, "04c806fdf39eae5401552d0abc5456affaeb6fccdd4311e1b3184b78110c4aeb"), looks := true }, kinds := [], alts := [], laidByText := true, laidKinds := [.data, .data, .data], laidTests := true, laidLooks := .later }
def EvalSoundCardSaid : Prop := Claim7.holds Tryz.pinned (.plain (OpenSpec.ofChange evalSoundSpec)) evalSoundCard

/-- THE TIED CARD OF 'basculelaw10.EvalReads'. -/
def evalReadsCard : Claim7 := { stood := { row := evalReadsRow, standIns := [], harness := (true, "04c806fdf39eae5401552d0abc5456affaeb6fccdd4311e1b3184b78110c4aeb"), looks := true }, kinds := [], alts := [], laidByText := true, laidKinds := [.data, .data, .data], laidTests := true, laidLooks := .later }
def EvalReadsCardSaid : Prop := Claim7.holds Tryz.pinned (.plain (OpenSpec.ofChange evalReadsSpec)) evalReadsCard

/-- THE TIED CARD OF 'basculelaw10.EvalMath'. -/
def evalMathCard : Claim7 := { stood := { row := evalMathRow, standIns := [], harness := (true, "04c806fdf39eae5401552d0abc5456affaeb6fccdd4311e1b3184b78110c4aeb"), looks := true }, kinds := [], alts := [], laidByText := true, laidKinds := [.data, .data, .data], laidTests := true, laidLooks := .later }
def EvalMathCardSaid : Prop := Claim7.holds Tryz.pinned (.plain (OpenSpec.ofChange evalMathSpec)) evalMathCard

/-- THE TIED CARD OF 'basculelaw10.EvalParts'. -/
def evalPartsCard : Claim7 := { stood := { row := evalPartsRow, standIns := [], harness := (true, "04c806fdf39eae5401552d0abc5456affaeb6fccdd4311e1b3184b78110c4aeb"), looks := true }, kinds := [], alts := [], laidByText := true, laidKinds := [.data, .data, .data], laidTests := true, laidLooks := .later }
def EvalPartsCardSaid : Prop := Claim7.holds Tryz.pinned (.plain (OpenSpec.ofChange evalPartsSpec)) evalPartsCard

/-- THE TIED CARD OF 'basculelaw10.EvalNot'. -/
def evalNotCard : Claim7 := { stood := { row := evalNotRow, standIns := [], harness := (true, "04c806fdf39eae5401552d0abc5456affaeb6fccdd4311e1b3184b78110c4aeb"), looks := true }, kinds := [], alts := [], laidByText := true, laidKinds := [.data, .data, .data], laidTests := true, laidLooks := .later }
def EvalNotCardSaid : Prop := Claim7.holds Tryz.pinned (.plain (OpenSpec.ofChange evalNotSpec)) evalNotCard

/-- THE TIED CARD OF 'basculelaw10.EvalConst'. -/
def evalConstCard : Claim7 := { stood := { row := evalConstRow, standIns := [], harness := (true, "04c806fdf39eae5401552d0abc5456affaeb6fccdd4311e1b3184b78110c4aeb"), looks := true }, kinds := [], alts := [], laidByText := true, laidKinds := [.data, .data, .data], laidTests := true, laidLooks := .later }
def EvalConstCardSaid : Prop := Claim7.holds Tryz.pinned (.plain (OpenSpec.ofChange evalConstSpec)) evalConstCard

/-- THE SECOND FORM's CARD OF 'basculelaw10.EvalPlays'. -/
def evalPlaysUptoCard : Claim7 := { stood := { row := evalPlaysUptoRow, standIns := [], harness := (true, "04c806fdf39eae5401552d0abc5456affaeb6fccdd4311e1b3184b78110c4aeb"), looks := true }, kinds := [], alts := [], laidByText := true, laidKinds := [.data, .data, .data], laidTests := true, laidLooks := .later }
def EvalPlaysUptoCardSaid : Prop := Claim7.holds Tryz.pinned (.plain (OpenSpec.upto evalPlaysSpec)) evalPlaysUptoCard

/-- THE SECOND FORM's CARD OF 'basculelaw10.EvalSound'. -/
def evalSoundUptoCard : Claim7 := { stood := { row := evalSoundUptoRow, standIns := [], harness := (true, "04c806fdf39eae5401552d0abc5456affaeb6fccdd4311e1b3184b78110c4aeb"), looks := true }, kinds := [], alts := [], laidByText := true, laidKinds := [.data, .data, .data], laidTests := true, laidLooks := .later }
def EvalSoundUptoCardSaid : Prop := Claim7.holds Tryz.pinned (.plain (OpenSpec.upto evalSoundSpec)) evalSoundUptoCard

/-- THE SECOND FORM's CARD OF 'basculelaw10.EvalReads'. -/
def evalReadsUptoCard : Claim7 := { stood := { row := evalReadsUptoRow, standIns := [], harness := (true, "04c806fdf39eae5401552d0abc5456affaeb6fccdd4311e1b3184b78110c4aeb"), looks := true }, kinds := [], alts := [], laidByText := true, laidKinds := [.data, .data, .data], laidTests := true, laidLooks := .later }
def EvalReadsUptoCardSaid : Prop := Claim7.holds Tryz.pinned (.plain (OpenSpec.upto evalReadsSpec)) evalReadsUptoCard

/-- THE SECOND FORM's CARD OF 'basculelaw10.EvalMath'. -/
def evalMathUptoCard : Claim7 := { stood := { row := evalMathUptoRow, standIns := [], harness := (true, "04c806fdf39eae5401552d0abc5456affaeb6fccdd4311e1b3184b78110c4aeb"), looks := true }, kinds := [], alts := [], laidByText := true, laidKinds := [.data, .data, .data], laidTests := true, laidLooks := .later }
def EvalMathUptoCardSaid : Prop := Claim7.holds Tryz.pinned (.plain (OpenSpec.upto evalMathSpec)) evalMathUptoCard

/-- THE SECOND FORM's CARD OF 'basculelaw10.EvalParts'. -/
def evalPartsUptoCard : Claim7 := { stood := { row := evalPartsUptoRow, standIns := [], harness := (true, "04c806fdf39eae5401552d0abc5456affaeb6fccdd4311e1b3184b78110c4aeb"), looks := true }, kinds := [], alts := [], laidByText := true, laidKinds := [.data, .data, .data], laidTests := true, laidLooks := .later }
def EvalPartsUptoCardSaid : Prop := Claim7.holds Tryz.pinned (.plain (OpenSpec.upto evalPartsSpec)) evalPartsUptoCard

/-- THE SECOND FORM's CARD OF 'basculelaw10.EvalNot'. -/
def evalNotUptoCard : Claim7 := { stood := { row := evalNotUptoRow, standIns := [], harness := (true, "04c806fdf39eae5401552d0abc5456affaeb6fccdd4311e1b3184b78110c4aeb"), looks := true }, kinds := [], alts := [], laidByText := true, laidKinds := [.data, .data, .data], laidTests := true, laidLooks := .later }
def EvalNotUptoCardSaid : Prop := Claim7.holds Tryz.pinned (.plain (OpenSpec.upto evalNotSpec)) evalNotUptoCard

/-- THE SECOND FORM's CARD OF 'basculelaw10.EvalConst'. -/
def evalConstUptoCard : Claim7 := { stood := { row := evalConstUptoRow, standIns := [], harness := (true, "04c806fdf39eae5401552d0abc5456affaeb6fccdd4311e1b3184b78110c4aeb"), looks := true }, kinds := [], alts := [], laidByText := true, laidKinds := [.data, .data, .data], laidTests := true, laidLooks := .later }
def EvalConstUptoCardSaid : Prop := Claim7.holds Tryz.pinned (.plain (OpenSpec.upto evalConstSpec)) evalConstUptoCard
end Rows
end Go.Proofs.YtmpbepjjbaeebaaGreatDoor
