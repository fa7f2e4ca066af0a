/-
  DERIVED. GIVEN WITH THE SEED: THE CARDS: each row of YtpmjcbjdcjjplaaGreatDoorRows.lean that lists a variable, with what it lists TIED to the program's text (the seventh form; the later family's looks); each row that meets fmt, with fmt's text TOLD by the authors' own Lean function (tested against real Go, not proved from fmt's source: count such statements apart). THE CARD IS WHAT COUNTS. Prove the row's statement (the work); the ties are given (YtpmjcbjdcjjplaaGreatDoorTie.lean); close each card by the builder's one call (the guide's Derived/Test/ToyasCard.lean, 'card_holds'). Laid BY PROGRAM, IN A SANDBOX (cutbox-door.mjs). By AI agents, Wed Nov 11 2026. No macro, syntax, notation, axiom, sorry.
-/
import Derived.Test.YtpmjcbjdcjjplaaGreatDoorRows
import GoSem.ClaimSeven
namespace Go.Proofs.YtpmjcbjdcjjplaaGreatDoor
namespace Rows

/-- THE TIED CARD OF 'basculelaw14.WellSound'. -/
def wellSoundCard : Claim7 := { stood := { row := wellSoundRow, standIns := [], harness := (true, "feaae5ac5988122acfcb050b0ce2804176d29b572d871de4704d17c4ca3a36b6"), looks := true }, kinds := [], alts := [], laidByText := true, laidKinds := [.data, .data, .data], laidTests := true, laidLooks := .later }
def WellSoundCardSaid : Prop := Claim7.holds Tryz.pinned (.plain (OpenSpec.ofChange wellSoundSpec)) wellSoundCard

/-- THE TIED CARD OF 'basculelaw14.WellGrants'. -/
def wellGrantsCard : Claim7 := { stood := { row := wellGrantsRow, standIns := [], harness := (true, "feaae5ac5988122acfcb050b0ce2804176d29b572d871de4704d17c4ca3a36b6"), looks := true }, kinds := [], alts := [], laidByText := true, laidKinds := [.data, .data, .data], laidTests := true, laidLooks := .later }
def WellGrantsCardSaid : Prop := Claim7.holds Tryz.pinned (.plain (OpenSpec.ofChange wellGrantsSpec)) wellGrantsCard

/-- THE TIED CARD OF 'basculelaw14.WellEdges'. -/
def wellEdgesCard : Claim7 := { stood := { row := wellEdgesRow, standIns := [], harness := (true, "feaae5ac5988122acfcb050b0ce2804176d29b572d871de4704d17c4ca3a36b6"), looks := true }, kinds := [], alts := [], laidByText := true, laidKinds := [.data, .data, .data], laidTests := true, laidLooks := .later }
def WellEdgesCardSaid : Prop := Claim7.holds Tryz.pinned (.plain (OpenSpec.ofChange wellEdgesSpec)) wellEdgesCard

/-- THE SECOND FORM's CARD OF 'basculelaw14.WellSound'. -/
def wellSoundUptoCard : Claim7 := { stood := { row := wellSoundUptoRow, standIns := [], harness := (true, "feaae5ac5988122acfcb050b0ce2804176d29b572d871de4704d17c4ca3a36b6"), looks := true }, kinds := [], alts := [], laidByText := true, laidKinds := [.data, .data, .data], laidTests := true, laidLooks := .later }
def WellSoundUptoCardSaid : Prop := Claim7.holds Tryz.pinned (.plain (OpenSpec.upto wellSoundSpec)) wellSoundUptoCard

/-- THE SECOND FORM's CARD OF 'basculelaw14.WellGrants'. -/
def wellGrantsUptoCard : Claim7 := { stood := { row := wellGrantsUptoRow, standIns := [], harness := (true, "feaae5ac5988122acfcb050b0ce2804176d29b572d871de4704d17c4ca3a36b6"), looks := true }, kinds := [], alts := [], laidByText := true, laidKinds := [.data, .data, .data], laidTests := true, laidLooks := .later }
def WellGrantsUptoCardSaid : Prop := Claim7.holds Tryz.pinned (.plain (OpenSpec.upto wellGrantsSpec)) wellGrantsUptoCard

/-- THE SECOND FORM's CARD OF 'basculelaw14.WellEdges'. -/
def wellEdgesUptoCard : Claim7 := { stood := { row := wellEdgesUptoRow, standIns := [], harness := (true, "feaae5ac5988122acfcb050b0ce2804176d29b572d871de4704d17c4ca3a36b6"), looks := true }, kinds := [], alts := [], laidByText := true, laidKinds := [.data, .data, .data], laidTests := true, laidLooks := .later }
def WellEdgesUptoCardSaid : Prop := Claim7.holds Tryz.pinned (.plain (OpenSpec.upto wellEdgesSpec)) wellEdgesUptoCard
end Rows
end Go.Proofs.YtpmjcbjdcjjplaaGreatDoor
