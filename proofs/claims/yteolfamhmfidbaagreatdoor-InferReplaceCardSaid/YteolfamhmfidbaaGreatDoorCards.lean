/-
  DERIVED. GIVEN WITH THE SEED: THE CARDS: each row of YteolfamhmfidbaaGreatDoorRows.lean that lists a variable, with what it lists TIED to the program's text (the seventh form; the later family's looks); each row that meets fmt, with fmt's text TOLD by the authors' own Lean function (tested against real Go, not proved from fmt's source: count such statements apart). THE CARD IS WHAT COUNTS. Prove the row's statement (the work); the ties are given (YteolfamhmfidbaaGreatDoorTie.lean); close each card by the builder's one call (the guide's Derived/Test/ToyasCard.lean, 'card_holds'). Laid BY PROGRAM, IN A SANDBOX (cutbox-door.mjs). By AI agents, Wed Nov 11 2026. No macro, syntax, notation, axiom, sorry.
-/
import Derived.Test.YteolfamhmfidbaaGreatDoorRows
import GoSem.ClaimSeven
namespace Go.Proofs.YteolfamhmfidbaaGreatDoor
namespace Rows

/-- THE TIED CARD OF 'basculelaw11.InferSound'. -/
def inferSoundCard : Claim7 := { stood := { row := inferSoundRow, standIns := [], harness := (true, "258c6af4665d85f12b26f88a0d9ea7eeaacb09def2af55fc6fa45f95f85d4788"), looks := true }, kinds := [], alts := [], laidByText := true, laidKinds := [.data, .data, .data], laidTests := true, laidLooks := .later }
def InferSoundCardSaid : Prop := Claim7.holds Tryz.pinned (.plain (OpenSpec.ofChange inferSoundSpec)) inferSoundCard

/-- THE TIED CARD OF 'basculelaw11.InferReplace'. -/
def inferReplaceCard : Claim7 := { stood := { row := inferReplaceRow, standIns := [], harness := (true, "258c6af4665d85f12b26f88a0d9ea7eeaacb09def2af55fc6fa45f95f85d4788"), looks := true }, kinds := [], alts := [], laidByText := true, laidKinds := [.data, .data, .data], laidTests := true, laidLooks := .later }
def InferReplaceCardSaid : Prop := Claim7.holds Tryz.pinned (.plain (OpenSpec.ofChange inferReplaceSpec)) inferReplaceCard

/-- THE SECOND FORM's CARD OF 'basculelaw11.InferSound'. -/
def inferSoundUptoCard : Claim7 := { stood := { row := inferSoundUptoRow, standIns := [], harness := (true, "258c6af4665d85f12b26f88a0d9ea7eeaacb09def2af55fc6fa45f95f85d4788"), looks := true }, kinds := [], alts := [], laidByText := true, laidKinds := [.data, .data, .data], laidTests := true, laidLooks := .later }
def InferSoundUptoCardSaid : Prop := Claim7.holds Tryz.pinned (.plain (OpenSpec.upto inferSoundSpec)) inferSoundUptoCard

/-- THE SECOND FORM's CARD OF 'basculelaw11.InferReplace'. -/
def inferReplaceUptoCard : Claim7 := { stood := { row := inferReplaceUptoRow, standIns := [], harness := (true, "258c6af4665d85f12b26f88a0d9ea7eeaacb09def2af55fc6fa45f95f85d4788"), looks := true }, kinds := [], alts := [], laidByText := true, laidKinds := [.data, .data, .data], laidTests := true, laidLooks := .later }
def InferReplaceUptoCardSaid : Prop := Claim7.holds Tryz.pinned (.plain (OpenSpec.upto inferReplaceSpec)) inferReplaceUptoCard
end Rows
end Go.Proofs.YteolfamhmfidbaaGreatDoor
