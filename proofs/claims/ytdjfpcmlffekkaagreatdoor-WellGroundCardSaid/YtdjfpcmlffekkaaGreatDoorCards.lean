/-
  DERIVED. GIVEN WITH THE SEED: THE CARDS: each row of YtdjfpcmlffekkaaGreatDoorRows.lean that lists a variable, with what it lists TIED to the program's text (the seventh form; the later family's looks); each row that meets fmt, with fmt's text TOLD by the authors' own Lean function (tested against real Go, not proved from fmt's source: count such statements apart). THE CARD IS WHAT COUNTS. Prove the row's statement (the work); the ties are given (YtdjfpcmlffekkaaGreatDoorTie.lean); close each card by the builder's one call (the guide's Derived/Test/ToyasCard.lean, 'card_holds'). Laid BY PROGRAM, IN A SANDBOX (cutbox-door.mjs). By AI agents, Wed Nov 11 2026. No macro, syntax, notation, axiom, sorry.
-/
import Derived.Test.YtdjfpcmlffekkaaGreatDoorRows
import GoSem.ClaimSeven
namespace Go.Proofs.YtdjfpcmlffekkaaGreatDoor
namespace Rows

/-- THE TIED CARD OF 'basculelaw14.WellLattice'. -/
def wellLatticeCard : Claim7 := { stood := { row := wellLatticeRow, standIns := [], harness := (true, "9e4fd29f24dceef4a69f71518c5f3ebf9190f03c1297189998b8217b4f1a46e7"), looks := true }, kinds := [], alts := [], laidByText := true, laidKinds := [.data, .data, .data], laidTests := true, laidLooks := .later }
def WellLatticeCardSaid : Prop := Claim7.holds Tryz.pinned (.plain (OpenSpec.ofChange wellLatticeSpec)) wellLatticeCard

/-- THE TIED CARD OF 'basculelaw14.WellGround'. -/
def wellGroundCard : Claim7 := { stood := { row := wellGroundRow, standIns := [], harness := (true, "9e4fd29f24dceef4a69f71518c5f3ebf9190f03c1297189998b8217b4f1a46e7"), looks := true }, kinds := [], alts := [], laidByText := true, laidKinds := [.data, .data, .data], laidTests := true, laidLooks := .later }
def WellGroundCardSaid : Prop := Claim7.holds Tryz.pinned (.plain (OpenSpec.ofChange wellGroundSpec)) wellGroundCard

/-- THE TIED CARD OF 'basculelaw14.WellEdges'. -/
def wellEdgesCard : Claim7 := { stood := { row := wellEdgesRow, standIns := [], harness := (true, "9e4fd29f24dceef4a69f71518c5f3ebf9190f03c1297189998b8217b4f1a46e7"), looks := true }, kinds := [], alts := [], laidByText := true, laidKinds := [.data, .data, .data], laidTests := true, laidLooks := .later }
def WellEdgesCardSaid : Prop := Claim7.holds Tryz.pinned (.plain (OpenSpec.ofChange wellEdgesSpec)) wellEdgesCard

/-- THE SECOND FORM's CARD OF 'basculelaw14.WellLattice'. -/
def wellLatticeUptoCard : Claim7 := { stood := { row := wellLatticeUptoRow, standIns := [], harness := (true, "9e4fd29f24dceef4a69f71518c5f3ebf9190f03c1297189998b8217b4f1a46e7"), looks := true }, kinds := [], alts := [], laidByText := true, laidKinds := [.data, .data, .data], laidTests := true, laidLooks := .later }
def WellLatticeUptoCardSaid : Prop := Claim7.holds Tryz.pinned (.plain (OpenSpec.upto wellLatticeSpec)) wellLatticeUptoCard

/-- THE SECOND FORM's CARD OF 'basculelaw14.WellGround'. -/
def wellGroundUptoCard : Claim7 := { stood := { row := wellGroundUptoRow, standIns := [], harness := (true, "9e4fd29f24dceef4a69f71518c5f3ebf9190f03c1297189998b8217b4f1a46e7"), looks := true }, kinds := [], alts := [], laidByText := true, laidKinds := [.data, .data, .data], laidTests := true, laidLooks := .later }
def WellGroundUptoCardSaid : Prop := Claim7.holds Tryz.pinned (.plain (OpenSpec.upto wellGroundSpec)) wellGroundUptoCard

/-- THE SECOND FORM's CARD OF 'basculelaw14.WellEdges'. -/
def wellEdgesUptoCard : Claim7 := { stood := { row := wellEdgesUptoRow, standIns := [], harness := (true, "9e4fd29f24dceef4a69f71518c5f3ebf9190f03c1297189998b8217b4f1a46e7"), looks := true }, kinds := [], alts := [], laidByText := true, laidKinds := [.data, .data, .data], laidTests := true, laidLooks := .later }
def WellEdgesUptoCardSaid : Prop := Claim7.holds Tryz.pinned (.plain (OpenSpec.upto wellEdgesSpec)) wellEdgesUptoCard
end Rows
end Go.Proofs.YtdjfpcmlffekkaaGreatDoor
