/-
  DERIVED. GIVEN WITH THE SEED: THE CARDS: each row of YtieciegfloldhaaDoorRows.lean that lists a variable, with what it lists TIED to the program's text (the seventh form; the later family's looks); each row that meets fmt, with fmt's text TOLD by the authors' own Lean function (tested against real Go, not proved from fmt's source: count such statements apart). THE CARD IS WHAT COUNTS. Prove the row's statement (the work); the ties are given (YtieciegfloldhaaDoorTie.lean); close each card by the builder's one call (the guide's Derived/Test/ToyasCard.lean, 'card_holds'). Laid BY PROGRAM, IN A SANDBOX (cutbox-door.mjs). By AI agents, Wed Nov 11 2026. No macro, syntax, notation, axiom, sorry.
-/
import Derived.Test.YtieciegfloldhaaDoorRows
import GoSem.ClaimSeven
namespace Go.Proofs.YtieciegfloldhaaDoor
namespace Rows

/-- THE TIED CARD OF 'basculelaw04.ValueRow'. -/
def valueRowCard : Claim7 := { stood := { row := valueRowRow, standIns := [], harness := (true, "7c636251583e8e048fba8209ae69da5d055b4bf172bdae390d332166619c6e63"), looks := false }, kinds := [], alts := [], laidByText := true, laidKinds := [.data, .data, .data], laidTests := true, laidLooks := .later }
def ValueRowCardSaid : Prop := Claim7.holds Tryd.pinned (.plain (OpenSpec.ofChange valueRowSpec)) valueRowCard

/-- THE TIED CARD OF 'basculelaw04.ValueTexts'. -/
def valueTextsCard : Claim7 := { stood := { row := valueTextsRow, standIns := [], harness := (true, "7c636251583e8e048fba8209ae69da5d055b4bf172bdae390d332166619c6e63"), looks := false }, kinds := [], alts := [], laidByText := true, laidKinds := [.data, .data, .data], laidTests := true, laidLooks := .later }
def ValueTextsCardSaid : Prop := Claim7.holds Tryd.pinned (.plain (OpenSpec.ofChange valueTextsSpec)) valueTextsCard

/-- THE TIED CARD OF 'basculelaw04.ValueInner'. -/
def valueInnerCard : Claim7 := { stood := { row := valueInnerRow, standIns := [], harness := (true, "7c636251583e8e048fba8209ae69da5d055b4bf172bdae390d332166619c6e63"), looks := false }, kinds := [], alts := [], laidByText := true, laidKinds := [.data, .data, .data], laidTests := true, laidLooks := .later }
def ValueInnerCardSaid : Prop := Claim7.holds Tryd.pinned (.plain (OpenSpec.ofChange valueInnerSpec)) valueInnerCard

/-- THE TIED CARD OF 'basculelaw04.ValueCanon'. -/
def valueCanonCard : Claim7 := { stood := { row := valueCanonRow, standIns := [], harness := (true, "7c636251583e8e048fba8209ae69da5d055b4bf172bdae390d332166619c6e63"), looks := false }, kinds := [], alts := [], laidByText := true, laidKinds := [.data, .data, .data], laidTests := true, laidLooks := .later }
def ValueCanonCardSaid : Prop := Claim7.holds Tryd.pinned (.plain (OpenSpec.ofChange valueCanonSpec)) valueCanonCard

/-- THE SECOND FORM's CARD OF 'basculelaw04.ValueRow'. -/
def valueRowUptoCard : Claim7 := { stood := { row := valueRowUptoRow, standIns := [], harness := (true, "7c636251583e8e048fba8209ae69da5d055b4bf172bdae390d332166619c6e63"), looks := false }, kinds := [], alts := [], laidByText := true, laidKinds := [.data, .data, .data], laidTests := true, laidLooks := .later }
def ValueRowUptoCardSaid : Prop := Claim7.holds Tryd.pinned (.plain (OpenSpec.upto valueRowSpec)) valueRowUptoCard

/-- THE SECOND FORM's CARD OF 'basculelaw04.ValueTexts'. -/
def valueTextsUptoCard : Claim7 := { stood := { row := valueTextsUptoRow, standIns := [], harness := (true, "7c636251583e8e048fba8209ae69da5d055b4bf172bdae390d332166619c6e63"), looks := false }, kinds := [], alts := [], laidByText := true, laidKinds := [.data, .data, .data], laidTests := true, laidLooks := .later }
def ValueTextsUptoCardSaid : Prop := Claim7.holds Tryd.pinned (.plain (OpenSpec.upto valueTextsSpec)) valueTextsUptoCard

/-- THE SECOND FORM's CARD OF 'basculelaw04.ValueInner'. -/
def valueInnerUptoCard : Claim7 := { stood := { row := valueInnerUptoRow, standIns := [], harness := (true, "7c636251583e8e048fba8209ae69da5d055b4bf172bdae390d332166619c6e63"), looks := false }, kinds := [], alts := [], laidByText := true, laidKinds := [.data, .data, .data], laidTests := true, laidLooks := .later }
def ValueInnerUptoCardSaid : Prop := Claim7.holds Tryd.pinned (.plain (OpenSpec.upto valueInnerSpec)) valueInnerUptoCard

/-- THE SECOND FORM's CARD OF 'basculelaw04.ValueCanon'. -/
def valueCanonUptoCard : Claim7 := { stood := { row := valueCanonUptoRow, standIns := [], harness := (true, "7c636251583e8e048fba8209ae69da5d055b4bf172bdae390d332166619c6e63"), looks := false }, kinds := [], alts := [], laidByText := true, laidKinds := [.data, .data, .data], laidTests := true, laidLooks := .later }
def ValueCanonUptoCardSaid : Prop := Claim7.holds Tryd.pinned (.plain (OpenSpec.upto valueCanonSpec)) valueCanonUptoCard
end Rows
end Go.Proofs.YtieciegfloldhaaDoor
