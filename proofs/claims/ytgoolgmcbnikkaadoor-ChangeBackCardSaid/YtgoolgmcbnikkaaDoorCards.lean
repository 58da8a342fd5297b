/-
  DERIVED. GIVEN WITH THE SEED: THE CARDS: each row of YtgoolgmcbnikkaaDoorRows.lean that lists a variable, with what it lists TIED to the program's text (the seventh form; the later family's looks); each row that meets fmt, with fmt's text TOLD by the authors' own Lean function (tested against real Go, not proved from fmt's source: count such statements apart). THE CARD IS WHAT COUNTS. Prove the row's statement (the work); the ties are given (YtgoolgmcbnikkaaDoorTie.lean); close each card by the builder's one call (the guide's Derived/Test/ToyasCard.lean, 'card_holds'). Laid BY PROGRAM, IN A SANDBOX (cutbox-door.mjs). By AI agents, Wed Nov 11 2026. No macro, syntax, notation, axiom, sorry.
-/
import Derived.Test.YtgoolgmcbnikkaaDoorRows
import GoSem.ClaimSeven
namespace Go.Proofs.YtgoolgmcbnikkaaDoor
namespace Rows

/-- THE TIED CARD OF 'topiarylaw05.ChangeQuotes'. -/
def changeQuotesCard : Claim7 := { stood := { row := changeQuotesRow, standIns := [], harness := (true, "53681bb51b5b4c54516a4c60d06796d3bd7a505bda50a8da353b0abadd764600"), looks := true }, kinds := [], alts := [], laidByText := true, laidKinds := [.data, .data, .data, .data, .sentinel, .sentinel, .pinned], laidTests := true, laidLooks := .later }
def ChangeQuotesCardSaid : Prop := Claim7.holds Tryd.pinned (.plain (OpenSpec.ofChange changeQuotesSpec)) changeQuotesCard

/-- THE TIED CARD OF 'topiarylaw05.ChangeBack'. -/
def changeBackCard : Claim7 := { stood := { row := changeBackRow, standIns := [], harness := (true, "53681bb51b5b4c54516a4c60d06796d3bd7a505bda50a8da353b0abadd764600"), looks := true }, kinds := [], alts := [], laidByText := true, laidKinds := [.data, .data, .data, .data, .sentinel, .sentinel, .pinned], laidTests := true, laidLooks := .later }
def ChangeBackCardSaid : Prop := Claim7.holds Tryd.pinned (.plain (OpenSpec.ofChange changeBackSpec)) changeBackCard

/-- THE TIED CARD OF 'topiarylaw05.ChangeCopies'. -/
def changeCopiesCard : Claim7 := { stood := { row := changeCopiesRow, standIns := [], harness := (true, "53681bb51b5b4c54516a4c60d06796d3bd7a505bda50a8da353b0abadd764600"), looks := true }, kinds := [], alts := [], laidByText := true, laidKinds := [.data, .data, .data, .data, .sentinel, .sentinel, .pinned], laidTests := true, laidLooks := .later }
def ChangeCopiesCardSaid : Prop := Claim7.holds Tryd.pinned (.plain (OpenSpec.ofChange changeCopiesSpec)) changeCopiesCard

/-- THE SECOND FORM's CARD OF 'topiarylaw05.ChangeQuotes'. -/
def changeQuotesUptoCard : Claim7 := { stood := { row := changeQuotesUptoRow, standIns := [], harness := (true, "53681bb51b5b4c54516a4c60d06796d3bd7a505bda50a8da353b0abadd764600"), looks := true }, kinds := [], alts := [], laidByText := true, laidKinds := [.data, .data, .data, .data, .sentinel, .sentinel, .pinned], laidTests := true, laidLooks := .later }
def ChangeQuotesUptoCardSaid : Prop := Claim7.holds Tryd.pinned (.plain (OpenSpec.upto changeQuotesSpec)) changeQuotesUptoCard

/-- THE SECOND FORM's CARD OF 'topiarylaw05.ChangeBack'. -/
def changeBackUptoCard : Claim7 := { stood := { row := changeBackUptoRow, standIns := [], harness := (true, "53681bb51b5b4c54516a4c60d06796d3bd7a505bda50a8da353b0abadd764600"), looks := true }, kinds := [], alts := [], laidByText := true, laidKinds := [.data, .data, .data, .data, .sentinel, .sentinel, .pinned], laidTests := true, laidLooks := .later }
def ChangeBackUptoCardSaid : Prop := Claim7.holds Tryd.pinned (.plain (OpenSpec.upto changeBackSpec)) changeBackUptoCard

/-- THE SECOND FORM's CARD OF 'topiarylaw05.ChangeCopies'. -/
def changeCopiesUptoCard : Claim7 := { stood := { row := changeCopiesUptoRow, standIns := [], harness := (true, "53681bb51b5b4c54516a4c60d06796d3bd7a505bda50a8da353b0abadd764600"), looks := true }, kinds := [], alts := [], laidByText := true, laidKinds := [.data, .data, .data, .data, .sentinel, .sentinel, .pinned], laidTests := true, laidLooks := .later }
def ChangeCopiesUptoCardSaid : Prop := Claim7.holds Tryd.pinned (.plain (OpenSpec.upto changeCopiesSpec)) changeCopiesUptoCard
end Rows
end Go.Proofs.YtgoolgmcbnikkaaDoor
