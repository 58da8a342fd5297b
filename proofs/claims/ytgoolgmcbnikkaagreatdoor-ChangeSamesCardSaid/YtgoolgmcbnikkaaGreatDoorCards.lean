/-
  DERIVED. GIVEN WITH THE SEED: THE CARDS: each row of YtgoolgmcbnikkaaGreatDoorRows.lean that lists a variable, with what it lists TIED to the program's text (the seventh form; the later family's looks); each row that meets fmt, with fmt's text TOLD by the authors' own Lean function (tested against real Go, not proved from fmt's source: count such statements apart). THE CARD IS WHAT COUNTS. Prove the row's statement (the work); the ties are given (YtgoolgmcbnikkaaGreatDoorTie.lean); close each card by the builder's one call (the guide's Derived/Test/ToyasCard.lean, 'card_holds'). Laid BY PROGRAM, IN A SANDBOX (cutbox-door.mjs). By AI agents, Wed Nov 11 2026. No macro, syntax, notation, axiom, sorry.
-/
import Derived.Test.YtgoolgmcbnikkaaGreatDoorRows
import GoSem.ClaimSeven
namespace Go.Proofs.YtgoolgmcbnikkaaGreatDoor
namespace Rows

/-- THE TIED CARD OF 'topiarylaw05.ChangeChecks'. -/
def changeChecksCard : Claim7 := { stood := { row := changeChecksRow, standIns := [], harness := (true, "d3cebe5a89096302a81485af331a1496a9cc474bf47094d7f58fd589610aff9d"), looks := true }, kinds := [], alts := [], laidByText := true, laidKinds := [.data, .data, .data, .data, .sentinel, .sentinel, .pinned], laidTests := true, laidLooks := .later }
def ChangeChecksCardSaid : Prop := Claim7.holds Tryz.pinned (.plain (OpenSpec.ofChange changeChecksSpec)) changeChecksCard

/-- THE TIED CARD OF 'topiarylaw05.ChangeTexts'. -/
def changeTextsCard : Claim7 := { stood := { row := changeTextsRow, standIns := [], harness := (true, "d3cebe5a89096302a81485af331a1496a9cc474bf47094d7f58fd589610aff9d"), looks := true }, kinds := [], alts := [], laidByText := true, laidKinds := [.data, .data, .data, .data, .sentinel, .sentinel, .pinned], laidTests := true, laidLooks := .later }
def ChangeTextsCardSaid : Prop := Claim7.holds Tryz.pinned (.plain (OpenSpec.ofChange changeTextsSpec)) changeTextsCard

/-- THE TIED CARD OF 'topiarylaw05.ChangeParses'. -/
def changeParsesCard : Claim7 := { stood := { row := changeParsesRow, standIns := [], harness := (true, "d3cebe5a89096302a81485af331a1496a9cc474bf47094d7f58fd589610aff9d"), looks := true }, kinds := [], alts := [], laidByText := true, laidKinds := [.data, .data, .data, .data, .sentinel, .sentinel, .pinned], laidTests := true, laidLooks := .later }
def ChangeParsesCardSaid : Prop := Claim7.holds Tryz.pinned (.plain (OpenSpec.ofChange changeParsesSpec)) changeParsesCard

/-- THE TIED CARD OF 'topiarylaw05.ChangeAhead'. -/
def changeAheadCard : Claim7 := { stood := { row := changeAheadRow, standIns := [], harness := (true, "d3cebe5a89096302a81485af331a1496a9cc474bf47094d7f58fd589610aff9d"), looks := true }, kinds := [], alts := [], laidByText := true, laidKinds := [.data, .data, .data, .data, .sentinel, .sentinel, .pinned], laidTests := true, laidLooks := .later }
def ChangeAheadCardSaid : Prop := Claim7.holds Tryz.pinned (.plain (OpenSpec.ofChange changeAheadSpec)) changeAheadCard

/-- THE TIED CARD OF 'topiarylaw05.ChangeSames'. -/
def changeSamesCard : Claim7 := { stood := { row := changeSamesRow, standIns := [], harness := (true, "d3cebe5a89096302a81485af331a1496a9cc474bf47094d7f58fd589610aff9d"), looks := true }, kinds := [], alts := [], laidByText := true, laidKinds := [.data, .data, .data, .data, .sentinel, .sentinel, .pinned], laidTests := true, laidLooks := .later }
def ChangeSamesCardSaid : Prop := Claim7.holds Tryz.pinned (.plain (OpenSpec.ofChange changeSamesSpec)) changeSamesCard

/-- THE SECOND FORM's CARD OF 'topiarylaw05.ChangeChecks'. -/
def changeChecksUptoCard : Claim7 := { stood := { row := changeChecksUptoRow, standIns := [], harness := (true, "d3cebe5a89096302a81485af331a1496a9cc474bf47094d7f58fd589610aff9d"), looks := true }, kinds := [], alts := [], laidByText := true, laidKinds := [.data, .data, .data, .data, .sentinel, .sentinel, .pinned], laidTests := true, laidLooks := .later }
def ChangeChecksUptoCardSaid : Prop := Claim7.holds Tryz.pinned (.plain (OpenSpec.upto changeChecksSpec)) changeChecksUptoCard

/-- THE SECOND FORM's CARD OF 'topiarylaw05.ChangeTexts'. -/
def changeTextsUptoCard : Claim7 := { stood := { row := changeTextsUptoRow, standIns := [], harness := (true, "d3cebe5a89096302a81485af331a1496a9cc474bf47094d7f58fd589610aff9d"), looks := true }, kinds := [], alts := [], laidByText := true, laidKinds := [.data, .data, .data, .data, .sentinel, .sentinel, .pinned], laidTests := true, laidLooks := .later }
def ChangeTextsUptoCardSaid : Prop := Claim7.holds Tryz.pinned (.plain (OpenSpec.upto changeTextsSpec)) changeTextsUptoCard

/-- THE SECOND FORM's CARD OF 'topiarylaw05.ChangeParses'. -/
def changeParsesUptoCard : Claim7 := { stood := { row := changeParsesUptoRow, standIns := [], harness := (true, "d3cebe5a89096302a81485af331a1496a9cc474bf47094d7f58fd589610aff9d"), looks := true }, kinds := [], alts := [], laidByText := true, laidKinds := [.data, .data, .data, .data, .sentinel, .sentinel, .pinned], laidTests := true, laidLooks := .later }
def ChangeParsesUptoCardSaid : Prop := Claim7.holds Tryz.pinned (.plain (OpenSpec.upto changeParsesSpec)) changeParsesUptoCard

/-- THE SECOND FORM's CARD OF 'topiarylaw05.ChangeAhead'. -/
def changeAheadUptoCard : Claim7 := { stood := { row := changeAheadUptoRow, standIns := [], harness := (true, "d3cebe5a89096302a81485af331a1496a9cc474bf47094d7f58fd589610aff9d"), looks := true }, kinds := [], alts := [], laidByText := true, laidKinds := [.data, .data, .data, .data, .sentinel, .sentinel, .pinned], laidTests := true, laidLooks := .later }
def ChangeAheadUptoCardSaid : Prop := Claim7.holds Tryz.pinned (.plain (OpenSpec.upto changeAheadSpec)) changeAheadUptoCard

/-- THE SECOND FORM's CARD OF 'topiarylaw05.ChangeSames'. -/
def changeSamesUptoCard : Claim7 := { stood := { row := changeSamesUptoRow, standIns := [], harness := (true, "d3cebe5a89096302a81485af331a1496a9cc474bf47094d7f58fd589610aff9d"), looks := true }, kinds := [], alts := [], laidByText := true, laidKinds := [.data, .data, .data, .data, .sentinel, .sentinel, .pinned], laidTests := true, laidLooks := .later }
def ChangeSamesUptoCardSaid : Prop := Claim7.holds Tryz.pinned (.plain (OpenSpec.upto changeSamesSpec)) changeSamesUptoCard
end Rows
end Go.Proofs.YtgoolgmcbnikkaaGreatDoor
