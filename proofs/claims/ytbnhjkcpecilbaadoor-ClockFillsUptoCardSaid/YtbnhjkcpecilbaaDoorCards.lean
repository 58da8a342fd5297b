/-
  DERIVED. GIVEN WITH THE SEED: THE CARDS: each row of YtbnhjkcpecilbaaDoorRows.lean that lists a variable, with what it lists TIED to the program's text (the seventh form; the later family's looks); each row that meets fmt, with fmt's text TOLD by the authors' own Lean function (tested against real Go, not proved from fmt's source: count such statements apart). THE CARD IS WHAT COUNTS. Prove the row's statement (the work); the ties are given (YtbnhjkcpecilbaaDoorTie.lean); close each card by the builder's one call (the guide's Derived/Test/ToyasCard.lean, 'card_holds'). Laid BY PROGRAM, IN A SANDBOX (cutbox-door.mjs). By AI agents, Wed Nov 11 2026. No macro, syntax, notation, axiom, sorry.
-/
import Derived.Test.YtbnhjkcpecilbaaDoorRows
import GoSem.ClaimSeven
namespace Go.Proofs.YtbnhjkcpecilbaaDoor
namespace Rows

/-- THE TIED CARD OF 'topiarylaw02.ClockTexts'. -/
def clockTextsCard : Claim7 := { stood := { row := clockTextsRow, standIns := [], harness := (true, "749a2ae83be5107a8b77612c0fc820d1e6be1e53905f98eae8b29b40d88c7e4f"), looks := false }, kinds := [], alts := [], laidByText := true, laidKinds := [.data, .data, .data, .data, .pinned], laidTests := true, laidLooks := .later }
def ClockTextsCardSaid : Prop := Claim7.holds Tryd.pinned (.plain (OpenSpec.ofChange clockTextsSpec)) clockTextsCard

/-- THE TIED CARD OF 'topiarylaw02.ClockFills'. -/
def clockFillsCard : Claim7 := { stood := { row := clockFillsRow, standIns := [], harness := (true, "749a2ae83be5107a8b77612c0fc820d1e6be1e53905f98eae8b29b40d88c7e4f"), looks := false }, kinds := [], alts := [], laidByText := true, laidKinds := [.data, .data, .data, .data, .pinned], laidTests := true, laidLooks := .later }
def ClockFillsCardSaid : Prop := Claim7.holds Tryd.pinned (.plain (OpenSpec.ofChange clockFillsSpec)) clockFillsCard

/-- THE SECOND FORM's CARD OF 'topiarylaw02.ClockTexts'. -/
def clockTextsUptoCard : Claim7 := { stood := { row := clockTextsUptoRow, standIns := [], harness := (true, "749a2ae83be5107a8b77612c0fc820d1e6be1e53905f98eae8b29b40d88c7e4f"), looks := false }, kinds := [], alts := [], laidByText := true, laidKinds := [.data, .data, .data, .data, .pinned], laidTests := true, laidLooks := .later }
def ClockTextsUptoCardSaid : Prop := Claim7.holds Tryd.pinned (.plain (OpenSpec.upto clockTextsSpec)) clockTextsUptoCard

/-- THE SECOND FORM's CARD OF 'topiarylaw02.ClockFills'. -/
def clockFillsUptoCard : Claim7 := { stood := { row := clockFillsUptoRow, standIns := [], harness := (true, "749a2ae83be5107a8b77612c0fc820d1e6be1e53905f98eae8b29b40d88c7e4f"), looks := false }, kinds := [], alts := [], laidByText := true, laidKinds := [.data, .data, .data, .data, .pinned], laidTests := true, laidLooks := .later }
def ClockFillsUptoCardSaid : Prop := Claim7.holds Tryd.pinned (.plain (OpenSpec.upto clockFillsSpec)) clockFillsUptoCard
end Rows
end Go.Proofs.YtbnhjkcpecilbaaDoor
