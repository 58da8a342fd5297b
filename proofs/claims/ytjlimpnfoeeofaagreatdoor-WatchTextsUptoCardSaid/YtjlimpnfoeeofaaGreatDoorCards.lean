/-
  DERIVED. GIVEN WITH THE SEED: THE CARDS: each row of YtjlimpnfoeeofaaGreatDoorRows.lean that lists a variable, with what it lists TIED to the program's text (the seventh form; the later family's looks); each row that meets fmt, with fmt's text TOLD by the authors' own Lean function (tested against real Go, not proved from fmt's source: count such statements apart). THE CARD IS WHAT COUNTS. Prove the row's statement (the work); the ties are given (YtjlimpnfoeeofaaGreatDoorTie.lean); close each card by the builder's one call (the guide's Derived/Test/ToyasCard.lean, 'card_holds'). Laid BY PROGRAM, IN A SANDBOX (cutbox-door.mjs). By AI agents, Wed Nov 11 2026. No macro, syntax, notation, axiom, sorry.
-/
import Derived.Test.YtjlimpnfoeeofaaGreatDoorRows
import GoSem.ClaimSeven
namespace Go.Proofs.YtjlimpnfoeeofaaGreatDoor
namespace Rows

/-- THE TIED CARD OF 'topiarylaw24.WatchTexts'. -/
def watchTextsCard : Claim7 := { stood := { row := watchTextsRow, standIns := [], harness := (true, "8d53690db81035673940cb80b9f0ede0072ef438ae5a01f9b2488523ea34f109"), looks := false }, kinds := [], alts := [], laidByText := true, laidKinds := [.data, .data, .data], laidTests := true, laidLooks := .later }
def WatchTextsCardSaid : Prop := Claim7.holds Tryz.pinned (.plain (OpenSpec.ofChange watchTextsSpec)) watchTextsCard

/-- THE SECOND FORM's CARD OF 'topiarylaw24.WatchTexts'. -/
def watchTextsUptoCard : Claim7 := { stood := { row := watchTextsUptoRow, standIns := [], harness := (true, "8d53690db81035673940cb80b9f0ede0072ef438ae5a01f9b2488523ea34f109"), looks := false }, kinds := [], alts := [], laidByText := true, laidKinds := [.data, .data, .data], laidTests := true, laidLooks := .later }
def WatchTextsUptoCardSaid : Prop := Claim7.holds Tryz.pinned (.plain (OpenSpec.upto watchTextsSpec)) watchTextsUptoCard
end Rows
end Go.Proofs.YtjlimpnfoeeofaaGreatDoor
