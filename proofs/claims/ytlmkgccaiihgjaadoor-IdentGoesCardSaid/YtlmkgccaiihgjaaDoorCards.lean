/-
  DERIVED. GIVEN WITH THE SEED: THE CARDS: each row of YtlmkgccaiihgjaaDoorRows.lean that lists a variable, with what it lists TIED to the program's text (the seventh form; the later family's looks); each row that meets fmt, with fmt's text TOLD by the authors' own Lean function (tested against real Go, not proved from fmt's source: count such statements apart). THE CARD IS WHAT COUNTS. Prove the row's statement (the work); the ties are given (YtlmkgccaiihgjaaDoorTie.lean); close each card by the builder's one call (the guide's Derived/Test/ToyasCard.lean, 'card_holds'). Laid BY PROGRAM, IN A SANDBOX (cutbox-door.mjs). By AI agents, Wed Nov 11 2026. No macro, syntax, notation, axiom, sorry.
-/
import Derived.Test.YtlmkgccaiihgjaaDoorRows
import GoSem.ClaimSeven
namespace Go.Proofs.YtlmkgccaiihgjaaDoor
namespace Rows

/-- THE TIED CARD OF 'topiarylaw01.IdentRights'. -/
def identRightsCard : Claim7 := { stood := { row := identRightsRow, standIns := [], harness := (true, "2a54a93c9394ba6c35c29cb964797516d89dbb2882163315add3e58b59233140"), looks := false }, kinds := [], alts := [], laidByText := true, laidKinds := [.data, .data, .data], laidTests := true, laidLooks := .later }
def IdentRightsCardSaid : Prop := Claim7.holds Tryd.pinned (.plain (OpenSpec.ofChange identRightsSpec)) identRightsCard

/-- THE TIED CARD OF 'topiarylaw01.IdentNexts'. -/
def identNextsCard : Claim7 := { stood := { row := identNextsRow, standIns := [], harness := (true, "2a54a93c9394ba6c35c29cb964797516d89dbb2882163315add3e58b59233140"), looks := false }, kinds := [], alts := [], laidByText := true, laidKinds := [.data, .data, .data], laidTests := true, laidLooks := .later }
def IdentNextsCardSaid : Prop := Claim7.holds Tryd.pinned (.plain (OpenSpec.ofChange identNextsSpec)) identNextsCard

/-- THE TIED CARD OF 'topiarylaw01.IdentCompares'. -/
def identComparesCard : Claim7 := { stood := { row := identComparesRow, standIns := [], harness := (true, "2a54a93c9394ba6c35c29cb964797516d89dbb2882163315add3e58b59233140"), looks := false }, kinds := [], alts := [], laidByText := true, laidKinds := [.data, .data, .data], laidTests := true, laidLooks := .later }
def IdentComparesCardSaid : Prop := Claim7.holds Tryd.pinned (.plain (OpenSpec.ofChange identComparesSpec)) identComparesCard

/-- THE TIED CARD OF 'topiarylaw01.IdentOrder'. -/
def identOrderCard : Claim7 := { stood := { row := identOrderRow, standIns := [], harness := (true, "2a54a93c9394ba6c35c29cb964797516d89dbb2882163315add3e58b59233140"), looks := false }, kinds := [], alts := [], laidByText := true, laidKinds := [.data, .data, .data], laidTests := true, laidLooks := .later }
def IdentOrderCardSaid : Prop := Claim7.holds Tryd.pinned (.plain (OpenSpec.ofChange identOrderSpec)) identOrderCard

/-- THE TIED CARD OF 'topiarylaw01.IdentAhead'. -/
def identAheadCard : Claim7 := { stood := { row := identAheadRow, standIns := [], harness := (true, "2a54a93c9394ba6c35c29cb964797516d89dbb2882163315add3e58b59233140"), looks := false }, kinds := [], alts := [], laidByText := true, laidKinds := [.data, .data, .data], laidTests := true, laidLooks := .later }
def IdentAheadCardSaid : Prop := Claim7.holds Tryd.pinned (.plain (OpenSpec.ofChange identAheadSpec)) identAheadCard

/-- THE TIED CARD OF 'topiarylaw01.IdentTexts'. -/
def identTextsCard : Claim7 := { stood := { row := identTextsRow, standIns := [], harness := (true, "2a54a93c9394ba6c35c29cb964797516d89dbb2882163315add3e58b59233140"), looks := false }, kinds := [], alts := [], laidByText := true, laidKinds := [.data, .data, .data], laidTests := true, laidLooks := .later }
def IdentTextsCardSaid : Prop := Claim7.holds Tryd.pinned (.plain (OpenSpec.ofChange identTextsSpec)) identTextsCard

/-- THE TIED CARD OF 'topiarylaw01.IdentBack'. -/
def identBackCard : Claim7 := { stood := { row := identBackRow, standIns := [], harness := (true, "2a54a93c9394ba6c35c29cb964797516d89dbb2882163315add3e58b59233140"), looks := false }, kinds := [], alts := [], laidByText := true, laidKinds := [.data, .data, .data], laidTests := true, laidLooks := .later }
def IdentBackCardSaid : Prop := Claim7.holds Tryd.pinned (.plain (OpenSpec.ofChange identBackSpec)) identBackCard

/-- THE TIED CARD OF 'topiarylaw01.IdentGoes'. -/
def identGoesCard : Claim7 := { stood := { row := identGoesRow, standIns := [], harness := (true, "2a54a93c9394ba6c35c29cb964797516d89dbb2882163315add3e58b59233140"), looks := false }, kinds := [], alts := [], laidByText := true, laidKinds := [.data, .data, .data], laidTests := true, laidLooks := .later }
def IdentGoesCardSaid : Prop := Claim7.holds Tryd.pinned (.plain (OpenSpec.ofChange identGoesSpec)) identGoesCard

/-- THE TIED CARD OF 'topiarylaw01.IdentSorts'. -/
def identSortsCard : Claim7 := { stood := { row := identSortsRow, standIns := [], harness := (true, "2a54a93c9394ba6c35c29cb964797516d89dbb2882163315add3e58b59233140"), looks := false }, kinds := [], alts := [], laidByText := true, laidKinds := [.data, .data, .data], laidTests := true, laidLooks := .later }
def IdentSortsCardSaid : Prop := Claim7.holds Tryd.pinned (.plain (OpenSpec.ofChange identSortsSpec)) identSortsCard

/-- THE SECOND FORM's CARD OF 'topiarylaw01.IdentRights'. -/
def identRightsUptoCard : Claim7 := { stood := { row := identRightsUptoRow, standIns := [], harness := (true, "2a54a93c9394ba6c35c29cb964797516d89dbb2882163315add3e58b59233140"), looks := false }, kinds := [], alts := [], laidByText := true, laidKinds := [.data, .data, .data], laidTests := true, laidLooks := .later }
def IdentRightsUptoCardSaid : Prop := Claim7.holds Tryd.pinned (.plain (OpenSpec.upto identRightsSpec)) identRightsUptoCard

/-- THE SECOND FORM's CARD OF 'topiarylaw01.IdentNexts'. -/
def identNextsUptoCard : Claim7 := { stood := { row := identNextsUptoRow, standIns := [], harness := (true, "2a54a93c9394ba6c35c29cb964797516d89dbb2882163315add3e58b59233140"), looks := false }, kinds := [], alts := [], laidByText := true, laidKinds := [.data, .data, .data], laidTests := true, laidLooks := .later }
def IdentNextsUptoCardSaid : Prop := Claim7.holds Tryd.pinned (.plain (OpenSpec.upto identNextsSpec)) identNextsUptoCard

/-- THE SECOND FORM's CARD OF 'topiarylaw01.IdentCompares'. -/
def identComparesUptoCard : Claim7 := { stood := { row := identComparesUptoRow, standIns := [], harness := (true, "2a54a93c9394ba6c35c29cb964797516d89dbb2882163315add3e58b59233140"), looks := false }, kinds := [], alts := [], laidByText := true, laidKinds := [.data, .data, .data], laidTests := true, laidLooks := .later }
def IdentComparesUptoCardSaid : Prop := Claim7.holds Tryd.pinned (.plain (OpenSpec.upto identComparesSpec)) identComparesUptoCard

/-- THE SECOND FORM's CARD OF 'topiarylaw01.IdentOrder'. -/
def identOrderUptoCard : Claim7 := { stood := { row := identOrderUptoRow, standIns := [], harness := (true, "2a54a93c9394ba6c35c29cb964797516d89dbb2882163315add3e58b59233140"), looks := false }, kinds := [], alts := [], laidByText := true, laidKinds := [.data, .data, .data], laidTests := true, laidLooks := .later }
def IdentOrderUptoCardSaid : Prop := Claim7.holds Tryd.pinned (.plain (OpenSpec.upto identOrderSpec)) identOrderUptoCard

/-- THE SECOND FORM's CARD OF 'topiarylaw01.IdentAhead'. -/
def identAheadUptoCard : Claim7 := { stood := { row := identAheadUptoRow, standIns := [], harness := (true, "2a54a93c9394ba6c35c29cb964797516d89dbb2882163315add3e58b59233140"), looks := false }, kinds := [], alts := [], laidByText := true, laidKinds := [.data, .data, .data], laidTests := true, laidLooks := .later }
def IdentAheadUptoCardSaid : Prop := Claim7.holds Tryd.pinned (.plain (OpenSpec.upto identAheadSpec)) identAheadUptoCard

/-- THE SECOND FORM's CARD OF 'topiarylaw01.IdentTexts'. -/
def identTextsUptoCard : Claim7 := { stood := { row := identTextsUptoRow, standIns := [], harness := (true, "2a54a93c9394ba6c35c29cb964797516d89dbb2882163315add3e58b59233140"), looks := false }, kinds := [], alts := [], laidByText := true, laidKinds := [.data, .data, .data], laidTests := true, laidLooks := .later }
def IdentTextsUptoCardSaid : Prop := Claim7.holds Tryd.pinned (.plain (OpenSpec.upto identTextsSpec)) identTextsUptoCard

/-- THE SECOND FORM's CARD OF 'topiarylaw01.IdentBack'. -/
def identBackUptoCard : Claim7 := { stood := { row := identBackUptoRow, standIns := [], harness := (true, "2a54a93c9394ba6c35c29cb964797516d89dbb2882163315add3e58b59233140"), looks := false }, kinds := [], alts := [], laidByText := true, laidKinds := [.data, .data, .data], laidTests := true, laidLooks := .later }
def IdentBackUptoCardSaid : Prop := Claim7.holds Tryd.pinned (.plain (OpenSpec.upto identBackSpec)) identBackUptoCard

/-- THE SECOND FORM's CARD OF 'topiarylaw01.IdentGoes'. -/
def identGoesUptoCard : Claim7 := { stood := { row := identGoesUptoRow, standIns := [], harness := (true, "2a54a93c9394ba6c35c29cb964797516d89dbb2882163315add3e58b59233140"), looks := false }, kinds := [], alts := [], laidByText := true, laidKinds := [.data, .data, .data], laidTests := true, laidLooks := .later }
def IdentGoesUptoCardSaid : Prop := Claim7.holds Tryd.pinned (.plain (OpenSpec.upto identGoesSpec)) identGoesUptoCard

/-- THE SECOND FORM's CARD OF 'topiarylaw01.IdentSorts'. -/
def identSortsUptoCard : Claim7 := { stood := { row := identSortsUptoRow, standIns := [], harness := (true, "2a54a93c9394ba6c35c29cb964797516d89dbb2882163315add3e58b59233140"), looks := false }, kinds := [], alts := [], laidByText := true, laidKinds := [.data, .data, .data], laidTests := true, laidLooks := .later }
def IdentSortsUptoCardSaid : Prop := Claim7.holds Tryd.pinned (.plain (OpenSpec.upto identSortsSpec)) identSortsUptoCard
end Rows
end Go.Proofs.YtlmkgccaiihgjaaDoor
