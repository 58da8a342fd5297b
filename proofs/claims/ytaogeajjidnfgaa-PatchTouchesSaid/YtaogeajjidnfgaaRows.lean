/-
  NARROWER THAN 'FOR EVERY INPUT', by the rows' own cells (each row's printed sentence says how): PatchApplies: loops · PatchRight: loops · PatchJoins: loops · PatchKeeps: loops.
  DERIVED. THE GIVEN ROWS OF THIS SEAT. 6 by the template 'for every input the law returns true; each argument reads behind the call as it read before'; 0 by the template 'total and deterministic' (their statements: YtaogeajjidnfgaaTotals.lean).
  GIVEN WITH THE SEED: the statements are not yours to turn. If you find one false, say at which input.
  Laid BY PROGRAM, IN A SANDBOX (cutbox-rows.mjs): the forced cells as the released guide's own fill.sh prints them over the translation 8542bfa9c421274e… (all of the seat's roots in one cut). By AI agents, Wed Nov 11 2026. No macro, syntax, notation, axiom, sorry.
-/
import Derived.Test.YtaogeajjidnfgaaChecked
import GoSem.Claim
import GoSem.ClaimJoined
import GoSem.ClaimMapViews
import Derived.JoinedTies
import Derived.KernelRfl
namespace Go.Proofs.Ytaogeajjidnfgaa
/- THE CELL 'sum', in the pinned program and in every row, IS THE sha256 OF THE DUMP (.gsa) THAT YtaogeajjidnfgaaProg.lean LOADS. Nothing in Lean hashes anything: it is a label: what it is worth is what the hold of that sum in a sandbox is worth. -/
noncomputable def Try.pinned : Pinned := { name := "ytaogeajjidnfgaa", sum := "8542bfa9c421274e6470b111352b8a31c577aea9245e0fd275eba6e915f0dcf8", checked := Try.checked }
namespace Rows
def none {H : Type} : Left H := { results := [], args := [] }

/-- 'topiarylaw17.PatchChecks': WHATEVER THE INPUT: true; the input reads as it did. -/
def patchChecksSpec : ChangeSpec := { name := "patchChecks", fn := fun _ => fun
  | [d] => { results := [.lit (.bool true)], args := [d] }
  | _ => none }
def patchChecksRow : OpenClaim := { program := "ytaogeajjidnfgaa", sum := "8542bfa9c421274e6470b111352b8a31c577aea9245e0fd275eba6e915f0dcf8", func := "topiary/topiarylaw17.PatchChecks", spec := "patchChecks", inPlace := ["slices.overlaps[*topiary/patch.node]", "internal/bytealg.abigen_runtime_cmpstring", "slices.overlaps[topiary/api.Attr]"], unfollowed := true, recurses := true, plainKeys := false, apart := false }
def PatchChecksSaid : Prop := patchChecksRow.holds Try.pinned (OpenSpec.ofChange patchChecksSpec)

/-- ITS FALSE NEIGHBOUR: 'it returns false'. Refute it at one input. -/
def patchChecksWrong : ChangeSpec := { name := "patchChecks", fn := fun _ => fun
  | [d] => { results := [.lit (.bool false)], args := [d] }
  | _ => none }
def PatchChecksWrongFalsely : Prop := patchChecksRow.holds Try.pinned (OpenSpec.ofChange patchChecksWrong)

/-- 'topiarylaw17.PatchApplies': WHATEVER THE INPUT: true; the input reads as it did. -/
def patchAppliesSpec : ChangeSpec := { name := "patchApplies", fn := fun _ => fun
  | [d1, d2] => { results := [.lit (.bool true)], args := [d1, d2] }
  | _ => none }
def patchAppliesRow : OpenClaim := { program := "ytaogeajjidnfgaa", sum := "8542bfa9c421274e6470b111352b8a31c577aea9245e0fd275eba6e915f0dcf8", func := "topiary/topiarylaw17.PatchApplies", spec := "patchApplies", inPlace := ["slices.overlaps[*topiary/patch.node]", "internal/bytealg.abigen_runtime_cmpstring", "slices.overlaps[topiary/api.Attr]"], unfollowed := true, recurses := true, loops := true, plainKeys := false, apart := false }
def PatchAppliesSaid : Prop := patchAppliesRow.holds Try.pinned (OpenSpec.ofChange patchAppliesSpec)

/-- ITS FALSE NEIGHBOUR: 'it returns false'. Refute it at one input. -/
def patchAppliesWrong : ChangeSpec := { name := "patchApplies", fn := fun _ => fun
  | [d1, d2] => { results := [.lit (.bool false)], args := [d1, d2] }
  | _ => none }
def PatchAppliesWrongFalsely : Prop := patchAppliesRow.holds Try.pinned (OpenSpec.ofChange patchAppliesWrong)

/-- 'topiarylaw17.PatchRight': WHATEVER THE INPUT: true; the input reads as it did. -/
def patchRightSpec : ChangeSpec := { name := "patchRight", fn := fun _ => fun
  | [d1, d2] => { results := [.lit (.bool true)], args := [d1, d2] }
  | _ => none }
def patchRightRow : OpenClaim := { program := "ytaogeajjidnfgaa", sum := "8542bfa9c421274e6470b111352b8a31c577aea9245e0fd275eba6e915f0dcf8", func := "topiary/topiarylaw17.PatchRight", spec := "patchRight", inPlace := ["slices.overlaps[*topiary/patch.node]", "internal/bytealg.abigen_runtime_cmpstring", "slices.overlaps[topiary/api.Attr]"], unfollowed := true, recurses := true, loops := true, plainKeys := false, apart := false }
def PatchRightSaid : Prop := patchRightRow.holds Try.pinned (OpenSpec.ofChange patchRightSpec)

/-- ITS FALSE NEIGHBOUR: 'it returns false'. Refute it at one input. -/
def patchRightWrong : ChangeSpec := { name := "patchRight", fn := fun _ => fun
  | [d1, d2] => { results := [.lit (.bool false)], args := [d1, d2] }
  | _ => none }
def PatchRightWrongFalsely : Prop := patchRightRow.holds Try.pinned (OpenSpec.ofChange patchRightWrong)

/-- 'topiarylaw17.PatchJoins': WHATEVER THE INPUT: true; the input reads as it did. -/
def patchJoinsSpec : ChangeSpec := { name := "patchJoins", fn := fun _ => fun
  | [d1, d2, d3] => { results := [.lit (.bool true)], args := [d1, d2, d3] }
  | _ => none }
def patchJoinsRow : OpenClaim := { program := "ytaogeajjidnfgaa", sum := "8542bfa9c421274e6470b111352b8a31c577aea9245e0fd275eba6e915f0dcf8", func := "topiary/topiarylaw17.PatchJoins", spec := "patchJoins", inPlace := ["slices.overlaps[*topiary/patch.node]", "internal/bytealg.abigen_runtime_cmpstring", "slices.overlaps[topiary/api.Attr]"], unfollowed := true, recurses := true, loops := true, plainKeys := false, apart := false }
def PatchJoinsSaid : Prop := patchJoinsRow.holds Try.pinned (OpenSpec.ofChange patchJoinsSpec)

/-- ITS FALSE NEIGHBOUR: 'it returns false'. Refute it at one input. -/
def patchJoinsWrong : ChangeSpec := { name := "patchJoins", fn := fun _ => fun
  | [d1, d2, d3] => { results := [.lit (.bool false)], args := [d1, d2, d3] }
  | _ => none }
def PatchJoinsWrongFalsely : Prop := patchJoinsRow.holds Try.pinned (OpenSpec.ofChange patchJoinsWrong)

/-- 'topiarylaw17.PatchTouches': WHATEVER THE INPUT: true; the input reads as it did. -/
def patchTouchesSpec : ChangeSpec := { name := "patchTouches", fn := fun _ => fun
  | [d] => { results := [.lit (.bool true)], args := [d] }
  | _ => none }
def patchTouchesRow : OpenClaim := { program := "ytaogeajjidnfgaa", sum := "8542bfa9c421274e6470b111352b8a31c577aea9245e0fd275eba6e915f0dcf8", func := "topiary/topiarylaw17.PatchTouches", spec := "patchTouches", inPlace := ["slices.overlaps[*topiary/patch.node]", "internal/bytealg.abigen_runtime_cmpstring", "slices.overlaps[topiary/api.Attr]"], unfollowed := true, recurses := true, plainKeys := false, apart := false }
def PatchTouchesSaid : Prop := patchTouchesRow.holds Try.pinned (OpenSpec.ofChange patchTouchesSpec)

/-- ITS FALSE NEIGHBOUR: 'it returns false'. Refute it at one input. -/
def patchTouchesWrong : ChangeSpec := { name := "patchTouches", fn := fun _ => fun
  | [d] => { results := [.lit (.bool false)], args := [d] }
  | _ => none }
def PatchTouchesWrongFalsely : Prop := patchTouchesRow.holds Try.pinned (OpenSpec.ofChange patchTouchesWrong)

/-- 'topiarylaw17.PatchKeeps': WHATEVER THE INPUT: true; the input reads as it did. -/
def patchKeepsSpec : ChangeSpec := { name := "patchKeeps", fn := fun _ => fun
  | [d1, d2] => { results := [.lit (.bool true)], args := [d1, d2] }
  | _ => none }
def patchKeepsRow : OpenClaim := { program := "ytaogeajjidnfgaa", sum := "8542bfa9c421274e6470b111352b8a31c577aea9245e0fd275eba6e915f0dcf8", func := "topiary/topiarylaw17.PatchKeeps", spec := "patchKeeps", inPlace := ["slices.overlaps[*topiary/patch.node]", "internal/bytealg.abigen_runtime_cmpstring", "slices.overlaps[topiary/api.Attr]"], unfollowed := true, recurses := true, loops := true, plainKeys := false, apart := false }
def PatchKeepsSaid : Prop := patchKeepsRow.holds Try.pinned (OpenSpec.ofChange patchKeepsSpec)

/-- ITS FALSE NEIGHBOUR: 'it returns false'. Refute it at one input. -/
def patchKeepsWrong : ChangeSpec := { name := "patchKeeps", fn := fun _ => fun
  | [d1, d2] => { results := [.lit (.bool false)], args := [d1, d2] }
  | _ => none }
def PatchKeepsWrongFalsely : Prop := patchKeepsRow.holds Try.pinned (OpenSpec.ofChange patchKeepsWrong)

/- THE SECOND FORM. 'bulk': how many values and letters a reading holds, each counted each time it is reached (what is shared counts as often as it is met; a slice's spare places count too). A statement '..UptoSaid' is the law's where the arguments, and the package variables that the reading takes, are together of bulk at most 1048576: NARROWER than '..Said'. Prove '..Said' where nothing that the law and all that it calls make is longer than what came in: it says more and counts as full. Else prove '..UptoSaid'. A law counts once. -/
mutual
def uptoBulk {H : Type} : DataW H → Nat
  | .lit (.string bytes) => bytes.length + 1
  | .lit _ => 1
  | .nil => 1
  | .ptr d => uptoBulk d + 1
  | .slice elems spare => uptoBulkAll elems + uptoBulkAll spare + 1
  | .agg parts => uptoBulkAll parts + 1
  | .iface _ d => uptoBulk d + 1
  | .map entries => uptoBulkEntries entries + 1
  | .held _ => 1
def uptoBulkAll {H : Type} : List (DataW H) → Nat
  | [] => 0
  | d :: r => uptoBulk d + uptoBulkAll r
def uptoBulkEntries {H : Type} : List (Lit × DataW H) → Nat
  | [] => 0
  | x :: r => uptoBulkEntry x + uptoBulkEntries r
def uptoBulkEntry {H : Type} : Lit × DataW H → Nat
  | (.string bytes, d) => bytes.length + uptoBulk d + 1
  | (_, d) => uptoBulk d + 1
 end
def uptoSmall : (H : Type) → List (DataW H) → Bool := fun _ ds => decide (uptoBulkAll ds ≤ 1048576)
def OpenSpec.upto (s : _root_.Go.ChangeSpec) : _root_.Go.OpenSpec := { _root_.Go.OpenSpec.ofChange s with cond := some uptoSmall }

/-- 'topiarylaw17.PatchChecks', WHERE WHAT IT READS IS OF BULK AT MOST 1048576: true; the input reads as it did. -/
def patchChecksUptoRow : OpenClaim := { program := "ytaogeajjidnfgaa", sum := "8542bfa9c421274e6470b111352b8a31c577aea9245e0fd275eba6e915f0dcf8", func := "topiary/topiarylaw17.PatchChecks", spec := "patchChecks", inPlace := ["slices.overlaps[*topiary/patch.node]", "internal/bytealg.abigen_runtime_cmpstring", "slices.overlaps[topiary/api.Attr]"], unfollowed := true, recurses := true, plainKeys := false, apart := false, narrowed := true }
def PatchChecksUptoSaid : Prop := patchChecksUptoRow.holds Try.pinned (OpenSpec.upto patchChecksSpec)

/-- 'topiarylaw17.PatchApplies', WHERE WHAT IT READS IS OF BULK AT MOST 1048576: true; the input reads as it did. -/
def patchAppliesUptoRow : OpenClaim := { program := "ytaogeajjidnfgaa", sum := "8542bfa9c421274e6470b111352b8a31c577aea9245e0fd275eba6e915f0dcf8", func := "topiary/topiarylaw17.PatchApplies", spec := "patchApplies", inPlace := ["slices.overlaps[*topiary/patch.node]", "internal/bytealg.abigen_runtime_cmpstring", "slices.overlaps[topiary/api.Attr]"], unfollowed := true, recurses := true, loops := true, plainKeys := false, apart := false, narrowed := true }
def PatchAppliesUptoSaid : Prop := patchAppliesUptoRow.holds Try.pinned (OpenSpec.upto patchAppliesSpec)

/-- 'topiarylaw17.PatchRight', WHERE WHAT IT READS IS OF BULK AT MOST 1048576: true; the input reads as it did. -/
def patchRightUptoRow : OpenClaim := { program := "ytaogeajjidnfgaa", sum := "8542bfa9c421274e6470b111352b8a31c577aea9245e0fd275eba6e915f0dcf8", func := "topiary/topiarylaw17.PatchRight", spec := "patchRight", inPlace := ["slices.overlaps[*topiary/patch.node]", "internal/bytealg.abigen_runtime_cmpstring", "slices.overlaps[topiary/api.Attr]"], unfollowed := true, recurses := true, loops := true, plainKeys := false, apart := false, narrowed := true }
def PatchRightUptoSaid : Prop := patchRightUptoRow.holds Try.pinned (OpenSpec.upto patchRightSpec)

/-- 'topiarylaw17.PatchJoins', WHERE WHAT IT READS IS OF BULK AT MOST 1048576: true; the input reads as it did. -/
def patchJoinsUptoRow : OpenClaim := { program := "ytaogeajjidnfgaa", sum := "8542bfa9c421274e6470b111352b8a31c577aea9245e0fd275eba6e915f0dcf8", func := "topiary/topiarylaw17.PatchJoins", spec := "patchJoins", inPlace := ["slices.overlaps[*topiary/patch.node]", "internal/bytealg.abigen_runtime_cmpstring", "slices.overlaps[topiary/api.Attr]"], unfollowed := true, recurses := true, loops := true, plainKeys := false, apart := false, narrowed := true }
def PatchJoinsUptoSaid : Prop := patchJoinsUptoRow.holds Try.pinned (OpenSpec.upto patchJoinsSpec)

/-- 'topiarylaw17.PatchTouches', WHERE WHAT IT READS IS OF BULK AT MOST 1048576: true; the input reads as it did. -/
def patchTouchesUptoRow : OpenClaim := { program := "ytaogeajjidnfgaa", sum := "8542bfa9c421274e6470b111352b8a31c577aea9245e0fd275eba6e915f0dcf8", func := "topiary/topiarylaw17.PatchTouches", spec := "patchTouches", inPlace := ["slices.overlaps[*topiary/patch.node]", "internal/bytealg.abigen_runtime_cmpstring", "slices.overlaps[topiary/api.Attr]"], unfollowed := true, recurses := true, plainKeys := false, apart := false, narrowed := true }
def PatchTouchesUptoSaid : Prop := patchTouchesUptoRow.holds Try.pinned (OpenSpec.upto patchTouchesSpec)

/-- 'topiarylaw17.PatchKeeps', WHERE WHAT IT READS IS OF BULK AT MOST 1048576: true; the input reads as it did. -/
def patchKeepsUptoRow : OpenClaim := { program := "ytaogeajjidnfgaa", sum := "8542bfa9c421274e6470b111352b8a31c577aea9245e0fd275eba6e915f0dcf8", func := "topiary/topiarylaw17.PatchKeeps", spec := "patchKeeps", inPlace := ["slices.overlaps[*topiary/patch.node]", "internal/bytealg.abigen_runtime_cmpstring", "slices.overlaps[topiary/api.Attr]"], unfollowed := true, recurses := true, loops := true, plainKeys := false, apart := false, narrowed := true }
def PatchKeepsUptoSaid : Prop := patchKeepsUptoRow.holds Try.pinned (OpenSpec.upto patchKeepsSpec)

end Rows
end Go.Proofs.Ytaogeajjidnfgaa
