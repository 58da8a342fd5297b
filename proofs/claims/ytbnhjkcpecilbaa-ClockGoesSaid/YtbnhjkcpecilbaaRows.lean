/-
  No cell of these rows narrows 'for every input' (looked for: loops, veiled, ifaces, maps, wideKeys, modest, calm, conditions, laid).
  DERIVED. THE GIVEN ROWS OF THIS SEAT. 7 by the template 'for every input the law returns true; each argument reads behind the call as it read before'; 0 by the template 'total and deterministic' (their statements: YtbnhjkcpecilbaaTotals.lean).
  GIVEN WITH THE SEED: the statements are not yours to turn. If you find one false, say at which input.
  Laid BY PROGRAM, IN A SANDBOX (cutbox-rows.mjs): the forced cells as the released guide's own fill.sh prints them over the translation 0a97e0582dea8b2c… (all of the seat's roots in one cut). By AI agents, Wed Nov 11 2026. No macro, syntax, notation, axiom, sorry.
-/
import Derived.Test.YtbnhjkcpecilbaaChecked
import GoSem.Claim
import GoSem.ClaimJoined
import GoSem.ClaimMapViews
import Derived.JoinedTies
import Derived.KernelRfl
namespace Go.Proofs.Ytbnhjkcpecilbaa
/- THE CELL 'sum', in the pinned program and in every row, IS THE sha256 OF THE DUMP (.gsa) THAT YtbnhjkcpecilbaaProg.lean LOADS. Nothing in Lean hashes anything: it is a label: what it is worth is what the hold of that sum in a sandbox is worth. -/
noncomputable def Try.pinned : Pinned := { name := "ytbnhjkcpecilbaa", sum := "0a97e0582dea8b2ca1aa768a12db355d48a0334b1f3f21fdd441f81b374d93ee", checked := Try.checked }
namespace Rows
def none {H : Type} : Left H := { results := [], args := [] }

/-- 'topiarylaw02.ClockChecks': WHATEVER THE INPUT: true; the input reads as it did. -/
def clockChecksSpec : ChangeSpec := { name := "clockChecks", fn := fun _ => fun
  | [d1, d2] => { results := [.lit (.bool true)], args := [d1, d2] }
  | _ => none }
def clockChecksRow : OpenClaim := { program := "ytbnhjkcpecilbaa", sum := "0a97e0582dea8b2ca1aa768a12db355d48a0334b1f3f21fdd441f81b374d93ee", func := "topiary/topiarylaw02.ClockChecks", spec := "clockChecks", apart := false }
def ClockChecksSaid : Prop := clockChecksRow.holds Try.pinned (OpenSpec.ofChange clockChecksSpec)

/-- ITS FALSE NEIGHBOUR: 'it returns false'. Refute it at one input. -/
def clockChecksWrong : ChangeSpec := { name := "clockChecks", fn := fun _ => fun
  | [d1, d2] => { results := [.lit (.bool false)], args := [d1, d2] }
  | _ => none }
def ClockChecksWrongFalsely : Prop := clockChecksRow.holds Try.pinned (OpenSpec.ofChange clockChecksWrong)

/-- 'topiarylaw02.ClockMerges': WHATEVER THE INPUT: true; the input reads as it did. -/
def clockMergesSpec : ChangeSpec := { name := "clockMerges", fn := fun _ => fun
  | [d1, d2] => { results := [.lit (.bool true)], args := [d1, d2] }
  | _ => none }
def clockMergesRow : OpenClaim := { program := "ytbnhjkcpecilbaa", sum := "0a97e0582dea8b2ca1aa768a12db355d48a0334b1f3f21fdd441f81b374d93ee", func := "topiary/topiarylaw02.ClockMerges", spec := "clockMerges", apart := false }
def ClockMergesSaid : Prop := clockMergesRow.holds Try.pinned (OpenSpec.ofChange clockMergesSpec)

/-- ITS FALSE NEIGHBOUR: 'it returns false'. Refute it at one input. -/
def clockMergesWrong : ChangeSpec := { name := "clockMerges", fn := fun _ => fun
  | [d1, d2] => { results := [.lit (.bool false)], args := [d1, d2] }
  | _ => none }
def ClockMergesWrongFalsely : Prop := clockMergesRow.holds Try.pinned (OpenSpec.ofChange clockMergesWrong)

/-- 'topiarylaw02.ClockLeast': WHATEVER THE INPUT: true; the input reads as it did. -/
def clockLeastSpec : ChangeSpec := { name := "clockLeast", fn := fun _ => fun
  | [d1, d2, d3] => { results := [.lit (.bool true)], args := [d1, d2, d3] }
  | _ => none }
def clockLeastRow : OpenClaim := { program := "ytbnhjkcpecilbaa", sum := "0a97e0582dea8b2ca1aa768a12db355d48a0334b1f3f21fdd441f81b374d93ee", func := "topiary/topiarylaw02.ClockLeast", spec := "clockLeast", apart := false }
def ClockLeastSaid : Prop := clockLeastRow.holds Try.pinned (OpenSpec.ofChange clockLeastSpec)

/-- ITS FALSE NEIGHBOUR: 'it returns false'. Refute it at one input. -/
def clockLeastWrong : ChangeSpec := { name := "clockLeast", fn := fun _ => fun
  | [d1, d2, d3] => { results := [.lit (.bool false)], args := [d1, d2, d3] }
  | _ => none }
def ClockLeastWrongFalsely : Prop := clockLeastRow.holds Try.pinned (OpenSpec.ofChange clockLeastWrong)

/-- 'topiarylaw02.ClockTicks': WHATEVER THE INPUT: true; the input reads as it did. -/
def clockTicksSpec : ChangeSpec := { name := "clockTicks", fn := fun _ => fun
  | [d1, d2] => { results := [.lit (.bool true)], args := [d1, d2] }
  | _ => none }
def clockTicksRow : OpenClaim := { program := "ytbnhjkcpecilbaa", sum := "0a97e0582dea8b2ca1aa768a12db355d48a0334b1f3f21fdd441f81b374d93ee", func := "topiary/topiarylaw02.ClockTicks", spec := "clockTicks", apart := false }
def ClockTicksSaid : Prop := clockTicksRow.holds Try.pinned (OpenSpec.ofChange clockTicksSpec)

/-- ITS FALSE NEIGHBOUR: 'it returns false'. Refute it at one input. -/
def clockTicksWrong : ChangeSpec := { name := "clockTicks", fn := fun _ => fun
  | [d1, d2] => { results := [.lit (.bool false)], args := [d1, d2] }
  | _ => none }
def ClockTicksWrongFalsely : Prop := clockTicksRow.holds Try.pinned (OpenSpec.ofChange clockTicksWrong)

/-- 'topiarylaw02.ClockGoes': WHATEVER THE INPUT: true; the input reads as it did. -/
def clockGoesSpec : ChangeSpec := { name := "clockGoes", fn := fun _ => fun
  | [d1, d2, d3] => { results := [.lit (.bool true)], args := [d1, d2, d3] }
  | _ => none }
def clockGoesRow : OpenClaim := { program := "ytbnhjkcpecilbaa", sum := "0a97e0582dea8b2ca1aa768a12db355d48a0334b1f3f21fdd441f81b374d93ee", func := "topiary/topiarylaw02.ClockGoes", spec := "clockGoes", unfollowed := true, recurses := true, apart := false }
def ClockGoesSaid : Prop := clockGoesRow.holds Try.pinned (OpenSpec.ofChange clockGoesSpec)

/-- ITS FALSE NEIGHBOUR: 'it returns false'. Refute it at one input. -/
def clockGoesWrong : ChangeSpec := { name := "clockGoes", fn := fun _ => fun
  | [d1, d2, d3] => { results := [.lit (.bool false)], args := [d1, d2, d3] }
  | _ => none }
def ClockGoesWrongFalsely : Prop := clockGoesRow.holds Try.pinned (OpenSpec.ofChange clockGoesWrong)

/-- 'topiarylaw02.ClockCompares': WHATEVER THE INPUT: true; the input reads as it did. -/
def clockComparesSpec : ChangeSpec := { name := "clockCompares", fn := fun _ => fun
  | [d1, d2] => { results := [.lit (.bool true)], args := [d1, d2] }
  | _ => none }
def clockComparesRow : OpenClaim := { program := "ytbnhjkcpecilbaa", sum := "0a97e0582dea8b2ca1aa768a12db355d48a0334b1f3f21fdd441f81b374d93ee", func := "topiary/topiarylaw02.ClockCompares", spec := "clockCompares", apart := false }
def ClockComparesSaid : Prop := clockComparesRow.holds Try.pinned (OpenSpec.ofChange clockComparesSpec)

/-- ITS FALSE NEIGHBOUR: 'it returns false'. Refute it at one input. -/
def clockComparesWrong : ChangeSpec := { name := "clockCompares", fn := fun _ => fun
  | [d1, d2] => { results := [.lit (.bool false)], args := [d1, d2] }
  | _ => none }
def ClockComparesWrongFalsely : Prop := clockComparesRow.holds Try.pinned (OpenSpec.ofChange clockComparesWrong)

/-- 'topiarylaw02.ClockGaps': WHATEVER THE INPUT: true; the input reads as it did. -/
def clockGapsSpec : ChangeSpec := { name := "clockGaps", fn := fun _ => fun
  | [d1, d2] => { results := [.lit (.bool true)], args := [d1, d2] }
  | _ => none }
def clockGapsRow : OpenClaim := { program := "ytbnhjkcpecilbaa", sum := "0a97e0582dea8b2ca1aa768a12db355d48a0334b1f3f21fdd441f81b374d93ee", func := "topiary/topiarylaw02.ClockGaps", spec := "clockGaps", unfollowed := true, recurses := true, apart := false }
def ClockGapsSaid : Prop := clockGapsRow.holds Try.pinned (OpenSpec.ofChange clockGapsSpec)

/-- ITS FALSE NEIGHBOUR: 'it returns false'. Refute it at one input. -/
def clockGapsWrong : ChangeSpec := { name := "clockGaps", fn := fun _ => fun
  | [d1, d2] => { results := [.lit (.bool false)], args := [d1, d2] }
  | _ => none }
def ClockGapsWrongFalsely : Prop := clockGapsRow.holds Try.pinned (OpenSpec.ofChange clockGapsWrong)

/- THE SECOND FORM. 'bulk': how many values and letters a reading holds, each counted each time it is reached (what is shared counts as often as it is met; a slice's spare places count too). A statement '..UptoSaid' is the law's where the arguments, and the package variables that the reading takes, are together of bulk at most 1048576: NARROWER than '..Said'. Prove '..Said' where nothing that the law and all that it calls make is longer than what came in: it says more and counts as full. Else prove '..UptoSaid'. A law counts once. -/
mutual
def uptoBulk {H : Type} : DataW H → Nat
  | .lit (.string bytes) => bytes.length + 1
  | .lit _ => 1
  | .nil => 1
  | .ptr d => uptoBulk d + 1
  | .slice elems spare => uptoBulkAll elems + uptoBulkAll spare + 1
  | .agg parts => uptoBulkAll parts + 1
  | .iface _ d => uptoBulk d + 1
  | .map entries => uptoBulkEntries entries + 1
  | .held _ => 1
def uptoBulkAll {H : Type} : List (DataW H) → Nat
  | [] => 0
  | d :: r => uptoBulk d + uptoBulkAll r
def uptoBulkEntries {H : Type} : List (Lit × DataW H) → Nat
  | [] => 0
  | x :: r => uptoBulkEntry x + uptoBulkEntries r
def uptoBulkEntry {H : Type} : Lit × DataW H → Nat
  | (.string bytes, d) => bytes.length + uptoBulk d + 1
  | (_, d) => uptoBulk d + 1
 end
def uptoSmall : (H : Type) → List (DataW H) → Bool := fun _ ds => decide (uptoBulkAll ds ≤ 1048576)
def OpenSpec.upto (s : _root_.Go.ChangeSpec) : _root_.Go.OpenSpec := { _root_.Go.OpenSpec.ofChange s with cond := some uptoSmall }

/-- 'topiarylaw02.ClockChecks', WHERE WHAT IT READS IS OF BULK AT MOST 1048576: true; the input reads as it did. -/
def clockChecksUptoRow : OpenClaim := { program := "ytbnhjkcpecilbaa", sum := "0a97e0582dea8b2ca1aa768a12db355d48a0334b1f3f21fdd441f81b374d93ee", func := "topiary/topiarylaw02.ClockChecks", spec := "clockChecks", apart := false, narrowed := true }
def ClockChecksUptoSaid : Prop := clockChecksUptoRow.holds Try.pinned (OpenSpec.upto clockChecksSpec)

/-- 'topiarylaw02.ClockMerges', WHERE WHAT IT READS IS OF BULK AT MOST 1048576: true; the input reads as it did. -/
def clockMergesUptoRow : OpenClaim := { program := "ytbnhjkcpecilbaa", sum := "0a97e0582dea8b2ca1aa768a12db355d48a0334b1f3f21fdd441f81b374d93ee", func := "topiary/topiarylaw02.ClockMerges", spec := "clockMerges", apart := false, narrowed := true }
def ClockMergesUptoSaid : Prop := clockMergesUptoRow.holds Try.pinned (OpenSpec.upto clockMergesSpec)

/-- 'topiarylaw02.ClockLeast', WHERE WHAT IT READS IS OF BULK AT MOST 1048576: true; the input reads as it did. -/
def clockLeastUptoRow : OpenClaim := { program := "ytbnhjkcpecilbaa", sum := "0a97e0582dea8b2ca1aa768a12db355d48a0334b1f3f21fdd441f81b374d93ee", func := "topiary/topiarylaw02.ClockLeast", spec := "clockLeast", apart := false, narrowed := true }
def ClockLeastUptoSaid : Prop := clockLeastUptoRow.holds Try.pinned (OpenSpec.upto clockLeastSpec)

/-- 'topiarylaw02.ClockTicks', WHERE WHAT IT READS IS OF BULK AT MOST 1048576: true; the input reads as it did. -/
def clockTicksUptoRow : OpenClaim := { program := "ytbnhjkcpecilbaa", sum := "0a97e0582dea8b2ca1aa768a12db355d48a0334b1f3f21fdd441f81b374d93ee", func := "topiary/topiarylaw02.ClockTicks", spec := "clockTicks", apart := false, narrowed := true }
def ClockTicksUptoSaid : Prop := clockTicksUptoRow.holds Try.pinned (OpenSpec.upto clockTicksSpec)

/-- 'topiarylaw02.ClockGoes', WHERE WHAT IT READS IS OF BULK AT MOST 1048576: true; the input reads as it did. -/
def clockGoesUptoRow : OpenClaim := { program := "ytbnhjkcpecilbaa", sum := "0a97e0582dea8b2ca1aa768a12db355d48a0334b1f3f21fdd441f81b374d93ee", func := "topiary/topiarylaw02.ClockGoes", spec := "clockGoes", unfollowed := true, recurses := true, apart := false, narrowed := true }
def ClockGoesUptoSaid : Prop := clockGoesUptoRow.holds Try.pinned (OpenSpec.upto clockGoesSpec)

/-- 'topiarylaw02.ClockCompares', WHERE WHAT IT READS IS OF BULK AT MOST 1048576: true; the input reads as it did. -/
def clockComparesUptoRow : OpenClaim := { program := "ytbnhjkcpecilbaa", sum := "0a97e0582dea8b2ca1aa768a12db355d48a0334b1f3f21fdd441f81b374d93ee", func := "topiary/topiarylaw02.ClockCompares", spec := "clockCompares", apart := false, narrowed := true }
def ClockComparesUptoSaid : Prop := clockComparesUptoRow.holds Try.pinned (OpenSpec.upto clockComparesSpec)

/-- 'topiarylaw02.ClockGaps', WHERE WHAT IT READS IS OF BULK AT MOST 1048576: true; the input reads as it did. -/
def clockGapsUptoRow : OpenClaim := { program := "ytbnhjkcpecilbaa", sum := "0a97e0582dea8b2ca1aa768a12db355d48a0334b1f3f21fdd441f81b374d93ee", func := "topiary/topiarylaw02.ClockGaps", spec := "clockGaps", unfollowed := true, recurses := true, apart := false, narrowed := true }
def ClockGapsUptoSaid : Prop := clockGapsUptoRow.holds Try.pinned (OpenSpec.upto clockGapsSpec)

end Rows
end Go.Proofs.Ytbnhjkcpecilbaa
