-- Own text of this seat, laid by the session's program ownprint.py (wip/tools). Lean checks it.
import Derived.Test.YtbnhjkcpecilbaaProg
import Derived.Below
import Derived.Deep.Draws
import Derived.Deep.AppendLies
import Derived.Maps.AppendAt
import Derived.OwnWalk
import Derived.Laws.BytesArg
import Derived.Laws.MakeOwn
import Derived.Laws.OwnMore
import Derived.Deep.OwnRows
import Derived.Tactics
import Derived.Lib.ConvBytes
import Derived.Laws.Slices
import Derived.WalkKit
import Derived.KernelRfl
import Derived.RowKit3
import Derived.Deep.LoopGhost
import Derived.Deep.QuietTactic
import Derived.BigQuiet
import Derived.WideLaws
import Derived.Deep.DeepCutAuto
import Derived.Deep.CutBlock
import Derived.Deep.RegionHeld3
import Derived.Laws.Rows
import Derived.Lib.AppendStr
import Derived.ArgAppend
import Derived.Laws.IdiomCopy
import Derived.OrdersHeld
import Derived.Laws.BitsLemmas
import Derived.RowKit
import Derived.Test.YtbnhjkcpecilbaaWWords
import Derived.Test.YtbnhjkcpecilbaaWLast
import Derived.Test.YtbnhjkcpecilbaaWTab
import Derived.Test.YtbnhjkcpecilbaaWFour
import Derived.Test.YtbnhjkcpecilbaaWQPut
import Derived.Test.YtbnhjkcpecilbaaWApart
import Derived.Test.YtbnhjkcpecilbaaWArr
import Derived.Test.YtbnhjkcpecilbaaWZeros
import Derived.Test.YtbnhjkcpecilbaaWFoot
import Derived.Test.YtbnhjkcpecilbaaWKept
import Derived.Test.YtbnhjkcpecilbaaWShare
import Derived.Test.YtbnhjkcpecilbaaWN
import Derived.Test.YtbnhjkcpecilbaaWFootNe
import Derived.Test.YtbnhjkcpecilbaaWAt
import Derived.Test.YtbnhjkcpecilbaaWEqStruct
import Derived.Test.YtbnhjkcpecilbaaWRepsOne
import Derived.Test.YtbnhjkcpecilbaaWInv
import Derived.Test.YtbnhjkcpecilbaaWInvWords
import Derived.Test.YtbnhjkcpecilbaaWGuard
import Derived.Test.YtbnhjkcpecilbaaWNEv
import Derived.Test.YtbnhjkcpecilbaaWMore
namespace Go.Proofs.Ytbnhjkcpecilbaa.QClockTicks
open Go.RowKit Go.Proofs.YtbnhjkcpecilbaaW.PrintWords Go.Proofs.YtbnhjkcpecilbaaW.PrintLast Go.Proofs.YtbnhjkcpecilbaaW.PrintMore
attribute [local go_sem] max2_int min2_int max_two min_two max_three min_three max_four min_four   -- for this text's walks alone
set_option linter.unusedVariables false
set_option linter.unusedSimpArgs false



def errW : Option Int → Value
  | none => .nilIface
  | some c => .iface 0 (.int .i64 c)
theorem errW_none : errW none = .nilIface := rfl
theorem errW_some (c : Int) : errW (some c) = .iface 0 (.int .i64 c) := rfl

/-- A reading, at a length that is spelled otherwise. -/
theorem reads_len_ {α : Type} {Rr : α → List Value → Prop} {sz n m : Nat} {W : World} {A : Option Addr} {ys : List α} (h : n = m) (hr : ReadsRow Rr sz W A n ys) : ReadsRow Rr sz W A m ys := h ▸ hr
theorem size_of_info_ {α : Type} {f : α → Option Value} {g b : α → Nat} {x : Option α} {z : Option Value} {n m : Nat} (h : x.map (fun i => (f i, g i, b i)) = some (z, n, m)) : x.map (fun i => g i) = some n := by
  cases x with
  | none => cases h
  | some i => injection h with h; injection h with _ h; injection h with h _; exact congrArg some h

theorem info3 : (Try.prog.info? 3).map (fun i => (i.zero, i.size, i.bytes)) = some (some (.int .i64 0), 1, 8) := by kernel_rfl
-- the values' own types

end Go.Proofs.Ytbnhjkcpecilbaa.QClockTicks
