/- The function that each statement calls at its end answers 'true' in every world: run by evaluation. -/
import Derived.Test.YtjlimpnfoeeofaaGreatDoorProg
import Derived.Test.YtjlimpnfoeeofaaGreatDoorRc
namespace Go.Proofs.YtjlimpnfoeeofaaGreatDoor
open Go Go.Run Go.RowKit
theorem keyLaw41 : WideMaps.KeyLaw Tryz.prog 41 := deep_law_gate (by kernel_rfl) (Nat.le_of_ble_eq_true (by kernel_rfl)) (Nat.le_of_ble_eq_true (by kernel_rfl)) (by kernel_rfl) (by kernel_rfl)
theorem same23 : ExtOk Tryz.prog 23 .same := same_ext (fn := (Tryz.prog.funcs[23]?).getD default) (by kernel_rfl) (by kernel_rfl) (by kernel_rfl) (by kernel_rfl) (by kernel_rfl)
theorem noNum_ : NoNum Tryz.prog := noNum_of (by kernel_rfl)
theorem mixed_ : Tryz.prog.follows .mixedOrders = true := by kernel_rfl
def cfg0 : Cfg := ⟨[41], [(23, .same)], []⟩
theorem cfg0_ok : CfgOk Tryz.prog cfg0 := ⟨keys_cons keyLaw41 (keys_nil _), exts_cons same23 (exts_nil _), kns_nil _⟩
set_option maxRecDepth 1000000 in
theorem awake_run : isTrue (callA Tryz.prog cfg0 20000 6 0 []) = true := by kernel_rfl
/-- It answers 'true'. -/
theorem awake_known : KnOk Tryz.prog 6 := call_known cfg0_ok noNum_ mixed_ awake_run
end Go.Proofs.YtjlimpnfoeeofaaGreatDoor
