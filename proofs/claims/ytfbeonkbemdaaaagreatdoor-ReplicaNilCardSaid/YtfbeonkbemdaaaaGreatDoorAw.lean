/- The function that each statement calls at its end answers 'true' in every world: run by evaluation. -/
import Derived.Test.YtfbeonkbemdaaaaGreatDoorProg
import Derived.Test.YtfbeonkbemdaaaaGreatDoorRc
namespace Go.Proofs.YtfbeonkbemdaaaaGreatDoor
open Go Go.Run Go.RowKit
theorem keyLaw23 : WideMaps.KeyLaw Tryz.prog 23 := deep_law_gate (by kernel_rfl) (Nat.le_of_ble_eq_true (by kernel_rfl)) (Nat.le_of_ble_eq_true (by kernel_rfl)) (by kernel_rfl) (by kernel_rfl)
theorem keyLaw185 : WideMaps.KeyLaw Tryz.prog 185 := deep_law_gate (by kernel_rfl) (Nat.le_of_ble_eq_true (by kernel_rfl)) (Nat.le_of_ble_eq_true (by kernel_rfl)) (by kernel_rfl) (by kernel_rfl)
theorem keyLaw284 : WideMaps.KeyLaw Tryz.prog 284 := deep_law_gate (by kernel_rfl) (Nat.le_of_ble_eq_true (by kernel_rfl)) (Nat.le_of_ble_eq_true (by kernel_rfl)) (by kernel_rfl) (by kernel_rfl)
theorem keyLaw295 : WideMaps.KeyLaw Tryz.prog 295 := deep_law_gate (by kernel_rfl) (Nat.le_of_ble_eq_true (by kernel_rfl)) (Nat.le_of_ble_eq_true (by kernel_rfl)) (by kernel_rfl) (by kernel_rfl)
theorem same306 : ExtOk Tryz.prog 306 .same := same_ext (fn := (Tryz.prog.funcs[306]?).getD default) (by kernel_rfl) (by kernel_rfl) (by kernel_rfl) (by kernel_rfl) (by kernel_rfl)
theorem noNum_ : NoNum Tryz.prog := noNum_of (by kernel_rfl)
theorem mixed_ : Tryz.prog.follows .mixedOrders = true := by kernel_rfl
def cfg0 : Cfg := ⟨[23, 185, 284, 295], [(306, .same)], []⟩
theorem cfg0_ok : CfgOk Tryz.prog cfg0 := ⟨keys_cons keyLaw23 (keys_cons keyLaw185 (keys_cons keyLaw284 (keys_cons keyLaw295 (keys_nil _)))), exts_cons same306 (exts_nil _), kns_nil _⟩
set_option maxRecDepth 1000000 in
theorem awake_run : isTrue (callA Tryz.prog cfg0 40000 16 0 []) = true := by kernel_rfl
/-- It answers 'true'. -/
theorem awake_known : KnOk Tryz.prog 16 := call_known cfg0_ok noNum_ mixed_ awake_run
end Go.Proofs.YtfbeonkbemdaaaaGreatDoor
