-- Own text of this seat, laid by the session's program ownprint.py (wip/tools). Lean checks it.
import Derived.Test.YtgoolgmcbnikkaaGreatDoorQChangeTextsx0
import Derived.Test.YtgoolgmcbnikkaaGreatDoorQChangeTextsx14
import Derived.Test.YtgoolgmcbnikkaaGreatDoorQChangeTextsx15
import Derived.Test.YtgoolgmcbnikkaaGreatDoorQChangeTextsx16
namespace Go.Proofs.YtgoolgmcbnikkaaGreatDoor.QChangeTexts
open Go.RowKit Go.Proofs.YtgoolgmcbnikkaaGreatDoorW.PrintWords Go.Proofs.YtgoolgmcbnikkaaGreatDoorW.PrintLast Go.Proofs.YtgoolgmcbnikkaaGreatDoorW.PrintMore
attribute [local go_sem] max2_int min2_int max_two min_two max_three min_three max_four min_four   -- for this text's walks alone
set_option linter.unusedVariables false
set_option linter.unusedSimpArgs false

/-! ### topiaryref05_Text: function 15 -/
def topiaryref05_Text.f (k : Nat) (a0_0 : Int) (a0_1 : Int) (a0_2 : Int) (l0_3 : List Int) (a0_4 : Int) (a0_5 : Int) (a0_6 : Int) (a0_7 : Int) (a0_8 : Int) (a0_9 : Int) (a0_10 : Int) (a0_11 : ByteArray) (a0_12 : ByteArray) : Option (ByteArray × Int) := (topiaryref05_Check.f k a0_0 a0_1 a0_2 l0_3 a0_4 a0_5 a0_6 a0_7 a0_8 a0_9 a0_10 a0_11 a0_12).bind fun t381 => (if t381 = 0 then ((topiaryref02_Text.f k l0_3).bind fun bt383 => ((topiaryref05_Stamp.f k a0_0 a0_1).bind fun t385 => (if t385.size + 1 ≤ 9223372036854775807 then ((topiaryref01_Digits.f k a0_2).bind fun t386 => (if (t385 ++ (⟨#[32]⟩ : ByteArray)).size + t386.size ≤ 9223372036854775807 then (if ((t385 ++ (⟨#[32]⟩ : ByteArray)) ++ t386).size + 1 ≤ 9223372036854775807 then (if (((t385 ++ (⟨#[32]⟩ : ByteArray)) ++ t386) ++ (⟨#[32]⟩ : ByteArray)).size + bt383.1.size ≤ 9223372036854775807 then (if ((((t385 ++ (⟨#[32]⟩ : ByteArray)) ++ t386) ++ (⟨#[32]⟩ : ByteArray)) ++ bt383.1).size + 1 ≤ 9223372036854775807 then (if a0_4 = 1 then (if 7 + (((((t385 ++ (⟨#[32]⟩ : ByteArray)) ++ t386) ++ (⟨#[32]⟩ : ByteArray)) ++ bt383.1) ++ (⟨#[32]⟩ : ByteArray)).size ≤ 9223372036854775807 then ((topiaryref05_Stamp.f k a0_7 a0_8).bind fun t387 => (if ((⟨#[99, 114, 101, 97, 116, 101, 32]⟩ : ByteArray) ++ (((((t385 ++ (⟨#[32]⟩ : ByteArray)) ++ t386) ++ (⟨#[32]⟩ : ByteArray)) ++ bt383.1) ++ (⟨#[32]⟩ : ByteArray))).size + t387.size ≤ 9223372036854775807 then (if (((⟨#[99, 114, 101, 97, 116, 101, 32]⟩ : ByteArray) ++ (((((t385 ++ (⟨#[32]⟩ : ByteArray)) ++ t386) ++ (⟨#[32]⟩ : ByteArray)) ++ bt383.1) ++ (⟨#[32]⟩ : ByteArray))) ++ t387).size + 1 ≤ 9223372036854775807 then ((topiaryref05_After.f k a0_9 a0_10).bind fun t388 => (if ((((⟨#[99, 114, 101, 97, 116, 101, 32]⟩ : ByteArray) ++ (((((t385 ++ (⟨#[32]⟩ : ByteArray)) ++ t386) ++ (⟨#[32]⟩ : ByteArray)) ++ bt383.1) ++ (⟨#[32]⟩ : ByteArray))) ++ t387) ++ (⟨#[32]⟩ : ByteArray)).size + t388.size ≤ 9223372036854775807 then (if (((((⟨#[99, 114, 101, 97, 116, 101, 32]⟩ : ByteArray) ++ (((((t385 ++ (⟨#[32]⟩ : ByteArray)) ++ t386) ++ (⟨#[32]⟩ : ByteArray)) ++ bt383.1) ++ (⟨#[32]⟩ : ByteArray))) ++ t387) ++ (⟨#[32]⟩ : ByteArray)) ++ t388).size + 1 ≤ 9223372036854775807 then (if ((((((⟨#[99, 114, 101, 97, 116, 101, 32]⟩ : ByteArray) ++ (((((t385 ++ (⟨#[32]⟩ : ByteArray)) ++ t386) ++ (⟨#[32]⟩ : ByteArray)) ++ bt383.1) ++ (⟨#[32]⟩ : ByteArray))) ++ t387) ++ (⟨#[32]⟩ : ByteArray)) ++ t388) ++ (⟨#[32]⟩ : ByteArray)).size + a0_11.size ≤ 9223372036854775807 then (some (((((((⟨#[99, 114, 101, 97, 116, 101, 32]⟩ : ByteArray) ++ (((((t385 ++ (⟨#[32]⟩ : ByteArray)) ++ t386) ++ (⟨#[32]⟩ : ByteArray)) ++ bt383.1) ++ (⟨#[32]⟩ : ByteArray))) ++ t387) ++ (⟨#[32]⟩ : ByteArray)) ++ t388) ++ (⟨#[32]⟩ : ByteArray)) ++ a0_11, 0)) else (none)) else (none)) else (none))) else (none)) else (none))) else (none)) else (if a0_4 = 2 then (if 5 + (((((t385 ++ (⟨#[32]⟩ : ByteArray)) ++ t386) ++ (⟨#[32]⟩ : ByteArray)) ++ bt383.1) ++ (⟨#[32]⟩ : ByteArray)).size ≤ 9223372036854775807 then ((topiaryref05_Stamp.f k a0_5 a0_6).bind fun t389 => (if ((⟨#[109, 111, 118, 101, 32]⟩ : ByteArray) ++ (((((t385 ++ (⟨#[32]⟩ : ByteArray)) ++ t386) ++ (⟨#[32]⟩ : ByteArray)) ++ bt383.1) ++ (⟨#[32]⟩ : ByteArray))).size + t389.size ≤ 9223372036854775807 then (if (((⟨#[109, 111, 118, 101, 32]⟩ : ByteArray) ++ (((((t385 ++ (⟨#[32]⟩ : ByteArray)) ++ t386) ++ (⟨#[32]⟩ : ByteArray)) ++ bt383.1) ++ (⟨#[32]⟩ : ByteArray))) ++ t389).size + 1 ≤ 9223372036854775807 then ((topiaryref05_Stamp.f k a0_7 a0_8).bind fun t390 => (if ((((⟨#[109, 111, 118, 101, 32]⟩ : ByteArray) ++ (((((t385 ++ (⟨#[32]⟩ : ByteArray)) ++ t386) ++ (⟨#[32]⟩ : ByteArray)) ++ bt383.1) ++ (⟨#[32]⟩ : ByteArray))) ++ t389) ++ (⟨#[32]⟩ : ByteArray)).size + t390.size ≤ 9223372036854775807 then (if (((((⟨#[109, 111, 118, 101, 32]⟩ : ByteArray) ++ (((((t385 ++ (⟨#[32]⟩ : ByteArray)) ++ t386) ++ (⟨#[32]⟩ : ByteArray)) ++ bt383.1) ++ (⟨#[32]⟩ : ByteArray))) ++ t389) ++ (⟨#[32]⟩ : ByteArray)) ++ t390).size + 1 ≤ 9223372036854775807 then ((topiaryref05_After.f k a0_9 a0_10).bind fun t391 => (if ((((((⟨#[109, 111, 118, 101, 32]⟩ : ByteArray) ++ (((((t385 ++ (⟨#[32]⟩ : ByteArray)) ++ t386) ++ (⟨#[32]⟩ : ByteArray)) ++ bt383.1) ++ (⟨#[32]⟩ : ByteArray))) ++ t389) ++ (⟨#[32]⟩ : ByteArray)) ++ t390) ++ (⟨#[32]⟩ : ByteArray)).size + t391.size ≤ 9223372036854775807 then (some (((((((⟨#[109, 111, 118, 101, 32]⟩ : ByteArray) ++ (((((t385 ++ (⟨#[32]⟩ : ByteArray)) ++ t386) ++ (⟨#[32]⟩ : ByteArray)) ++ bt383.1) ++ (⟨#[32]⟩ : ByteArray))) ++ t389) ++ (⟨#[32]⟩ : ByteArray)) ++ t390) ++ (⟨#[32]⟩ : ByteArray)) ++ t391, 0)) else (none))) else (none)) else (none))) else (none)) else (none))) else (none)) else (if a0_4 = 3 then (if 4 + (((((t385 ++ (⟨#[32]⟩ : ByteArray)) ++ t386) ++ (⟨#[32]⟩ : ByteArray)) ++ bt383.1) ++ (⟨#[32]⟩ : ByteArray)).size ≤ 9223372036854775807 then ((topiaryref05_Stamp.f k a0_5 a0_6).bind fun t392 => (if ((⟨#[115, 101, 116, 32]⟩ : ByteArray) ++ (((((t385 ++ (⟨#[32]⟩ : ByteArray)) ++ t386) ++ (⟨#[32]⟩ : ByteArray)) ++ bt383.1) ++ (⟨#[32]⟩ : ByteArray))).size + t392.size ≤ 9223372036854775807 then (if (((⟨#[115, 101, 116, 32]⟩ : ByteArray) ++ (((((t385 ++ (⟨#[32]⟩ : ByteArray)) ++ t386) ++ (⟨#[32]⟩ : ByteArray)) ++ bt383.1) ++ (⟨#[32]⟩ : ByteArray))) ++ t392).size + 1 ≤ 9223372036854775807 then (if ((((⟨#[115, 101, 116, 32]⟩ : ByteArray) ++ (((((t385 ++ (⟨#[32]⟩ : ByteArray)) ++ t386) ++ (⟨#[32]⟩ : ByteArray)) ++ bt383.1) ++ (⟨#[32]⟩ : ByteArray))) ++ t392) ++ (⟨#[32]⟩ : ByteArray)).size + a0_11.size ≤ 9223372036854775807 then (if (((((⟨#[115, 101, 116, 32]⟩ : ByteArray) ++ (((((t385 ++ (⟨#[32]⟩ : ByteArray)) ++ t386) ++ (⟨#[32]⟩ : ByteArray)) ++ bt383.1) ++ (⟨#[32]⟩ : ByteArray))) ++ t392) ++ (⟨#[32]⟩ : ByteArray)) ++ a0_11).size + 1 ≤ 9223372036854775807 then ((topiaryref05_Quote.f k a0_12).bind fun t393 => (if ((((((⟨#[115, 101, 116, 32]⟩ : ByteArray) ++ (((((t385 ++ (⟨#[32]⟩ : ByteArray)) ++ t386) ++ (⟨#[32]⟩ : ByteArray)) ++ bt383.1) ++ (⟨#[32]⟩ : ByteArray))) ++ t392) ++ (⟨#[32]⟩ : ByteArray)) ++ a0_11) ++ (⟨#[32]⟩ : ByteArray)).size + t393.size ≤ 9223372036854775807 then (some (((((((⟨#[115, 101, 116, 32]⟩ : ByteArray) ++ (((((t385 ++ (⟨#[32]⟩ : ByteArray)) ++ t386) ++ (⟨#[32]⟩ : ByteArray)) ++ bt383.1) ++ (⟨#[32]⟩ : ByteArray))) ++ t392) ++ (⟨#[32]⟩ : ByteArray)) ++ a0_11) ++ (⟨#[32]⟩ : ByteArray)) ++ t393, 0)) else (none))) else (none)) else (none)) else (none)) else (none))) else (none)) else (if a0_4 = 4 then (if 6 + (((((t385 ++ (⟨#[32]⟩ : ByteArray)) ++ t386) ++ (⟨#[32]⟩ : ByteArray)) ++ bt383.1) ++ (⟨#[32]⟩ : ByteArray)).size ≤ 9223372036854775807 then ((topiaryref05_Stamp.f k a0_5 a0_6).bind fun t394 => (if ((⟨#[99, 108, 101, 97, 114, 32]⟩ : ByteArray) ++ (((((t385 ++ (⟨#[32]⟩ : ByteArray)) ++ t386) ++ (⟨#[32]⟩ : ByteArray)) ++ bt383.1) ++ (⟨#[32]⟩ : ByteArray))).size + t394.size ≤ 9223372036854775807 then (if (((⟨#[99, 108, 101, 97, 114, 32]⟩ : ByteArray) ++ (((((t385 ++ (⟨#[32]⟩ : ByteArray)) ++ t386) ++ (⟨#[32]⟩ : ByteArray)) ++ bt383.1) ++ (⟨#[32]⟩ : ByteArray))) ++ t394).size + 1 ≤ 9223372036854775807 then (if ((((⟨#[99, 108, 101, 97, 114, 32]⟩ : ByteArray) ++ (((((t385 ++ (⟨#[32]⟩ : ByteArray)) ++ t386) ++ (⟨#[32]⟩ : ByteArray)) ++ bt383.1) ++ (⟨#[32]⟩ : ByteArray))) ++ t394) ++ (⟨#[32]⟩ : ByteArray)).size + a0_11.size ≤ 9223372036854775807 then (some (((((⟨#[99, 108, 101, 97, 114, 32]⟩ : ByteArray) ++ (((((t385 ++ (⟨#[32]⟩ : ByteArray)) ++ t386) ++ (⟨#[32]⟩ : ByteArray)) ++ bt383.1) ++ (⟨#[32]⟩ : ByteArray))) ++ t394) ++ (⟨#[32]⟩ : ByteArray)) ++ a0_11, 0)) else (none)) else (none)) else (none))) else (none)) else (if 5 + (((((t385 ++ (⟨#[32]⟩ : ByteArray)) ++ t386) ++ (⟨#[32]⟩ : ByteArray)) ++ bt383.1) ++ (⟨#[32]⟩ : ByteArray)).size ≤ 9223372036854775807 then ((topiaryref05_Stamp.f k a0_5 a0_6).bind fun t395 => (if ((⟨#[116, 101, 120, 116, 32]⟩ : ByteArray) ++ (((((t385 ++ (⟨#[32]⟩ : ByteArray)) ++ t386) ++ (⟨#[32]⟩ : ByteArray)) ++ bt383.1) ++ (⟨#[32]⟩ : ByteArray))).size + t395.size ≤ 9223372036854775807 then (if (((⟨#[116, 101, 120, 116, 32]⟩ : ByteArray) ++ (((((t385 ++ (⟨#[32]⟩ : ByteArray)) ++ t386) ++ (⟨#[32]⟩ : ByteArray)) ++ bt383.1) ++ (⟨#[32]⟩ : ByteArray))) ++ t395).size + 1 ≤ 9223372036854775807 then ((topiaryref05_Quote.f k a0_12).bind fun t396 => (if ((((⟨#[116, 101, 120, 116, 32]⟩ : ByteArray) ++ (((((t385 ++ (⟨#[32]⟩ : ByteArray)) ++ t386) ++ (⟨#[32]⟩ : ByteArray)) ++ bt383.1) ++ (⟨#[32]⟩ : ByteArray))) ++ t395) ++ (⟨#[32]⟩ : ByteArray)).size + t396.size ≤ 9223372036854775807 then (some (((((⟨#[116, 101, 120, 116, 32]⟩ : ByteArray) ++ (((((t385 ++ (⟨#[32]⟩ : ByteArray)) ++ t386) ++ (⟨#[32]⟩ : ByteArray)) ++ bt383.1) ++ (⟨#[32]⟩ : ByteArray))) ++ t395) ++ (⟨#[32]⟩ : ByteArray)) ++ t396, 0)) else (none))) else (none)) else (none))) else (none)))))) else (none)) else (none)) else (none)) else (none))) else (none)))) else ((topiaryref05_Check.f k a0_0 a0_1 a0_2 l0_3 a0_4 a0_5 a0_6 a0_7 a0_8 a0_9 a0_10 a0_11 a0_12).bind fun t382 => (some ((⟨#[]⟩ : ByteArray), t382))))
theorem topiaryref05_Text.mono : ∀ a0 a1 a2 a3 a4 a5 a6 a7 a8 a9 a10 a11 a12 k, LeO (topiaryref05_Text.f k a0 a1 a2 a3 a4 a5 a6 a7 a8 a9 a10 a11 a12) (topiaryref05_Text.f (k + 1) a0 a1 a2 a3 a4 a5 a6 a7 a8 a9 a10 a11 a12) := by
 intro a0 a1 a2 a3 a4 a5 a6 a7 a8 a9 a10 a11 a12 k
 unfold topiaryref05_Text.f
 repeat' first
   | (with_reducible exact topiaryref01_Digits.mono _ _)
   | (with_reducible exact topiaryref02_Text.mono _ _)
   | (with_reducible exact topiaryref05_After.mono _ _ _)
   | (with_reducible exact topiaryref05_Check.mono _ _ _ _ _ _ _ _ _ _ _ _ _ _)
   | (with_reducible exact topiaryref05_Quote.mono _ _)
   | (with_reducible exact topiaryref05_Stamp.mono _ _ _)
   | (with_reducible exact LeO.refl _)
   | (with_reducible exact LeO.none _)
   | (with_reducible refine LeO.ite ?_ ?_)
   | (with_reducible refine LeO.bind ?_ (fun _ => ?_))
   | exact topiaryref01_Digits.mono _ _
   | exact topiaryref02_Text.mono _ _
   | exact topiaryref05_After.mono _ _ _
   | exact topiaryref05_Check.mono _ _ _ _ _ _ _ _ _ _ _ _ _ _
   | exact topiaryref05_Quote.mono _ _
   | exact topiaryref05_Stamp.mono _ _ _
   | exact LeO.none _
   | refine LeO.ite ?_ ?_
   | refine LeO.bind ?_ (fun _ => ?_)
def topiaryref05_Text.T4 : Bool × List (List Nat × List Nat) := (true, [([], []), ([0], [0]), ([1], [1]), ([2], [2]), ([], []), ([4], [4]), ([5, 2], [5]), ([3, 6], [3, 6]), ([7], [7]), ([], []), ([8, 9], [8, 9]), ([10], [10]), ([11, 6, 0, 1, 2, 3, 4, 5, 6, 7, 8, 9, 10, 11], [11])])
def topiaryref05_Text.B4 : List Nat := [0, 1, 3, 7, 0, 16, 55, 127, 255, 0, 1023, 2047, 4095]
theorem topiaryref05_Text.tab4 : rtab .any (opsOf Tryz.f15 4) = topiaryref05_Text.T4 := by kernel_rfl
theorem topiaryref05_Text.bits4 : waitsOk topiaryref05_Text.T4.2 topiaryref05_Text.B4 = true := by kernel_rfl
def topiaryref05_Text.T7 : Bool × List (List Nat × List Nat) := (true, [([], []), ([0], [0]), ([], []), ([2], [2]), ([3], [3]), ([1, 4], [1, 4]), ([5], [5]), ([], []), ([7], [7]), ([8, 4], [8]), ([6, 9], [6, 9]), ([10], [10]), ([], []), ([12], [12]), ([11, 13], [11, 13]), ([14, 9, 0, 1, 2, 3, 4, 5, 6, 7, 8, 9, 10, 11, 12, 13, 14], [14]), ([15, 0, 1, 2, 3, 4, 5, 6, 7, 8, 9, 10, 11, 12, 13, 14, 15], [])])
def topiaryref05_Text.B7 : List Nat := [0, 1, 0, 4, 12, 31, 63, 0, 128, 412, 1023, 2047, 0, 4096, 16383, 32767, 65535]
theorem topiaryref05_Text.tab7 : rtab .any (opsOf Tryz.f15 7) = topiaryref05_Text.T7 := by kernel_rfl
theorem topiaryref05_Text.bits7 : waitsOk topiaryref05_Text.T7.2 topiaryref05_Text.B7 = true := by kernel_rfl
def topiaryref05_Text.T9 : Bool × List (List Nat × List Nat) := (true, [([], []), ([0], [0]), ([], []), ([2], [2]), ([3], [3]), ([1, 4], [1, 4]), ([5], [5]), ([], []), ([7], [7]), ([8, 4], [8]), ([6, 9], [6, 9]), ([10], [10]), ([], []), ([12], [12]), ([13, 9], [13]), ([11, 14], [11, 14]), ([15, 14, 0, 1, 2, 3, 4, 5, 6, 7, 8, 9, 10, 11, 12, 13, 14, 15], [15]), ([16, 0, 1, 2, 3, 4, 5, 6, 7, 8, 9, 10, 11, 12, 13, 14, 15, 16], [])])
def topiaryref05_Text.B9 : List Nat := [0, 1, 0, 4, 12, 31, 63, 0, 128, 412, 1023, 2047, 0, 4096, 13212, 32767, 65535, 131071]
theorem topiaryref05_Text.tab9 : rtab .any (opsOf Tryz.f15 9) = topiaryref05_Text.T9 := by kernel_rfl
theorem topiaryref05_Text.bits9 : waitsOk topiaryref05_Text.T9.2 topiaryref05_Text.B9 = true := by kernel_rfl
def topiaryref05_Text.T11 : Bool × List (List Nat × List Nat) := (true, [([], []), ([0], [0]), ([], []), ([2], [2]), ([3], [3]), ([1, 4], [1, 4]), ([5], [5]), ([], []), ([7], [7]), ([6, 8], [6, 8]), ([9], [9]), ([], []), ([11], [11]), ([12, 4], [12]), ([10, 13], [10, 13]), ([14, 13, 0, 1, 2, 3, 4, 5, 6, 7, 8, 9, 10, 11, 12, 13, 14], [14]), ([15, 0, 1, 2, 3, 4, 5, 6, 7, 8, 9, 10, 11, 12, 13, 14, 15], [])])
def topiaryref05_Text.B11 : List Nat := [0, 1, 0, 4, 12, 31, 63, 0, 128, 511, 1023, 0, 2048, 6172, 16383, 32767, 65535]
theorem topiaryref05_Text.tab11 : rtab .any (opsOf Tryz.f15 11) = topiaryref05_Text.T11 := by kernel_rfl
theorem topiaryref05_Text.bits11 : waitsOk topiaryref05_Text.T11.2 topiaryref05_Text.B11 = true := by kernel_rfl
def topiaryref05_Text.T13 : Bool × List (List Nat × List Nat) := (true, [([], []), ([0], [0]), ([], []), ([2], [2]), ([3], [3]), ([1, 4], [1, 4]), ([5], [5]), ([], []), ([7], [7]), ([6, 8], [6, 8]), ([9, 4, 0, 1, 2, 3, 4, 5, 6, 7, 8, 9], [9]), ([10, 0, 1, 2, 3, 4, 5, 6, 7, 8, 9, 10], [])])
def topiaryref05_Text.B13 : List Nat := [0, 1, 0, 4, 12, 31, 63, 0, 128, 511, 1023, 2047]
theorem topiaryref05_Text.tab13 : rtab .any (opsOf Tryz.f15 13) = topiaryref05_Text.T13 := by kernel_rfl
theorem topiaryref05_Text.bits13 : waitsOk topiaryref05_Text.T13.2 topiaryref05_Text.B13 = true := by kernel_rfl
def topiaryref05_Text.T14 : Bool × List (List Nat × List Nat) := (true, [([], []), ([0], [0]), ([], []), ([2], [2]), ([3], [3]), ([1, 4], [1, 4]), ([5], [5]), ([], []), ([7], [7]), ([8, 4], [8]), ([6, 9], [6, 9]), ([10, 9, 0, 1, 2, 3, 4, 5, 6, 7, 8, 9, 10], [10]), ([11, 0, 1, 2, 3, 4, 5, 6, 7, 8, 9, 10, 11], [])])
def topiaryref05_Text.B14 : List Nat := [0, 1, 0, 4, 12, 31, 63, 0, 128, 412, 1023, 2047, 4095]
theorem topiaryref05_Text.tab14 : rtab .any (opsOf Tryz.f15 14) = topiaryref05_Text.T14 := by kernel_rfl
theorem topiaryref05_Text.bits14 : waitsOk topiaryref05_Text.T14.2 topiaryref05_Text.B14 = true := by kernel_rfl
theorem lits_ : (⟨#[32]⟩ : ByteArray).size = 1 ∧ (⟨#[99, 114, 101, 97, 116, 101, 32]⟩ : ByteArray).size = 7 ∧ (⟨#[109, 111, 118, 101, 32]⟩ : ByteArray).size = 5 ∧ (⟨#[115, 101, 116, 32]⟩ : ByteArray).size = 4 ∧ (⟨#[99, 108, 101, 97, 114, 32]⟩ : ByteArray).size = 6 ∧ (⟨#[116, 101, 120, 116, 32]⟩ : ByteArray).size = 5 := ⟨rfl, rfl, rfl, rfl, rfl, rfl⟩
set_option maxHeartbeats 8000000 in
set_option maxRecDepth 100000 in
theorem topiaryref05_Text.calls (k : Nat) (a0_0 : Int) (a0_1 : Int) (a0_2 : Int) (A0_3 : Option Addr) (c0_3 : Nat) (l0_3 : List Int) (a0_4 : Int) (a0_5 : Int) (a0_6 : Int) (a0_7 : Int) (a0_8 : Int) (a0_9 : Int) (a0_10 : Int) (a0_11 : ByteArray) (a0_12 : ByteArray) (r1 : ByteArray) (r2 : Int) (w : World) (hr0_3 : Kd.C (Kd.int .i64) w A0_3 l0_3.length l0_3) (hc0_3 : l0_3.length ≤ c0_3) (h : topiaryref05_Text.f k a0_0 a0_1 a0_2 l0_3 a0_4 a0_5 a0_6 a0_7 a0_8 a0_9 a0_10 a0_11 a0_12 = some (r1, r2)) :
  Calls Tryz.prog 15 #[.agg #[.int .i64 a0_0, .int .i64 a0_1, .int .i64 a0_2, .slice A0_3 l0_3.length c0_3, .int .i64 a0_4, .int .i64 a0_5, .int .i64 a0_6, .int .i64 a0_7, .int .i64 a0_8, .int .i64 a0_9, .int .i64 a0_10, .string a0_11, .string a0_12]] w fun e w' => e = .returned (.tuple #[.string r1, .int .i64 r2]) ∧ Below w.heap.size w w' := by
 have hu26 := Tryz.underlying26
 have hu23 := Tryz.underlying23
 have HR0_3 := Aside0.mk hr0_3
 have HC0_3 := Aside0.mk hc0_3
 clear hr0_3 hc0_3
 have HB := Aside0.mk (Below.refl w.heap.size w)
 have H : ((topiaryref05_Check.f k a0_0 a0_1 a0_2 l0_3 a0_4 a0_5 a0_6 a0_7 a0_8 a0_9 a0_10 a0_11 a0_12).bind fun t381 => (if t381 = 0 then ((topiaryref02_Text.f k l0_3).bind fun bt383 => ((topiaryref05_Stamp.f k a0_0 a0_1).bind fun t385 => (if t385.size + 1 ≤ 9223372036854775807 then ((topiaryref01_Digits.f k a0_2).bind fun t386 => (if (t385 ++ (⟨#[32]⟩ : ByteArray)).size + t386.size ≤ 9223372036854775807 then (if ((t385 ++ (⟨#[32]⟩ : ByteArray)) ++ t386).size + 1 ≤ 9223372036854775807 then (if (((t385 ++ (⟨#[32]⟩ : ByteArray)) ++ t386) ++ (⟨#[32]⟩ : ByteArray)).size + bt383.1.size ≤ 9223372036854775807 then (if ((((t385 ++ (⟨#[32]⟩ : ByteArray)) ++ t386) ++ (⟨#[32]⟩ : ByteArray)) ++ bt383.1).size + 1 ≤ 9223372036854775807 then (if a0_4 = 1 then (if 7 + (((((t385 ++ (⟨#[32]⟩ : ByteArray)) ++ t386) ++ (⟨#[32]⟩ : ByteArray)) ++ bt383.1) ++ (⟨#[32]⟩ : ByteArray)).size ≤ 9223372036854775807 then ((topiaryref05_Stamp.f k a0_7 a0_8).bind fun t387 => (if ((⟨#[99, 114, 101, 97, 116, 101, 32]⟩ : ByteArray) ++ (((((t385 ++ (⟨#[32]⟩ : ByteArray)) ++ t386) ++ (⟨#[32]⟩ : ByteArray)) ++ bt383.1) ++ (⟨#[32]⟩ : ByteArray))).size + t387.size ≤ 9223372036854775807 then (if (((⟨#[99, 114, 101, 97, 116, 101, 32]⟩ : ByteArray) ++ (((((t385 ++ (⟨#[32]⟩ : ByteArray)) ++ t386) ++ (⟨#[32]⟩ : ByteArray)) ++ bt383.1) ++ (⟨#[32]⟩ : ByteArray))) ++ t387).size + 1 ≤ 9223372036854775807 then ((topiaryref05_After.f k a0_9 a0_10).bind fun t388 => (if ((((⟨#[99, 114, 101, 97, 116, 101, 32]⟩ : ByteArray) ++ (((((t385 ++ (⟨#[32]⟩ : ByteArray)) ++ t386) ++ (⟨#[32]⟩ : ByteArray)) ++ bt383.1) ++ (⟨#[32]⟩ : ByteArray))) ++ t387) ++ (⟨#[32]⟩ : ByteArray)).size + t388.size ≤ 9223372036854775807 then (if (((((⟨#[99, 114, 101, 97, 116, 101, 32]⟩ : ByteArray) ++ (((((t385 ++ (⟨#[32]⟩ : ByteArray)) ++ t386) ++ (⟨#[32]⟩ : ByteArray)) ++ bt383.1) ++ (⟨#[32]⟩ : ByteArray))) ++ t387) ++ (⟨#[32]⟩ : ByteArray)) ++ t388).size + 1 ≤ 9223372036854775807 then (if ((((((⟨#[99, 114, 101, 97, 116, 101, 32]⟩ : ByteArray) ++ (((((t385 ++ (⟨#[32]⟩ : ByteArray)) ++ t386) ++ (⟨#[32]⟩ : ByteArray)) ++ bt383.1) ++ (⟨#[32]⟩ : ByteArray))) ++ t387) ++ (⟨#[32]⟩ : ByteArray)) ++ t388) ++ (⟨#[32]⟩ : ByteArray)).size + a0_11.size ≤ 9223372036854775807 then (some (((((((⟨#[99, 114, 101, 97, 116, 101, 32]⟩ : ByteArray) ++ (((((t385 ++ (⟨#[32]⟩ : ByteArray)) ++ t386) ++ (⟨#[32]⟩ : ByteArray)) ++ bt383.1) ++ (⟨#[32]⟩ : ByteArray))) ++ t387) ++ (⟨#[32]⟩ : ByteArray)) ++ t388) ++ (⟨#[32]⟩ : ByteArray)) ++ a0_11, 0)) else (none)) else (none)) else (none))) else (none)) else (none))) else (none)) else (if a0_4 = 2 then (if 5 + (((((t385 ++ (⟨#[32]⟩ : ByteArray)) ++ t386) ++ (⟨#[32]⟩ : ByteArray)) ++ bt383.1) ++ (⟨#[32]⟩ : ByteArray)).size ≤ 9223372036854775807 then ((topiaryref05_Stamp.f k a0_5 a0_6).bind fun t389 => (if ((⟨#[109, 111, 118, 101, 32]⟩ : ByteArray) ++ (((((t385 ++ (⟨#[32]⟩ : ByteArray)) ++ t386) ++ (⟨#[32]⟩ : ByteArray)) ++ bt383.1) ++ (⟨#[32]⟩ : ByteArray))).size + t389.size ≤ 9223372036854775807 then (if (((⟨#[109, 111, 118, 101, 32]⟩ : ByteArray) ++ (((((t385 ++ (⟨#[32]⟩ : ByteArray)) ++ t386) ++ (⟨#[32]⟩ : ByteArray)) ++ bt383.1) ++ (⟨#[32]⟩ : ByteArray))) ++ t389).size + 1 ≤ 9223372036854775807 then ((topiaryref05_Stamp.f k a0_7 a0_8).bind fun t390 => (if ((((⟨#[109, 111, 118, 101, 32]⟩ : ByteArray) ++ (((((t385 ++ (⟨#[32]⟩ : ByteArray)) ++ t386) ++ (⟨#[32]⟩ : ByteArray)) ++ bt383.1) ++ (⟨#[32]⟩ : ByteArray))) ++ t389) ++ (⟨#[32]⟩ : ByteArray)).size + t390.size ≤ 9223372036854775807 then (if (((((⟨#[109, 111, 118, 101, 32]⟩ : ByteArray) ++ (((((t385 ++ (⟨#[32]⟩ : ByteArray)) ++ t386) ++ (⟨#[32]⟩ : ByteArray)) ++ bt383.1) ++ (⟨#[32]⟩ : ByteArray))) ++ t389) ++ (⟨#[32]⟩ : ByteArray)) ++ t390).size + 1 ≤ 9223372036854775807 then ((topiaryref05_After.f k a0_9 a0_10).bind fun t391 => (if ((((((⟨#[109, 111, 118, 101, 32]⟩ : ByteArray) ++ (((((t385 ++ (⟨#[32]⟩ : ByteArray)) ++ t386) ++ (⟨#[32]⟩ : ByteArray)) ++ bt383.1) ++ (⟨#[32]⟩ : ByteArray))) ++ t389) ++ (⟨#[32]⟩ : ByteArray)) ++ t390) ++ (⟨#[32]⟩ : ByteArray)).size + t391.size ≤ 9223372036854775807 then (some (((((((⟨#[109, 111, 118, 101, 32]⟩ : ByteArray) ++ (((((t385 ++ (⟨#[32]⟩ : ByteArray)) ++ t386) ++ (⟨#[32]⟩ : ByteArray)) ++ bt383.1) ++ (⟨#[32]⟩ : ByteArray))) ++ t389) ++ (⟨#[32]⟩ : ByteArray)) ++ t390) ++ (⟨#[32]⟩ : ByteArray)) ++ t391, 0)) else (none))) else (none)) else (none))) else (none)) else (none))) else (none)) else (if a0_4 = 3 then (if 4 + (((((t385 ++ (⟨#[32]⟩ : ByteArray)) ++ t386) ++ (⟨#[32]⟩ : ByteArray)) ++ bt383.1) ++ (⟨#[32]⟩ : ByteArray)).size ≤ 9223372036854775807 then ((topiaryref05_Stamp.f k a0_5 a0_6).bind fun t392 => (if ((⟨#[115, 101, 116, 32]⟩ : ByteArray) ++ (((((t385 ++ (⟨#[32]⟩ : ByteArray)) ++ t386) ++ (⟨#[32]⟩ : ByteArray)) ++ bt383.1) ++ (⟨#[32]⟩ : ByteArray))).size + t392.size ≤ 9223372036854775807 then (if (((⟨#[115, 101, 116, 32]⟩ : ByteArray) ++ (((((t385 ++ (⟨#[32]⟩ : ByteArray)) ++ t386) ++ (⟨#[32]⟩ : ByteArray)) ++ bt383.1) ++ (⟨#[32]⟩ : ByteArray))) ++ t392).size + 1 ≤ 9223372036854775807 then (if ((((⟨#[115, 101, 116, 32]⟩ : ByteArray) ++ (((((t385 ++ (⟨#[32]⟩ : ByteArray)) ++ t386) ++ (⟨#[32]⟩ : ByteArray)) ++ bt383.1) ++ (⟨#[32]⟩ : ByteArray))) ++ t392) ++ (⟨#[32]⟩ : ByteArray)).size + a0_11.size ≤ 9223372036854775807 then (if (((((⟨#[115, 101, 116, 32]⟩ : ByteArray) ++ (((((t385 ++ (⟨#[32]⟩ : ByteArray)) ++ t386) ++ (⟨#[32]⟩ : ByteArray)) ++ bt383.1) ++ (⟨#[32]⟩ : ByteArray))) ++ t392) ++ (⟨#[32]⟩ : ByteArray)) ++ a0_11).size + 1 ≤ 9223372036854775807 then ((topiaryref05_Quote.f k a0_12).bind fun t393 => (if ((((((⟨#[115, 101, 116, 32]⟩ : ByteArray) ++ (((((t385 ++ (⟨#[32]⟩ : ByteArray)) ++ t386) ++ (⟨#[32]⟩ : ByteArray)) ++ bt383.1) ++ (⟨#[32]⟩ : ByteArray))) ++ t392) ++ (⟨#[32]⟩ : ByteArray)) ++ a0_11) ++ (⟨#[32]⟩ : ByteArray)).size + t393.size ≤ 9223372036854775807 then (some (((((((⟨#[115, 101, 116, 32]⟩ : ByteArray) ++ (((((t385 ++ (⟨#[32]⟩ : ByteArray)) ++ t386) ++ (⟨#[32]⟩ : ByteArray)) ++ bt383.1) ++ (⟨#[32]⟩ : ByteArray))) ++ t392) ++ (⟨#[32]⟩ : ByteArray)) ++ a0_11) ++ (⟨#[32]⟩ : ByteArray)) ++ t393, 0)) else (none))) else (none)) else (none)) else (none)) else (none))) else (none)) else (if a0_4 = 4 then (if 6 + (((((t385 ++ (⟨#[32]⟩ : ByteArray)) ++ t386) ++ (⟨#[32]⟩ : ByteArray)) ++ bt383.1) ++ (⟨#[32]⟩ : ByteArray)).size ≤ 9223372036854775807 then ((topiaryref05_Stamp.f k a0_5 a0_6).bind fun t394 => (if ((⟨#[99, 108, 101, 97, 114, 32]⟩ : ByteArray) ++ (((((t385 ++ (⟨#[32]⟩ : ByteArray)) ++ t386) ++ (⟨#[32]⟩ : ByteArray)) ++ bt383.1) ++ (⟨#[32]⟩ : ByteArray))).size + t394.size ≤ 9223372036854775807 then (if (((⟨#[99, 108, 101, 97, 114, 32]⟩ : ByteArray) ++ (((((t385 ++ (⟨#[32]⟩ : ByteArray)) ++ t386) ++ (⟨#[32]⟩ : ByteArray)) ++ bt383.1) ++ (⟨#[32]⟩ : ByteArray))) ++ t394).size + 1 ≤ 9223372036854775807 then (if ((((⟨#[99, 108, 101, 97, 114, 32]⟩ : ByteArray) ++ (((((t385 ++ (⟨#[32]⟩ : ByteArray)) ++ t386) ++ (⟨#[32]⟩ : ByteArray)) ++ bt383.1) ++ (⟨#[32]⟩ : ByteArray))) ++ t394) ++ (⟨#[32]⟩ : ByteArray)).size + a0_11.size ≤ 9223372036854775807 then (some (((((⟨#[99, 108, 101, 97, 114, 32]⟩ : ByteArray) ++ (((((t385 ++ (⟨#[32]⟩ : ByteArray)) ++ t386) ++ (⟨#[32]⟩ : ByteArray)) ++ bt383.1) ++ (⟨#[32]⟩ : ByteArray))) ++ t394) ++ (⟨#[32]⟩ : ByteArray)) ++ a0_11, 0)) else (none)) else (none)) else (none))) else (none)) else (if 5 + (((((t385 ++ (⟨#[32]⟩ : ByteArray)) ++ t386) ++ (⟨#[32]⟩ : ByteArray)) ++ bt383.1) ++ (⟨#[32]⟩ : ByteArray)).size ≤ 9223372036854775807 then ((topiaryref05_Stamp.f k a0_5 a0_6).bind fun t395 => (if ((⟨#[116, 101, 120, 116, 32]⟩ : ByteArray) ++ (((((t385 ++ (⟨#[32]⟩ : ByteArray)) ++ t386) ++ (⟨#[32]⟩ : ByteArray)) ++ bt383.1) ++ (⟨#[32]⟩ : ByteArray))).size + t395.size ≤ 9223372036854775807 then (if (((⟨#[116, 101, 120, 116, 32]⟩ : ByteArray) ++ (((((t385 ++ (⟨#[32]⟩ : ByteArray)) ++ t386) ++ (⟨#[32]⟩ : ByteArray)) ++ bt383.1) ++ (⟨#[32]⟩ : ByteArray))) ++ t395).size + 1 ≤ 9223372036854775807 then ((topiaryref05_Quote.f k a0_12).bind fun t396 => (if ((((⟨#[116, 101, 120, 116, 32]⟩ : ByteArray) ++ (((((t385 ++ (⟨#[32]⟩ : ByteArray)) ++ t386) ++ (⟨#[32]⟩ : ByteArray)) ++ bt383.1) ++ (⟨#[32]⟩ : ByteArray))) ++ t395) ++ (⟨#[32]⟩ : ByteArray)).size + t396.size ≤ 9223372036854775807 then (some (((((⟨#[116, 101, 120, 116, 32]⟩ : ByteArray) ++ (((((t385 ++ (⟨#[32]⟩ : ByteArray)) ++ t386) ++ (⟨#[32]⟩ : ByteArray)) ++ bt383.1) ++ (⟨#[32]⟩ : ByteArray))) ++ t395) ++ (⟨#[32]⟩ : ByteArray)) ++ t396, 0)) else (none))) else (none)) else (none))) else (none)))))) else (none)) else (none)) else (none)) else (none))) else (none)))) else ((topiaryref05_Check.f k a0_0 a0_1 a0_2 l0_3 a0_4 a0_5 a0_6 a0_7 a0_8 a0_9 a0_10 a0_11 a0_12).bind fun t382 => (some ((⟨#[]⟩ : ByteArray), t382))))) = some (r1, r2) := h
 clear h
 replace H := Option.bind_eq_some_iff.mp H
 obtain ⟨t381, A20, H⟩ := H
 have A2 := Aside0.mk A20
 clear A20
 by_cases c3 : t381 = 0
 ·rw [if_pos c3] at H
  have c3b0 : (t381 == 0) = true := beq_iff_eq.mpr c3
  have c3b1 : (t381 != 0) = false := bne_eq_false_iff_eq.mpr c3
  clear c3
  replace H := Option.bind_eq_some_iff.mp H
  obtain ⟨⟨t383, t384⟩, A40, H⟩ := H
  (try dsimp only at H)
  have A4 := Aside0.mk A40
  clear A40
  replace H := Option.bind_eq_some_iff.mp H
  obtain ⟨t385, A50, H⟩ := H
  have A5 := Aside0.mk A50
  clear A50
  by_cases c6 : t385.size + 1 ≤ 9223372036854775807
  ·rw [if_pos c6] at H
   have c6b0 := eq_true c6
   have c6b1 : decide (t385.size + 1 ≤ 9223372036854775807) = true := decide_eq_true c6
   try have c6b2 : (9223372036854775807 < t385.size + 1) = False := eq_false (Nat.not_lt.2 c6)
   try have c6b4 := c6b2
   try simp only [ByteArray.size_append, lits_] at c6b4
   replace H := Option.bind_eq_some_iff.mp H
   obtain ⟨t386, A70, H⟩ := H
   have A7 := Aside0.mk A70
   clear A70
   by_cases c8 : (t385 ++ (⟨#[32]⟩ : ByteArray)).size + t386.size ≤ 9223372036854775807
   ·rw [if_pos c8] at H
    have c8b0 := eq_true c8
    have c8b1 : decide ((t385 ++ (⟨#[32]⟩ : ByteArray)).size + t386.size ≤ 9223372036854775807) = true := decide_eq_true c8
    try have c8b2 : (9223372036854775807 < (t385 ++ (⟨#[32]⟩ : ByteArray)).size + t386.size) = False := eq_false (Nat.not_lt.2 c8)
    try have c8b4 := c8b2
    try simp only [ByteArray.size_append, lits_] at c8b4
    try have c8b3 : (9223372036854775807 < t385.size + 1 + t386.size) = False := eq_false (Nat.not_lt.2 (by have h_ := c8; (try simp only [ByteArray.size_append] at h_); exact h_))
    by_cases c9 : ((t385 ++ (⟨#[32]⟩ : ByteArray)) ++ t386).size + 1 ≤ 9223372036854775807
    ·rw [if_pos c9] at H
     have c9b0 := eq_true c9
     have c9b1 : decide (((t385 ++ (⟨#[32]⟩ : ByteArray)) ++ t386).size + 1 ≤ 9223372036854775807) = true := decide_eq_true c9
     try have c9b2 : (9223372036854775807 < ((t385 ++ (⟨#[32]⟩ : ByteArray)) ++ t386).size + 1) = False := eq_false (Nat.not_lt.2 c9)
     try have c9b4 := c9b2
     try simp only [ByteArray.size_append, lits_] at c9b4
     by_cases c10 : (((t385 ++ (⟨#[32]⟩ : ByteArray)) ++ t386) ++ (⟨#[32]⟩ : ByteArray)).size + t383.size ≤ 9223372036854775807
     ·rw [if_pos c10] at H
      have c10b0 := eq_true c10
      have c10b1 : decide ((((t385 ++ (⟨#[32]⟩ : ByteArray)) ++ t386) ++ (⟨#[32]⟩ : ByteArray)).size + t383.size ≤ 9223372036854775807) = true := decide_eq_true c10
      try have c10b2 : (9223372036854775807 < (((t385 ++ (⟨#[32]⟩ : ByteArray)) ++ t386) ++ (⟨#[32]⟩ : ByteArray)).size + t383.size) = False := eq_false (Nat.not_lt.2 c10)
      try have c10b4 := c10b2
      try simp only [ByteArray.size_append, lits_] at c10b4
      by_cases c11 : ((((t385 ++ (⟨#[32]⟩ : ByteArray)) ++ t386) ++ (⟨#[32]⟩ : ByteArray)) ++ t383).size + 1 ≤ 9223372036854775807
      ·rw [if_pos c11] at H
       have c11b0 := eq_true c11
       have c11b1 : decide (((((t385 ++ (⟨#[32]⟩ : ByteArray)) ++ t386) ++ (⟨#[32]⟩ : ByteArray)) ++ t383).size + 1 ≤ 9223372036854775807) = true := decide_eq_true c11
       try have c11b2 : (9223372036854775807 < ((((t385 ++ (⟨#[32]⟩ : ByteArray)) ++ t386) ++ (⟨#[32]⟩ : ByteArray)) ++ t383).size + 1) = False := eq_false (Nat.not_lt.2 c11)
       try have c11b4 := c11b2
       try simp only [ByteArray.size_append, lits_] at c11b4
       by_cases c12 : a0_4 = 1
       ·rw [if_pos c12] at H
        have c12b0 : (a0_4 == 1) = true := beq_iff_eq.mpr c12
        have c12b1 : (a0_4 != 1) = false := bne_eq_false_iff_eq.mpr c12
        clear c12
        by_cases c13 : 7 + (((((t385 ++ (⟨#[32]⟩ : ByteArray)) ++ t386) ++ (⟨#[32]⟩ : ByteArray)) ++ t383) ++ (⟨#[32]⟩ : ByteArray)).size ≤ 9223372036854775807
        ·rw [if_pos c13] at H
         have c13b0 := eq_true c13
         have c13b1 : decide (7 + (((((t385 ++ (⟨#[32]⟩ : ByteArray)) ++ t386) ++ (⟨#[32]⟩ : ByteArray)) ++ t383) ++ (⟨#[32]⟩ : ByteArray)).size ≤ 9223372036854775807) = true := decide_eq_true c13
         try have c13b2 : (9223372036854775807 < 7 + (((((t385 ++ (⟨#[32]⟩ : ByteArray)) ++ t386) ++ (⟨#[32]⟩ : ByteArray)) ++ t383) ++ (⟨#[32]⟩ : ByteArray)).size) = False := eq_false (Nat.not_lt.2 c13)
         try have c13b4 := c13b2
         try simp only [ByteArray.size_append, lits_] at c13b4
         replace H := Option.bind_eq_some_iff.mp H
         obtain ⟨t387, A140, H⟩ := H
         have A14 := Aside0.mk A140
         clear A140
         by_cases c15 : ((⟨#[99, 114, 101, 97, 116, 101, 32]⟩ : ByteArray) ++ (((((t385 ++ (⟨#[32]⟩ : ByteArray)) ++ t386) ++ (⟨#[32]⟩ : ByteArray)) ++ t383) ++ (⟨#[32]⟩ : ByteArray))).size + t387.size ≤ 9223372036854775807
         ·rw [if_pos c15] at H
          have c15b0 := eq_true c15
          have c15b1 : decide (((⟨#[99, 114, 101, 97, 116, 101, 32]⟩ : ByteArray) ++ (((((t385 ++ (⟨#[32]⟩ : ByteArray)) ++ t386) ++ (⟨#[32]⟩ : ByteArray)) ++ t383) ++ (⟨#[32]⟩ : ByteArray))).size + t387.size ≤ 9223372036854775807) = true := decide_eq_true c15
          try have c15b2 : (9223372036854775807 < ((⟨#[99, 114, 101, 97, 116, 101, 32]⟩ : ByteArray) ++ (((((t385 ++ (⟨#[32]⟩ : ByteArray)) ++ t386) ++ (⟨#[32]⟩ : ByteArray)) ++ t383) ++ (⟨#[32]⟩ : ByteArray))).size + t387.size) = False := eq_false (Nat.not_lt.2 c15)
          try have c15b4 := c15b2
          try simp only [ByteArray.size_append, lits_] at c15b4
          by_cases c16 : (((⟨#[99, 114, 101, 97, 116, 101, 32]⟩ : ByteArray) ++ (((((t385 ++ (⟨#[32]⟩ : ByteArray)) ++ t386) ++ (⟨#[32]⟩ : ByteArray)) ++ t383) ++ (⟨#[32]⟩ : ByteArray))) ++ t387).size + 1 ≤ 9223372036854775807
          ·rw [if_pos c16] at H
           have c16b0 := eq_true c16
           have c16b1 : decide ((((⟨#[99, 114, 101, 97, 116, 101, 32]⟩ : ByteArray) ++ (((((t385 ++ (⟨#[32]⟩ : ByteArray)) ++ t386) ++ (⟨#[32]⟩ : ByteArray)) ++ t383) ++ (⟨#[32]⟩ : ByteArray))) ++ t387).size + 1 ≤ 9223372036854775807) = true := decide_eq_true c16
           try have c16b2 : (9223372036854775807 < (((⟨#[99, 114, 101, 97, 116, 101, 32]⟩ : ByteArray) ++ (((((t385 ++ (⟨#[32]⟩ : ByteArray)) ++ t386) ++ (⟨#[32]⟩ : ByteArray)) ++ t383) ++ (⟨#[32]⟩ : ByteArray))) ++ t387).size + 1) = False := eq_false (Nat.not_lt.2 c16)
           try have c16b4 := c16b2
           try simp only [ByteArray.size_append, lits_] at c16b4
           replace H := Option.bind_eq_some_iff.mp H
           obtain ⟨t388, A170, H⟩ := H
           have A17 := Aside0.mk A170
           clear A170
           by_cases c18 : ((((⟨#[99, 114, 101, 97, 116, 101, 32]⟩ : ByteArray) ++ (((((t385 ++ (⟨#[32]⟩ : ByteArray)) ++ t386) ++ (⟨#[32]⟩ : ByteArray)) ++ t383) ++ (⟨#[32]⟩ : ByteArray))) ++ t387) ++ (⟨#[32]⟩ : ByteArray)).size + t388.size ≤ 9223372036854775807
           ·rw [if_pos c18] at H
            have c18b0 := eq_true c18
            have c18b1 : decide (((((⟨#[99, 114, 101, 97, 116, 101, 32]⟩ : ByteArray) ++ (((((t385 ++ (⟨#[32]⟩ : ByteArray)) ++ t386) ++ (⟨#[32]⟩ : ByteArray)) ++ t383) ++ (⟨#[32]⟩ : ByteArray))) ++ t387) ++ (⟨#[32]⟩ : ByteArray)).size + t388.size ≤ 9223372036854775807) = true := decide_eq_true c18
            try have c18b2 : (9223372036854775807 < ((((⟨#[99, 114, 101, 97, 116, 101, 32]⟩ : ByteArray) ++ (((((t385 ++ (⟨#[32]⟩ : ByteArray)) ++ t386) ++ (⟨#[32]⟩ : ByteArray)) ++ t383) ++ (⟨#[32]⟩ : ByteArray))) ++ t387) ++ (⟨#[32]⟩ : ByteArray)).size + t388.size) = False := eq_false (Nat.not_lt.2 c18)
            try have c18b4 := c18b2
            try simp only [ByteArray.size_append, lits_] at c18b4
            by_cases c19 : (((((⟨#[99, 114, 101, 97, 116, 101, 32]⟩ : ByteArray) ++ (((((t385 ++ (⟨#[32]⟩ : ByteArray)) ++ t386) ++ (⟨#[32]⟩ : ByteArray)) ++ t383) ++ (⟨#[32]⟩ : ByteArray))) ++ t387) ++ (⟨#[32]⟩ : ByteArray)) ++ t388).size + 1 ≤ 9223372036854775807
            ·rw [if_pos c19] at H
             have c19b0 := eq_true c19
             have c19b1 : decide ((((((⟨#[99, 114, 101, 97, 116, 101, 32]⟩ : ByteArray) ++ (((((t385 ++ (⟨#[32]⟩ : ByteArray)) ++ t386) ++ (⟨#[32]⟩ : ByteArray)) ++ t383) ++ (⟨#[32]⟩ : ByteArray))) ++ t387) ++ (⟨#[32]⟩ : ByteArray)) ++ t388).size + 1 ≤ 9223372036854775807) = true := decide_eq_true c19
             try have c19b2 : (9223372036854775807 < (((((⟨#[99, 114, 101, 97, 116, 101, 32]⟩ : ByteArray) ++ (((((t385 ++ (⟨#[32]⟩ : ByteArray)) ++ t386) ++ (⟨#[32]⟩ : ByteArray)) ++ t383) ++ (⟨#[32]⟩ : ByteArray))) ++ t387) ++ (⟨#[32]⟩ : ByteArray)) ++ t388).size + 1) = False := eq_false (Nat.not_lt.2 c19)
             try have c19b4 := c19b2
             try simp only [ByteArray.size_append, lits_] at c19b4
             by_cases c20 : ((((((⟨#[99, 114, 101, 97, 116, 101, 32]⟩ : ByteArray) ++ (((((t385 ++ (⟨#[32]⟩ : ByteArray)) ++ t386) ++ (⟨#[32]⟩ : ByteArray)) ++ t383) ++ (⟨#[32]⟩ : ByteArray))) ++ t387) ++ (⟨#[32]⟩ : ByteArray)) ++ t388) ++ (⟨#[32]⟩ : ByteArray)).size + a0_11.size ≤ 9223372036854775807
             ·rw [if_pos c20] at H
              have c20b0 := eq_true c20
              have c20b1 : decide (((((((⟨#[99, 114, 101, 97, 116, 101, 32]⟩ : ByteArray) ++ (((((t385 ++ (⟨#[32]⟩ : ByteArray)) ++ t386) ++ (⟨#[32]⟩ : ByteArray)) ++ t383) ++ (⟨#[32]⟩ : ByteArray))) ++ t387) ++ (⟨#[32]⟩ : ByteArray)) ++ t388) ++ (⟨#[32]⟩ : ByteArray)).size + a0_11.size ≤ 9223372036854775807) = true := decide_eq_true c20
              try have c20b2 : (9223372036854775807 < ((((((⟨#[99, 114, 101, 97, 116, 101, 32]⟩ : ByteArray) ++ (((((t385 ++ (⟨#[32]⟩ : ByteArray)) ++ t386) ++ (⟨#[32]⟩ : ByteArray)) ++ t383) ++ (⟨#[32]⟩ : ByteArray))) ++ t387) ++ (⟨#[32]⟩ : ByteArray)) ++ t388) ++ (⟨#[32]⟩ : ByteArray)).size + a0_11.size) = False := eq_false (Nat.not_lt.2 c20)
              try have c20b4 := c20b2
              try simp only [ByteArray.size_append, lits_] at c20b4
              simp only [Option.some.injEq, Prod.mk.injEq] at H
              obtain ⟨rfl, rfl⟩ := H
              go_enter Tryz.func15, Tryz.ntmps15
              try go_wp2_with (first | ((with_reducible refine gate_dst (N := 1) rfl ?_); refine box_event ?hg (N := 1) ?hd (cs := #[.int .i64 a0_0, .int .i64 a0_1, .int .i64 a0_2, .slice A0_3 l0_3.length c0_3, .int .i64 a0_4, .int .i64 a0_5, .int .i64 a0_6, .int .i64 a0_7, .int .i64 a0_8, .int .i64 a0_9, .int .i64 a0_10, .string a0_11, .string a0_12]) (t := 26) ?hr ?_; (case hd => rfl); (case hg => rfl); (case hr => first | (go_simp; done) | (go_simp; rfl)); intro gb380 hg w21 hbox hb; have BK380 := Aside0.mk (hbox); have GW380 := Aside0.mk ((zq10_ : w.heap.size ≤ gb380)); have GE380 := Aside0.mk ((zq10_ : w.heap.size ≤ gb380)); replace HB := Aside0.mk (below_step zq0_ hb); clear hb hbox hg; obtain ⟨hcz22_0, hfz22_0, hcz22_1, hfz22_1, hcz22_2, hfz22_2, hcz22_3, hfz22_3, hcz22_4, hfz22_4, hcz22_5, hfz22_5, hcz22_6, hfz22_6, hcz22_7, hfz22_7, hcz22_8, hfz22_8, hcz22_9, hfz22_9, hcz22_10, hfz22_10, hcz22_11, hfz22_11, hcz22_12, hfz22_12⟩ := zqC13_ BK380.out) | ((with_reducible refine gate_callee (f := 10) rfl ?_); refine zqG_ (some 8) rfl Tryz.func10 #[.agg #[.int .i64 a0_0, .int .i64 a0_1, .int .i64 a0_2, .slice A0_3 l0_3.length c0_3, .int .i64 a0_4, .int .i64 a0_5, .int .i64 a0_6, .int .i64 a0_7, .int .i64 a0_8, .int .i64 a0_9, .int .i64 a0_10, .string a0_11, .string a0_12]] rfl ?_; (with_reducible refine (topiaryref05_Check.calls k a0_0 a0_1 a0_2 _ _ l0_3 a0_4 a0_5 a0_6 a0_7 a0_8 a0_9 a0_10 a0_11 a0_12 t381 _ ?side1 ?side2 A2.out).mono ?_); (case side1 => repeat (first | exact (Kd.C_below HR0_3.out HB.out) | (with_reducible refine Kd.C_alloc ?_ _) | (with_reducible refine Kd.C_drewN ?_ _) | (with_reducible refine Kd.C_drew ?_))); (case side2 => exact HC0_3.out); rintro e w23 ⟨rfl, hb⟩; refine ⟨_, rfl, ?_⟩; replace BK380 := Aside0.mk (blk_below (zqK_ BK380.out) hb); replace HB := Aside0.mk (below_step (zqB1_ GE380.out) hb); (try clear hb); (try clear hb2); (try clear hk); (try clear hi); obtain ⟨hcz24_0, hfz24_0, hcz24_1, hfz24_1, hcz24_2, hfz24_2, hcz24_3, hfz24_3, hcz24_4, hfz24_4, hcz24_5, hfz24_5, hcz24_6, hfz24_6, hcz24_7, hfz24_7, hcz24_8, hfz24_8, hcz24_9, hfz24_9, hcz24_10, hfz24_10, hcz24_11, hfz24_11, hcz24_12, hfz24_12⟩ := zqC13_ BK380.out) | ((with_reducible refine gate_callee (f := 41) rfl ?_); refine zqG_ (some 15) rfl Tryz.func41 #[.slice A0_3 l0_3.length c0_3] rfl ?_; (with_reducible refine (topiaryref02_Text.calls k _ _ l0_3 t383 t384 _ ?side1 ?side2 A4.out).mono ?_); (case side1 => repeat (first | exact (Kd.C_below HR0_3.out HB.out) | (with_reducible refine Kd.C_alloc ?_ _) | (with_reducible refine Kd.C_drewN ?_ _) | (with_reducible refine Kd.C_drew ?_))); (case side2 => exact HC0_3.out); rintro e w25 ⟨rfl, hb⟩; refine ⟨_, rfl, ?_⟩; replace BK380 := Aside0.mk (blk_below (zqK_ BK380.out) hb); replace HB := Aside0.mk (below_step (zqB1_ GE380.out) hb); (try clear hb); (try clear hb2); (try clear hk); (try clear hi)))
              replace BK380 := Aside0.mk (blk_drew BK380.out)
              replace HB := Aside0.mk (below_drew1 HB.out)
              refine start_ (n := 13) (S := fun w' => w'.cell? ⟨gb380, 0, none⟩ = some (.int .i64 a0_0) ∧ w'.cell? ⟨gb380, 1, none⟩ = some (.int .i64 a0_1) ∧ w'.cell? ⟨gb380, 2, none⟩ = some (.int .i64 a0_2) ∧ w'.cell? ⟨gb380, 3, none⟩ = some (.slice A0_3 l0_3.length c0_3) ∧ w'.cell? ⟨gb380, 4, none⟩ = some (.int .i64 a0_4) ∧ w'.cell? ⟨gb380, 5, none⟩ = some (.int .i64 a0_5) ∧ w'.cell? ⟨gb380, 6, none⟩ = some (.int .i64 a0_6) ∧ w'.cell? ⟨gb380, 7, none⟩ = some (.int .i64 a0_7) ∧ w'.cell? ⟨gb380, 8, none⟩ = some (.int .i64 a0_8) ∧ w'.cell? ⟨gb380, 9, none⟩ = some (.int .i64 a0_9) ∧ w'.cell? ⟨gb380, 10, none⟩ = some (.int .i64 a0_10) ∧ w'.cell? ⟨gb380, 11, none⟩ = some (.string a0_11) ∧ w'.cell? ⟨gb380, 12, none⟩ = some (.string a0_12)) (ds := []) #[false, false, false, false, false, false, false, false, false, false, false, false, false] (by kernel_rfl) rfl rfl ⟨(blk_cell BK380.out 0).trans rfl, (blk_cell BK380.out 1).trans rfl, (blk_cell BK380.out 2).trans rfl, (blk_cell BK380.out 3).trans rfl, (blk_cell BK380.out 4).trans rfl, (blk_cell BK380.out 5).trans rfl, (blk_cell BK380.out 6).trans rfl, (blk_cell BK380.out 7).trans rfl, (blk_cell BK380.out 8).trans rfl, (blk_cell BK380.out 9).trans rfl, (blk_cell BK380.out 10).trans rfl, (blk_cell BK380.out 11).trans rfl, (blk_cell BK380.out 12).trans rfl⟩ (fun hHeld => ?_); refine with_tabW topiaryref05_Text.tab4 topiaryref05_Text.bits4 (fun HT_ HW_ => ?_)
              generalize w25.drew = w26 at BK380 HB hHeld ⊢
              refine zqp_ 0 18 HT_ ?_
              refine zqp_ 4 22 HT_ ?_
              refine zqp_ 9 27 HT_ ?_
              refine zqt13_ 1 19 HT_ HW_ hHeld ?_
              refine zqt13_ 5 23 HT_ HW_ hHeld ?_
              refine zqo_ 2 20 HT_ (fun K hK => ?_)
              refine goes_ Tryz.func42 (by kernel_rfl) rfl #[.agg #[.int .i64 a0_0, .int .i64 a0_1]] (by rfl) rfl rfl zq4_ ?_
              with_reducible refine (topiaryref05_Stamp.calls k a0_0 a0_1 t385 _ A5.out).mono ?_
              rintro e w27 ⟨rfl, hb⟩
              refine ⟨_, rfl, ?_⟩
              replace BK380 := Aside0.mk (blk_below (zqK_ BK380.out) hb)
              replace HB := Aside0.mk (below_step (zqB1_ GE380.out) hb)
              (try clear hb)
              (try clear hb2)
              (try clear hk)
              (try clear hi)
              refine hK.out _ _ ⟨(blk_cell BK380.out 0).trans rfl, (blk_cell BK380.out 1).trans rfl, (blk_cell BK380.out 2).trans rfl, (blk_cell BK380.out 3).trans rfl, (blk_cell BK380.out 4).trans rfl, (blk_cell BK380.out 5).trans rfl, (blk_cell BK380.out 6).trans rfl, (blk_cell BK380.out 7).trans rfl, (blk_cell BK380.out 8).trans rfl, (blk_cell BK380.out 9).trans rfl, (blk_cell BK380.out 10).trans rfl, (blk_cell BK380.out 11).trans rfl, (blk_cell BK380.out 12).trans rfl⟩ (fun hHeld => ?_)
              clear hK K
              refine norm_ (a' := ?_) ?_ ?_
              rotate_left
              ·show Act.put _ (some 20) _ = _
               simp only [Act.put, List.setIfInBounds_toArray, List.set_cons_zero, List.set_cons_succ, i64_w, i32_w]
               rfl
              refine zqp_ 3 21 HT_ ?_
              refine zqo_ 6 24 HT_ (fun K hK => ?_)
              refine goes_ Tryz.func43 (by kernel_rfl) rfl #[.int .i64 a0_2] (by rfl) rfl rfl zq4_ ?_
              with_reducible refine (topiaryref01_Digits.calls k a0_2 t386 _ A7.out).mono ?_
              rintro e w28 ⟨rfl, hb⟩
              refine ⟨_, rfl, ?_⟩
              replace BK380 := Aside0.mk (blk_below (zqK_ BK380.out) hb)
              replace HB := Aside0.mk (below_step (zqB1_ GE380.out) hb)
              (try clear hb)
              (try clear hb2)
              (try clear hk)
              (try clear hi)
              refine hK.out _ _ ⟨(blk_cell BK380.out 0).trans rfl, (blk_cell BK380.out 1).trans rfl, (blk_cell BK380.out 2).trans rfl, (blk_cell BK380.out 3).trans rfl, (blk_cell BK380.out 4).trans rfl, (blk_cell BK380.out 5).trans rfl, (blk_cell BK380.out 6).trans rfl, (blk_cell BK380.out 7).trans rfl, (blk_cell BK380.out 8).trans rfl, (blk_cell BK380.out 9).trans rfl, (blk_cell BK380.out 10).trans rfl, (blk_cell BK380.out 11).trans rfl, (blk_cell BK380.out 12).trans rfl⟩ (fun hHeld => ?_)
              clear hK K
              refine norm_ (a' := ?_) ?_ ?_
              rotate_left
              ·show Act.put _ (some 24) _ = _
               simp only [Act.put, List.setIfInBounds_toArray, List.set_cons_zero, List.set_cons_succ, i64_w, i32_w]
               rfl
              refine zqp_ 7 25 HT_ ?_
              refine zqp_ 8 26 HT_ ?_
              refine zqp_ 10 28 HT_ ?_
              refine zqp_ 11 29 HT_ ?_
              refine zqp_ 12 6 HT_ ?_
              refine done_ (done_of HT_.out (by kernel_rfl)) ?_
              obtain ⟨hcz29_0, hfz29_0, hcz29_1, hfz29_1, hcz29_2, hfz29_2, hcz29_3, hfz29_3, hcz29_4, hfz29_4, hcz29_5, hfz29_5, hcz29_6, hfz29_6, hcz29_7, hfz29_7, hcz29_8, hfz29_8, hcz29_9, hfz29_9, hcz29_10, hfz29_10, hcz29_11, hfz29_11, hcz29_12, hfz29_12⟩ := zqC13_ BK380.out
              try go_wp2
              replace BK380 := Aside0.mk (blk_drew BK380.out)
              replace HB := Aside0.mk (below_drew1 HB.out)
              refine start_ (n := 17) (S := fun w' => w'.cell? ⟨gb380, 0, none⟩ = some (.int .i64 a0_0) ∧ w'.cell? ⟨gb380, 1, none⟩ = some (.int .i64 a0_1) ∧ w'.cell? ⟨gb380, 2, none⟩ = some (.int .i64 a0_2) ∧ w'.cell? ⟨gb380, 3, none⟩ = some (.slice A0_3 l0_3.length c0_3) ∧ w'.cell? ⟨gb380, 4, none⟩ = some (.int .i64 a0_4) ∧ w'.cell? ⟨gb380, 5, none⟩ = some (.int .i64 a0_5) ∧ w'.cell? ⟨gb380, 6, none⟩ = some (.int .i64 a0_6) ∧ w'.cell? ⟨gb380, 7, none⟩ = some (.int .i64 a0_7) ∧ w'.cell? ⟨gb380, 8, none⟩ = some (.int .i64 a0_8) ∧ w'.cell? ⟨gb380, 9, none⟩ = some (.int .i64 a0_9) ∧ w'.cell? ⟨gb380, 10, none⟩ = some (.int .i64 a0_10) ∧ w'.cell? ⟨gb380, 11, none⟩ = some (.string a0_11) ∧ w'.cell? ⟨gb380, 12, none⟩ = some (.string a0_12)) (ds := []) #[false, false, false, false, false, false, false, false, false, false, false, false, false, false, false, false, false] (by kernel_rfl) rfl rfl ⟨(blk_cell BK380.out 0).trans rfl, (blk_cell BK380.out 1).trans rfl, (blk_cell BK380.out 2).trans rfl, (blk_cell BK380.out 3).trans rfl, (blk_cell BK380.out 4).trans rfl, (blk_cell BK380.out 5).trans rfl, (blk_cell BK380.out 6).trans rfl, (blk_cell BK380.out 7).trans rfl, (blk_cell BK380.out 8).trans rfl, (blk_cell BK380.out 9).trans rfl, (blk_cell BK380.out 10).trans rfl, (blk_cell BK380.out 11).trans rfl, (blk_cell BK380.out 12).trans rfl⟩ (fun hHeld => ?_); refine with_tabW topiaryref05_Text.tab7 topiaryref05_Text.bits7 (fun HT_ HW_ => ?_)
              generalize w28.drew = w30 at BK380 HB hHeld ⊢
              refine zqp_ 0 34 HT_ ?_
              refine zqp_ 1 35 HT_ ?_
              refine zqp_ 2 36 HT_ ?_
              refine zqp_ 7 41 HT_ ?_
              refine zqp_ 12 46 HT_ ?_
              refine zqt13_ 3 37 HT_ HW_ hHeld ?_
              refine zqt13_ 8 42 HT_ HW_ hHeld ?_
              refine zqt13_ 13 47 HT_ HW_ hHeld ?_
              refine zqo_ 4 38 HT_ (fun K hK => ?_)
              refine goes_ Tryz.func42 (by kernel_rfl) rfl #[.agg #[.int .i64 a0_7, .int .i64 a0_8]] (by rfl) rfl rfl zq4_ ?_
              with_reducible refine (topiaryref05_Stamp.calls k a0_7 a0_8 t387 _ A14.out).mono ?_
              rintro e w31 ⟨rfl, hb⟩
              refine ⟨_, rfl, ?_⟩
              replace BK380 := Aside0.mk (blk_below (zqK_ BK380.out) hb)
              replace HB := Aside0.mk (below_step (zqB1_ GE380.out) hb)
              (try clear hb)
              (try clear hb2)
              (try clear hk)
              (try clear hi)
              refine hK.out _ _ ⟨(blk_cell BK380.out 0).trans rfl, (blk_cell BK380.out 1).trans rfl, (blk_cell BK380.out 2).trans rfl, (blk_cell BK380.out 3).trans rfl, (blk_cell BK380.out 4).trans rfl, (blk_cell BK380.out 5).trans rfl, (blk_cell BK380.out 6).trans rfl, (blk_cell BK380.out 7).trans rfl, (blk_cell BK380.out 8).trans rfl, (blk_cell BK380.out 9).trans rfl, (blk_cell BK380.out 10).trans rfl, (blk_cell BK380.out 11).trans rfl, (blk_cell BK380.out 12).trans rfl⟩ (fun hHeld => ?_)
              clear hK K
              refine norm_ (a' := ?_) ?_ ?_
              rotate_left
              ·show Act.put _ (some 38) _ = _
               simp only [Act.put, List.setIfInBounds_toArray, List.set_cons_zero, List.set_cons_succ, i64_w, i32_w]
               rfl
              refine zqp_ 5 39 HT_ ?_
              refine zqp_ 6 40 HT_ ?_
              refine zqo_ 9 43 HT_ (fun K hK => ?_)
              refine goes_ Tryz.func44 (by kernel_rfl) rfl #[.agg #[.int .i64 a0_9, .int .i64 a0_10]] (by rfl) rfl rfl zq4_ ?_
              with_reducible refine (topiaryref05_After.calls k a0_9 a0_10 t388 _ A17.out).mono ?_
              rintro e w32 ⟨rfl, hb⟩
              refine ⟨_, rfl, ?_⟩
              replace BK380 := Aside0.mk (blk_below (zqK_ BK380.out) hb)
              replace HB := Aside0.mk (below_step (zqB1_ GE380.out) hb)
              (try clear hb)
              (try clear hb2)
              (try clear hk)
              (try clear hi)
              refine hK.out _ _ ⟨(blk_cell BK380.out 0).trans rfl, (blk_cell BK380.out 1).trans rfl, (blk_cell BK380.out 2).trans rfl, (blk_cell BK380.out 3).trans rfl, (blk_cell BK380.out 4).trans rfl, (blk_cell BK380.out 5).trans rfl, (blk_cell BK380.out 6).trans rfl, (blk_cell BK380.out 7).trans rfl, (blk_cell BK380.out 8).trans rfl, (blk_cell BK380.out 9).trans rfl, (blk_cell BK380.out 10).trans rfl, (blk_cell BK380.out 11).trans rfl, (blk_cell BK380.out 12).trans rfl⟩ (fun hHeld => ?_)
              clear hK K
              refine norm_ (a' := ?_) ?_ ?_
              rotate_left
              ·show Act.put _ (some 43) _ = _
               simp only [Act.put, List.setIfInBounds_toArray, List.set_cons_zero, List.set_cons_succ, i64_w, i32_w]
               rfl
              refine zqp_ 10 44 HT_ ?_
              refine zqp_ 11 45 HT_ ?_
              refine zqp_ 14 48 HT_ ?_
              refine zqp_ 15 2 HT_ ?_
              refine zqp_ 16 3 HT_ ?_
              refine done_ (done_of HT_.out (by kernel_rfl)) ?_
              try go_wp2
              go_ret2
              exact ⟨by first | rfl | (simp [errW_none, errW_some] <;> rfl) | (simp [*, errW_none, errW_some] <;> rfl), by repeat (first | (with_reducible first | exact HB.out | apply below_alloc | apply pw_below_drewN | apply below_drew1 | refine below_set ?_ GE380.out) | exact HB.out)⟩
             ·rw [if_neg c20] at H
              exact absurd H (by simp)
            ·rw [if_neg c19] at H
             exact absurd H (by simp)
           ·rw [if_neg c18] at H
            exact absurd H (by simp)
          ·rw [if_neg c16] at H
           exact absurd H (by simp)
         ·rw [if_neg c15] at H
          exact absurd H (by simp)
        ·rw [if_neg c13] at H
         exact absurd H (by simp)
       ·rw [if_neg c12] at H
        have c12b0 : (a0_4 == 1) = false := beq_eq_false_iff_ne.mpr c12
        have c12b1 : (a0_4 != 1) = true := bne_iff_ne.mpr c12
        by_cases c33 : a0_4 = 2
        ·rw [if_pos c33] at H
         have c33b0 : (a0_4 == 2) = true := beq_iff_eq.mpr c33
         have c33b1 : (a0_4 != 2) = false := bne_eq_false_iff_eq.mpr c33
         clear c33
         by_cases c34 : 5 + (((((t385 ++ (⟨#[32]⟩ : ByteArray)) ++ t386) ++ (⟨#[32]⟩ : ByteArray)) ++ t383) ++ (⟨#[32]⟩ : ByteArray)).size ≤ 9223372036854775807
         ·rw [if_pos c34] at H
          have c34b0 := eq_true c34
          have c34b1 : decide (5 + (((((t385 ++ (⟨#[32]⟩ : ByteArray)) ++ t386) ++ (⟨#[32]⟩ : ByteArray)) ++ t383) ++ (⟨#[32]⟩ : ByteArray)).size ≤ 9223372036854775807) = true := decide_eq_true c34
          try have c34b2 : (9223372036854775807 < 5 + (((((t385 ++ (⟨#[32]⟩ : ByteArray)) ++ t386) ++ (⟨#[32]⟩ : ByteArray)) ++ t383) ++ (⟨#[32]⟩ : ByteArray)).size) = False := eq_false (Nat.not_lt.2 c34)
          try have c34b4 := c34b2
          try simp only [ByteArray.size_append, lits_] at c34b4
          replace H := Option.bind_eq_some_iff.mp H
          obtain ⟨t389, A350, H⟩ := H
          have A35 := Aside0.mk A350
          clear A350
          by_cases c36 : ((⟨#[109, 111, 118, 101, 32]⟩ : ByteArray) ++ (((((t385 ++ (⟨#[32]⟩ : ByteArray)) ++ t386) ++ (⟨#[32]⟩ : ByteArray)) ++ t383) ++ (⟨#[32]⟩ : ByteArray))).size + t389.size ≤ 9223372036854775807
          ·rw [if_pos c36] at H
           have c36b0 := eq_true c36
           have c36b1 : decide (((⟨#[109, 111, 118, 101, 32]⟩ : ByteArray) ++ (((((t385 ++ (⟨#[32]⟩ : ByteArray)) ++ t386) ++ (⟨#[32]⟩ : ByteArray)) ++ t383) ++ (⟨#[32]⟩ : ByteArray))).size + t389.size ≤ 9223372036854775807) = true := decide_eq_true c36
           try have c36b2 : (9223372036854775807 < ((⟨#[109, 111, 118, 101, 32]⟩ : ByteArray) ++ (((((t385 ++ (⟨#[32]⟩ : ByteArray)) ++ t386) ++ (⟨#[32]⟩ : ByteArray)) ++ t383) ++ (⟨#[32]⟩ : ByteArray))).size + t389.size) = False := eq_false (Nat.not_lt.2 c36)
           try have c36b4 := c36b2
           try simp only [ByteArray.size_append, lits_] at c36b4
           by_cases c37 : (((⟨#[109, 111, 118, 101, 32]⟩ : ByteArray) ++ (((((t385 ++ (⟨#[32]⟩ : ByteArray)) ++ t386) ++ (⟨#[32]⟩ : ByteArray)) ++ t383) ++ (⟨#[32]⟩ : ByteArray))) ++ t389).size + 1 ≤ 9223372036854775807
           ·rw [if_pos c37] at H
            have c37b0 := eq_true c37
            have c37b1 : decide ((((⟨#[109, 111, 118, 101, 32]⟩ : ByteArray) ++ (((((t385 ++ (⟨#[32]⟩ : ByteArray)) ++ t386) ++ (⟨#[32]⟩ : ByteArray)) ++ t383) ++ (⟨#[32]⟩ : ByteArray))) ++ t389).size + 1 ≤ 9223372036854775807) = true := decide_eq_true c37
            try have c37b2 : (9223372036854775807 < (((⟨#[109, 111, 118, 101, 32]⟩ : ByteArray) ++ (((((t385 ++ (⟨#[32]⟩ : ByteArray)) ++ t386) ++ (⟨#[32]⟩ : ByteArray)) ++ t383) ++ (⟨#[32]⟩ : ByteArray))) ++ t389).size + 1) = False := eq_false (Nat.not_lt.2 c37)
            try have c37b4 := c37b2
            try simp only [ByteArray.size_append, lits_] at c37b4
            replace H := Option.bind_eq_some_iff.mp H
            obtain ⟨t390, A380, H⟩ := H
            have A38 := Aside0.mk A380
            clear A380
            by_cases c39 : ((((⟨#[109, 111, 118, 101, 32]⟩ : ByteArray) ++ (((((t385 ++ (⟨#[32]⟩ : ByteArray)) ++ t386) ++ (⟨#[32]⟩ : ByteArray)) ++ t383) ++ (⟨#[32]⟩ : ByteArray))) ++ t389) ++ (⟨#[32]⟩ : ByteArray)).size + t390.size ≤ 9223372036854775807
            ·rw [if_pos c39] at H
             have c39b0 := eq_true c39
             have c39b1 : decide (((((⟨#[109, 111, 118, 101, 32]⟩ : ByteArray) ++ (((((t385 ++ (⟨#[32]⟩ : ByteArray)) ++ t386) ++ (⟨#[32]⟩ : ByteArray)) ++ t383) ++ (⟨#[32]⟩ : ByteArray))) ++ t389) ++ (⟨#[32]⟩ : ByteArray)).size + t390.size ≤ 9223372036854775807) = true := decide_eq_true c39
             try have c39b2 : (9223372036854775807 < ((((⟨#[109, 111, 118, 101, 32]⟩ : ByteArray) ++ (((((t385 ++ (⟨#[32]⟩ : ByteArray)) ++ t386) ++ (⟨#[32]⟩ : ByteArray)) ++ t383) ++ (⟨#[32]⟩ : ByteArray))) ++ t389) ++ (⟨#[32]⟩ : ByteArray)).size + t390.size) = False := eq_false (Nat.not_lt.2 c39)
             try have c39b4 := c39b2
             try simp only [ByteArray.size_append, lits_] at c39b4
             by_cases c40 : (((((⟨#[109, 111, 118, 101, 32]⟩ : ByteArray) ++ (((((t385 ++ (⟨#[32]⟩ : ByteArray)) ++ t386) ++ (⟨#[32]⟩ : ByteArray)) ++ t383) ++ (⟨#[32]⟩ : ByteArray))) ++ t389) ++ (⟨#[32]⟩ : ByteArray)) ++ t390).size + 1 ≤ 9223372036854775807
             ·rw [if_pos c40] at H
              have c40b0 := eq_true c40
              have c40b1 : decide ((((((⟨#[109, 111, 118, 101, 32]⟩ : ByteArray) ++ (((((t385 ++ (⟨#[32]⟩ : ByteArray)) ++ t386) ++ (⟨#[32]⟩ : ByteArray)) ++ t383) ++ (⟨#[32]⟩ : ByteArray))) ++ t389) ++ (⟨#[32]⟩ : ByteArray)) ++ t390).size + 1 ≤ 9223372036854775807) = true := decide_eq_true c40
              try have c40b2 : (9223372036854775807 < (((((⟨#[109, 111, 118, 101, 32]⟩ : ByteArray) ++ (((((t385 ++ (⟨#[32]⟩ : ByteArray)) ++ t386) ++ (⟨#[32]⟩ : ByteArray)) ++ t383) ++ (⟨#[32]⟩ : ByteArray))) ++ t389) ++ (⟨#[32]⟩ : ByteArray)) ++ t390).size + 1) = False := eq_false (Nat.not_lt.2 c40)
              try have c40b4 := c40b2
              try simp only [ByteArray.size_append, lits_] at c40b4
              replace H := Option.bind_eq_some_iff.mp H
              obtain ⟨t391, A410, H⟩ := H
              have A41 := Aside0.mk A410
              clear A410
              by_cases c42 : ((((((⟨#[109, 111, 118, 101, 32]⟩ : ByteArray) ++ (((((t385 ++ (⟨#[32]⟩ : ByteArray)) ++ t386) ++ (⟨#[32]⟩ : ByteArray)) ++ t383) ++ (⟨#[32]⟩ : ByteArray))) ++ t389) ++ (⟨#[32]⟩ : ByteArray)) ++ t390) ++ (⟨#[32]⟩ : ByteArray)).size + t391.size ≤ 9223372036854775807
              ·rw [if_pos c42] at H
               have c42b0 := eq_true c42
               have c42b1 : decide (((((((⟨#[109, 111, 118, 101, 32]⟩ : ByteArray) ++ (((((t385 ++ (⟨#[32]⟩ : ByteArray)) ++ t386) ++ (⟨#[32]⟩ : ByteArray)) ++ t383) ++ (⟨#[32]⟩ : ByteArray))) ++ t389) ++ (⟨#[32]⟩ : ByteArray)) ++ t390) ++ (⟨#[32]⟩ : ByteArray)).size + t391.size ≤ 9223372036854775807) = true := decide_eq_true c42
               try have c42b2 : (9223372036854775807 < ((((((⟨#[109, 111, 118, 101, 32]⟩ : ByteArray) ++ (((((t385 ++ (⟨#[32]⟩ : ByteArray)) ++ t386) ++ (⟨#[32]⟩ : ByteArray)) ++ t383) ++ (⟨#[32]⟩ : ByteArray))) ++ t389) ++ (⟨#[32]⟩ : ByteArray)) ++ t390) ++ (⟨#[32]⟩ : ByteArray)).size + t391.size) = False := eq_false (Nat.not_lt.2 c42)
               try have c42b4 := c42b2
               try simp only [ByteArray.size_append, lits_] at c42b4
               simp only [Option.some.injEq, Prod.mk.injEq] at H
               obtain ⟨rfl, rfl⟩ := H
               go_enter Tryz.func15, Tryz.ntmps15
               try go_wp2_with (first | ((with_reducible refine gate_dst (N := 1) rfl ?_); refine box_event ?hg (N := 1) ?hd (cs := #[.int .i64 a0_0, .int .i64 a0_1, .int .i64 a0_2, .slice A0_3 l0_3.length c0_3, .int .i64 a0_4, .int .i64 a0_5, .int .i64 a0_6, .int .i64 a0_7, .int .i64 a0_8, .int .i64 a0_9, .int .i64 a0_10, .string a0_11, .string a0_12]) (t := 26) ?hr ?_; (case hd => rfl); (case hg => rfl); (case hr => first | (go_simp; done) | (go_simp; rfl)); intro gb380 hg w43 hbox hb; have BK380 := Aside0.mk (hbox); have GW380 := Aside0.mk ((zq10_ : w.heap.size ≤ gb380)); have GE380 := Aside0.mk ((zq10_ : w.heap.size ≤ gb380)); replace HB := Aside0.mk (below_step zq0_ hb); clear hb hbox hg; obtain ⟨hcz44_0, hfz44_0, hcz44_1, hfz44_1, hcz44_2, hfz44_2, hcz44_3, hfz44_3, hcz44_4, hfz44_4, hcz44_5, hfz44_5, hcz44_6, hfz44_6, hcz44_7, hfz44_7, hcz44_8, hfz44_8, hcz44_9, hfz44_9, hcz44_10, hfz44_10, hcz44_11, hfz44_11, hcz44_12, hfz44_12⟩ := zqC13_ BK380.out) | ((with_reducible refine gate_callee (f := 10) rfl ?_); refine zqG_ (some 8) rfl Tryz.func10 #[.agg #[.int .i64 a0_0, .int .i64 a0_1, .int .i64 a0_2, .slice A0_3 l0_3.length c0_3, .int .i64 a0_4, .int .i64 a0_5, .int .i64 a0_6, .int .i64 a0_7, .int .i64 a0_8, .int .i64 a0_9, .int .i64 a0_10, .string a0_11, .string a0_12]] rfl ?_; (with_reducible refine (topiaryref05_Check.calls k a0_0 a0_1 a0_2 _ _ l0_3 a0_4 a0_5 a0_6 a0_7 a0_8 a0_9 a0_10 a0_11 a0_12 t381 _ ?side1 ?side2 A2.out).mono ?_); (case side1 => repeat (first | exact (Kd.C_below HR0_3.out HB.out) | (with_reducible refine Kd.C_alloc ?_ _) | (with_reducible refine Kd.C_drewN ?_ _) | (with_reducible refine Kd.C_drew ?_))); (case side2 => exact HC0_3.out); rintro e w45 ⟨rfl, hb⟩; refine ⟨_, rfl, ?_⟩; replace BK380 := Aside0.mk (blk_below (zqK_ BK380.out) hb); replace HB := Aside0.mk (below_step (zqB1_ GE380.out) hb); (try clear hb); (try clear hb2); (try clear hk); (try clear hi); obtain ⟨hcz46_0, hfz46_0, hcz46_1, hfz46_1, hcz46_2, hfz46_2, hcz46_3, hfz46_3, hcz46_4, hfz46_4, hcz46_5, hfz46_5, hcz46_6, hfz46_6, hcz46_7, hfz46_7, hcz46_8, hfz46_8, hcz46_9, hfz46_9, hcz46_10, hfz46_10, hcz46_11, hfz46_11, hcz46_12, hfz46_12⟩ := zqC13_ BK380.out) | ((with_reducible refine gate_callee (f := 41) rfl ?_); refine zqG_ (some 15) rfl Tryz.func41 #[.slice A0_3 l0_3.length c0_3] rfl ?_; (with_reducible refine (topiaryref02_Text.calls k _ _ l0_3 t383 t384 _ ?side1 ?side2 A4.out).mono ?_); (case side1 => repeat (first | exact (Kd.C_below HR0_3.out HB.out) | (with_reducible refine Kd.C_alloc ?_ _) | (with_reducible refine Kd.C_drewN ?_ _) | (with_reducible refine Kd.C_drew ?_))); (case side2 => exact HC0_3.out); rintro e w47 ⟨rfl, hb⟩; refine ⟨_, rfl, ?_⟩; replace BK380 := Aside0.mk (blk_below (zqK_ BK380.out) hb); replace HB := Aside0.mk (below_step (zqB1_ GE380.out) hb); (try clear hb); (try clear hb2); (try clear hk); (try clear hi)))
               replace BK380 := Aside0.mk (blk_drew BK380.out)
               replace HB := Aside0.mk (below_drew1 HB.out)
               refine start_ (n := 13) (S := fun w' => w'.cell? ⟨gb380, 0, none⟩ = some (.int .i64 a0_0) ∧ w'.cell? ⟨gb380, 1, none⟩ = some (.int .i64 a0_1) ∧ w'.cell? ⟨gb380, 2, none⟩ = some (.int .i64 a0_2) ∧ w'.cell? ⟨gb380, 3, none⟩ = some (.slice A0_3 l0_3.length c0_3) ∧ w'.cell? ⟨gb380, 4, none⟩ = some (.int .i64 a0_4) ∧ w'.cell? ⟨gb380, 5, none⟩ = some (.int .i64 a0_5) ∧ w'.cell? ⟨gb380, 6, none⟩ = some (.int .i64 a0_6) ∧ w'.cell? ⟨gb380, 7, none⟩ = some (.int .i64 a0_7) ∧ w'.cell? ⟨gb380, 8, none⟩ = some (.int .i64 a0_8) ∧ w'.cell? ⟨gb380, 9, none⟩ = some (.int .i64 a0_9) ∧ w'.cell? ⟨gb380, 10, none⟩ = some (.int .i64 a0_10) ∧ w'.cell? ⟨gb380, 11, none⟩ = some (.string a0_11) ∧ w'.cell? ⟨gb380, 12, none⟩ = some (.string a0_12)) (ds := []) #[false, false, false, false, false, false, false, false, false, false, false, false, false] (by kernel_rfl) rfl rfl ⟨(blk_cell BK380.out 0).trans rfl, (blk_cell BK380.out 1).trans rfl, (blk_cell BK380.out 2).trans rfl, (blk_cell BK380.out 3).trans rfl, (blk_cell BK380.out 4).trans rfl, (blk_cell BK380.out 5).trans rfl, (blk_cell BK380.out 6).trans rfl, (blk_cell BK380.out 7).trans rfl, (blk_cell BK380.out 8).trans rfl, (blk_cell BK380.out 9).trans rfl, (blk_cell BK380.out 10).trans rfl, (blk_cell BK380.out 11).trans rfl, (blk_cell BK380.out 12).trans rfl⟩ (fun hHeld => ?_); refine with_tabW topiaryref05_Text.tab4 topiaryref05_Text.bits4 (fun HT_ HW_ => ?_)
               generalize w47.drew = w48 at BK380 HB hHeld ⊢
               refine zqp_ 0 18 HT_ ?_
               refine zqp_ 4 22 HT_ ?_
               refine zqp_ 9 27 HT_ ?_
               refine zqt13_ 1 19 HT_ HW_ hHeld ?_
               refine zqt13_ 5 23 HT_ HW_ hHeld ?_
               refine zqo_ 2 20 HT_ (fun K hK => ?_)
               refine goes_ Tryz.func42 (by kernel_rfl) rfl #[.agg #[.int .i64 a0_0, .int .i64 a0_1]] (by rfl) rfl rfl zq4_ ?_
               with_reducible refine (topiaryref05_Stamp.calls k a0_0 a0_1 t385 _ A5.out).mono ?_
               rintro e w49 ⟨rfl, hb⟩
               refine ⟨_, rfl, ?_⟩
               replace BK380 := Aside0.mk (blk_below (zqK_ BK380.out) hb)
               replace HB := Aside0.mk (below_step (zqB1_ GE380.out) hb)
               (try clear hb)
               (try clear hb2)
               (try clear hk)
               (try clear hi)
               refine hK.out _ _ ⟨(blk_cell BK380.out 0).trans rfl, (blk_cell BK380.out 1).trans rfl, (blk_cell BK380.out 2).trans rfl, (blk_cell BK380.out 3).trans rfl, (blk_cell BK380.out 4).trans rfl, (blk_cell BK380.out 5).trans rfl, (blk_cell BK380.out 6).trans rfl, (blk_cell BK380.out 7).trans rfl, (blk_cell BK380.out 8).trans rfl, (blk_cell BK380.out 9).trans rfl, (blk_cell BK380.out 10).trans rfl, (blk_cell BK380.out 11).trans rfl, (blk_cell BK380.out 12).trans rfl⟩ (fun hHeld => ?_)
               clear hK K
               refine norm_ (a' := ?_) ?_ ?_
               rotate_left
               ·show Act.put _ (some 20) _ = _
                simp only [Act.put, List.setIfInBounds_toArray, List.set_cons_zero, List.set_cons_succ, i64_w, i32_w]
                rfl
               refine zqp_ 3 21 HT_ ?_
               refine zqo_ 6 24 HT_ (fun K hK => ?_)
               refine goes_ Tryz.func43 (by kernel_rfl) rfl #[.int .i64 a0_2] (by rfl) rfl rfl zq4_ ?_
               with_reducible refine (topiaryref01_Digits.calls k a0_2 t386 _ A7.out).mono ?_
               rintro e w50 ⟨rfl, hb⟩
               refine ⟨_, rfl, ?_⟩
               replace BK380 := Aside0.mk (blk_below (zqK_ BK380.out) hb)
               replace HB := Aside0.mk (below_step (zqB1_ GE380.out) hb)
               (try clear hb)
               (try clear hb2)
               (try clear hk)
               (try clear hi)
               refine hK.out _ _ ⟨(blk_cell BK380.out 0).trans rfl, (blk_cell BK380.out 1).trans rfl, (blk_cell BK380.out 2).trans rfl, (blk_cell BK380.out 3).trans rfl, (blk_cell BK380.out 4).trans rfl, (blk_cell BK380.out 5).trans rfl, (blk_cell BK380.out 6).trans rfl, (blk_cell BK380.out 7).trans rfl, (blk_cell BK380.out 8).trans rfl, (blk_cell BK380.out 9).trans rfl, (blk_cell BK380.out 10).trans rfl, (blk_cell BK380.out 11).trans rfl, (blk_cell BK380.out 12).trans rfl⟩ (fun hHeld => ?_)
               clear hK K
               refine norm_ (a' := ?_) ?_ ?_
               rotate_left
               ·show Act.put _ (some 24) _ = _
                simp only [Act.put, List.setIfInBounds_toArray, List.set_cons_zero, List.set_cons_succ, i64_w, i32_w]
                rfl
               refine zqp_ 7 25 HT_ ?_
               refine zqp_ 8 26 HT_ ?_
               refine zqp_ 10 28 HT_ ?_
               refine zqp_ 11 29 HT_ ?_
               refine zqp_ 12 6 HT_ ?_
               refine done_ (done_of HT_.out (by kernel_rfl)) ?_
               obtain ⟨hcz51_0, hfz51_0, hcz51_1, hfz51_1, hcz51_2, hfz51_2, hcz51_3, hfz51_3, hcz51_4, hfz51_4, hcz51_5, hfz51_5, hcz51_6, hfz51_6, hcz51_7, hfz51_7, hcz51_8, hfz51_8, hcz51_9, hfz51_9, hcz51_10, hfz51_10, hcz51_11, hfz51_11, hcz51_12, hfz51_12⟩ := zqC13_ BK380.out
               try go_wp2
               replace BK380 := Aside0.mk (blk_drew BK380.out)
               replace HB := Aside0.mk (below_drew1 HB.out)
               refine start_ (n := 18) (S := fun w' => w'.cell? ⟨gb380, 0, none⟩ = some (.int .i64 a0_0) ∧ w'.cell? ⟨gb380, 1, none⟩ = some (.int .i64 a0_1) ∧ w'.cell? ⟨gb380, 2, none⟩ = some (.int .i64 a0_2) ∧ w'.cell? ⟨gb380, 3, none⟩ = some (.slice A0_3 l0_3.length c0_3) ∧ w'.cell? ⟨gb380, 4, none⟩ = some (.int .i64 a0_4) ∧ w'.cell? ⟨gb380, 5, none⟩ = some (.int .i64 a0_5) ∧ w'.cell? ⟨gb380, 6, none⟩ = some (.int .i64 a0_6) ∧ w'.cell? ⟨gb380, 7, none⟩ = some (.int .i64 a0_7) ∧ w'.cell? ⟨gb380, 8, none⟩ = some (.int .i64 a0_8) ∧ w'.cell? ⟨gb380, 9, none⟩ = some (.int .i64 a0_9) ∧ w'.cell? ⟨gb380, 10, none⟩ = some (.int .i64 a0_10) ∧ w'.cell? ⟨gb380, 11, none⟩ = some (.string a0_11) ∧ w'.cell? ⟨gb380, 12, none⟩ = some (.string a0_12)) (ds := []) #[false, false, false, false, false, false, false, false, false, false, false, false, false, false, false, false, false, false] (by kernel_rfl) rfl rfl ⟨(blk_cell BK380.out 0).trans rfl, (blk_cell BK380.out 1).trans rfl, (blk_cell BK380.out 2).trans rfl, (blk_cell BK380.out 3).trans rfl, (blk_cell BK380.out 4).trans rfl, (blk_cell BK380.out 5).trans rfl, (blk_cell BK380.out 6).trans rfl, (blk_cell BK380.out 7).trans rfl, (blk_cell BK380.out 8).trans rfl, (blk_cell BK380.out 9).trans rfl, (blk_cell BK380.out 10).trans rfl, (blk_cell BK380.out 11).trans rfl, (blk_cell BK380.out 12).trans rfl⟩ (fun hHeld => ?_); refine with_tabW topiaryref05_Text.tab9 topiaryref05_Text.bits9 (fun HT_ HW_ => ?_)
               generalize w50.drew = w52 at BK380 HB hHeld ⊢
               refine zqp_ 0 51 HT_ ?_
               refine zqp_ 1 52 HT_ ?_
               refine zqp_ 2 53 HT_ ?_
               refine zqp_ 7 58 HT_ ?_
               refine zqp_ 12 63 HT_ ?_
               refine zqt13_ 3 54 HT_ HW_ hHeld ?_
               refine zqt13_ 8 59 HT_ HW_ hHeld ?_
               refine zqt13_ 13 64 HT_ HW_ hHeld ?_
               refine zqo_ 4 55 HT_ (fun K hK => ?_)
               refine goes_ Tryz.func42 (by kernel_rfl) rfl #[.agg #[.int .i64 a0_5, .int .i64 a0_6]] (by rfl) rfl rfl zq4_ ?_
               with_reducible refine (topiaryref05_Stamp.calls k a0_5 a0_6 t389 _ A35.out).mono ?_
               rintro e w53 ⟨rfl, hb⟩
               refine ⟨_, rfl, ?_⟩
               replace BK380 := Aside0.mk (blk_below (zqK_ BK380.out) hb)
               replace HB := Aside0.mk (below_step (zqB1_ GE380.out) hb)
               (try clear hb)
               (try clear hb2)
               (try clear hk)
               (try clear hi)
               refine hK.out _ _ ⟨(blk_cell BK380.out 0).trans rfl, (blk_cell BK380.out 1).trans rfl, (blk_cell BK380.out 2).trans rfl, (blk_cell BK380.out 3).trans rfl, (blk_cell BK380.out 4).trans rfl, (blk_cell BK380.out 5).trans rfl, (blk_cell BK380.out 6).trans rfl, (blk_cell BK380.out 7).trans rfl, (blk_cell BK380.out 8).trans rfl, (blk_cell BK380.out 9).trans rfl, (blk_cell BK380.out 10).trans rfl, (blk_cell BK380.out 11).trans rfl, (blk_cell BK380.out 12).trans rfl⟩ (fun hHeld => ?_)
               clear hK K
               refine norm_ (a' := ?_) ?_ ?_
               rotate_left
               ·show Act.put _ (some 55) _ = _
                simp only [Act.put, List.setIfInBounds_toArray, List.set_cons_zero, List.set_cons_succ, i64_w, i32_w]
                rfl
               refine zqp_ 5 56 HT_ ?_
               refine zqp_ 6 57 HT_ ?_
               refine zqo_ 9 60 HT_ (fun K hK => ?_)
               refine goes_ Tryz.func42 (by kernel_rfl) rfl #[.agg #[.int .i64 a0_7, .int .i64 a0_8]] (by rfl) rfl rfl zq4_ ?_
               with_reducible refine (topiaryref05_Stamp.calls k a0_7 a0_8 t390 _ A38.out).mono ?_
               rintro e w54 ⟨rfl, hb⟩
               refine ⟨_, rfl, ?_⟩
               replace BK380 := Aside0.mk (blk_below (zqK_ BK380.out) hb)
               replace HB := Aside0.mk (below_step (zqB1_ GE380.out) hb)
               (try clear hb)
               (try clear hb2)
               (try clear hk)
               (try clear hi)
               refine hK.out _ _ ⟨(blk_cell BK380.out 0).trans rfl, (blk_cell BK380.out 1).trans rfl, (blk_cell BK380.out 2).trans rfl, (blk_cell BK380.out 3).trans rfl, (blk_cell BK380.out 4).trans rfl, (blk_cell BK380.out 5).trans rfl, (blk_cell BK380.out 6).trans rfl, (blk_cell BK380.out 7).trans rfl, (blk_cell BK380.out 8).trans rfl, (blk_cell BK380.out 9).trans rfl, (blk_cell BK380.out 10).trans rfl, (blk_cell BK380.out 11).trans rfl, (blk_cell BK380.out 12).trans rfl⟩ (fun hHeld => ?_)
               clear hK K
               refine norm_ (a' := ?_) ?_ ?_
               rotate_left
               ·show Act.put _ (some 60) _ = _
                simp only [Act.put, List.setIfInBounds_toArray, List.set_cons_zero, List.set_cons_succ, i64_w, i32_w]
                rfl
               refine zqp_ 10 61 HT_ ?_
               refine zqp_ 11 62 HT_ ?_
               refine zqo_ 14 65 HT_ (fun K hK => ?_)
               refine goes_ Tryz.func44 (by kernel_rfl) rfl #[.agg #[.int .i64 a0_9, .int .i64 a0_10]] (by rfl) rfl rfl zq4_ ?_
               with_reducible refine (topiaryref05_After.calls k a0_9 a0_10 t391 _ A41.out).mono ?_
               rintro e w55 ⟨rfl, hb⟩
               refine ⟨_, rfl, ?_⟩
               replace BK380 := Aside0.mk (blk_below (zqK_ BK380.out) hb)
               replace HB := Aside0.mk (below_step (zqB1_ GE380.out) hb)
               (try clear hb)
               (try clear hb2)
               (try clear hk)
               (try clear hi)
               refine hK.out _ _ ⟨(blk_cell BK380.out 0).trans rfl, (blk_cell BK380.out 1).trans rfl, (blk_cell BK380.out 2).trans rfl, (blk_cell BK380.out 3).trans rfl, (blk_cell BK380.out 4).trans rfl, (blk_cell BK380.out 5).trans rfl, (blk_cell BK380.out 6).trans rfl, (blk_cell BK380.out 7).trans rfl, (blk_cell BK380.out 8).trans rfl, (blk_cell BK380.out 9).trans rfl, (blk_cell BK380.out 10).trans rfl, (blk_cell BK380.out 11).trans rfl, (blk_cell BK380.out 12).trans rfl⟩ (fun hHeld => ?_)
               clear hK K
               refine norm_ (a' := ?_) ?_ ?_
               rotate_left
               ·show Act.put _ (some 65) _ = _
                simp only [Act.put, List.setIfInBounds_toArray, List.set_cons_zero, List.set_cons_succ, i64_w, i32_w]
                rfl
               refine zqp_ 15 66 HT_ ?_
               refine zqp_ 16 2 HT_ ?_
               refine zqp_ 17 3 HT_ ?_
               refine done_ (done_of HT_.out (by kernel_rfl)) ?_
               try go_wp2
               go_ret2
               exact ⟨by first | rfl | (simp [errW_none, errW_some] <;> rfl) | (simp [*, errW_none, errW_some] <;> rfl), by repeat (first | (with_reducible first | exact HB.out | apply below_alloc | apply pw_below_drewN | apply below_drew1 | refine below_set ?_ GE380.out) | exact HB.out)⟩
              ·rw [if_neg c42] at H
               exact absurd H (by simp)
             ·rw [if_neg c40] at H
              exact absurd H (by simp)
            ·rw [if_neg c39] at H
             exact absurd H (by simp)
           ·rw [if_neg c37] at H
            exact absurd H (by simp)
          ·rw [if_neg c36] at H
           exact absurd H (by simp)
         ·rw [if_neg c34] at H
          exact absurd H (by simp)
        ·rw [if_neg c33] at H
         have c33b0 : (a0_4 == 2) = false := beq_eq_false_iff_ne.mpr c33
         have c33b1 : (a0_4 != 2) = true := bne_iff_ne.mpr c33
         by_cases c56 : a0_4 = 3
         ·rw [if_pos c56] at H
          have c56b0 : (a0_4 == 3) = true := beq_iff_eq.mpr c56
          have c56b1 : (a0_4 != 3) = false := bne_eq_false_iff_eq.mpr c56
          clear c56
          by_cases c57 : 4 + (((((t385 ++ (⟨#[32]⟩ : ByteArray)) ++ t386) ++ (⟨#[32]⟩ : ByteArray)) ++ t383) ++ (⟨#[32]⟩ : ByteArray)).size ≤ 9223372036854775807
          ·rw [if_pos c57] at H
           have c57b0 := eq_true c57
           have c57b1 : decide (4 + (((((t385 ++ (⟨#[32]⟩ : ByteArray)) ++ t386) ++ (⟨#[32]⟩ : ByteArray)) ++ t383) ++ (⟨#[32]⟩ : ByteArray)).size ≤ 9223372036854775807) = true := decide_eq_true c57
           try have c57b2 : (9223372036854775807 < 4 + (((((t385 ++ (⟨#[32]⟩ : ByteArray)) ++ t386) ++ (⟨#[32]⟩ : ByteArray)) ++ t383) ++ (⟨#[32]⟩ : ByteArray)).size) = False := eq_false (Nat.not_lt.2 c57)
           try have c57b4 := c57b2
           try simp only [ByteArray.size_append, lits_] at c57b4
           replace H := Option.bind_eq_some_iff.mp H
           obtain ⟨t392, A580, H⟩ := H
           have A58 := Aside0.mk A580
           clear A580
           by_cases c59 : ((⟨#[115, 101, 116, 32]⟩ : ByteArray) ++ (((((t385 ++ (⟨#[32]⟩ : ByteArray)) ++ t386) ++ (⟨#[32]⟩ : ByteArray)) ++ t383) ++ (⟨#[32]⟩ : ByteArray))).size + t392.size ≤ 9223372036854775807
           ·rw [if_pos c59] at H
            have c59b0 := eq_true c59
            have c59b1 : decide (((⟨#[115, 101, 116, 32]⟩ : ByteArray) ++ (((((t385 ++ (⟨#[32]⟩ : ByteArray)) ++ t386) ++ (⟨#[32]⟩ : ByteArray)) ++ t383) ++ (⟨#[32]⟩ : ByteArray))).size + t392.size ≤ 9223372036854775807) = true := decide_eq_true c59
            try have c59b2 : (9223372036854775807 < ((⟨#[115, 101, 116, 32]⟩ : ByteArray) ++ (((((t385 ++ (⟨#[32]⟩ : ByteArray)) ++ t386) ++ (⟨#[32]⟩ : ByteArray)) ++ t383) ++ (⟨#[32]⟩ : ByteArray))).size + t392.size) = False := eq_false (Nat.not_lt.2 c59)
            try have c59b4 := c59b2
            try simp only [ByteArray.size_append, lits_] at c59b4
            by_cases c60 : (((⟨#[115, 101, 116, 32]⟩ : ByteArray) ++ (((((t385 ++ (⟨#[32]⟩ : ByteArray)) ++ t386) ++ (⟨#[32]⟩ : ByteArray)) ++ t383) ++ (⟨#[32]⟩ : ByteArray))) ++ t392).size + 1 ≤ 9223372036854775807
            ·rw [if_pos c60] at H
             have c60b0 := eq_true c60
             have c60b1 : decide ((((⟨#[115, 101, 116, 32]⟩ : ByteArray) ++ (((((t385 ++ (⟨#[32]⟩ : ByteArray)) ++ t386) ++ (⟨#[32]⟩ : ByteArray)) ++ t383) ++ (⟨#[32]⟩ : ByteArray))) ++ t392).size + 1 ≤ 9223372036854775807) = true := decide_eq_true c60
             try have c60b2 : (9223372036854775807 < (((⟨#[115, 101, 116, 32]⟩ : ByteArray) ++ (((((t385 ++ (⟨#[32]⟩ : ByteArray)) ++ t386) ++ (⟨#[32]⟩ : ByteArray)) ++ t383) ++ (⟨#[32]⟩ : ByteArray))) ++ t392).size + 1) = False := eq_false (Nat.not_lt.2 c60)
             try have c60b4 := c60b2
             try simp only [ByteArray.size_append, lits_] at c60b4
             by_cases c61 : ((((⟨#[115, 101, 116, 32]⟩ : ByteArray) ++ (((((t385 ++ (⟨#[32]⟩ : ByteArray)) ++ t386) ++ (⟨#[32]⟩ : ByteArray)) ++ t383) ++ (⟨#[32]⟩ : ByteArray))) ++ t392) ++ (⟨#[32]⟩ : ByteArray)).size + a0_11.size ≤ 9223372036854775807
             ·rw [if_pos c61] at H
              have c61b0 := eq_true c61
              have c61b1 : decide (((((⟨#[115, 101, 116, 32]⟩ : ByteArray) ++ (((((t385 ++ (⟨#[32]⟩ : ByteArray)) ++ t386) ++ (⟨#[32]⟩ : ByteArray)) ++ t383) ++ (⟨#[32]⟩ : ByteArray))) ++ t392) ++ (⟨#[32]⟩ : ByteArray)).size + a0_11.size ≤ 9223372036854775807) = true := decide_eq_true c61
              try have c61b2 : (9223372036854775807 < ((((⟨#[115, 101, 116, 32]⟩ : ByteArray) ++ (((((t385 ++ (⟨#[32]⟩ : ByteArray)) ++ t386) ++ (⟨#[32]⟩ : ByteArray)) ++ t383) ++ (⟨#[32]⟩ : ByteArray))) ++ t392) ++ (⟨#[32]⟩ : ByteArray)).size + a0_11.size) = False := eq_false (Nat.not_lt.2 c61)
              try have c61b4 := c61b2
              try simp only [ByteArray.size_append, lits_] at c61b4
              by_cases c62 : (((((⟨#[115, 101, 116, 32]⟩ : ByteArray) ++ (((((t385 ++ (⟨#[32]⟩ : ByteArray)) ++ t386) ++ (⟨#[32]⟩ : ByteArray)) ++ t383) ++ (⟨#[32]⟩ : ByteArray))) ++ t392) ++ (⟨#[32]⟩ : ByteArray)) ++ a0_11).size + 1 ≤ 9223372036854775807
              ·rw [if_pos c62] at H
               have c62b0 := eq_true c62
               have c62b1 : decide ((((((⟨#[115, 101, 116, 32]⟩ : ByteArray) ++ (((((t385 ++ (⟨#[32]⟩ : ByteArray)) ++ t386) ++ (⟨#[32]⟩ : ByteArray)) ++ t383) ++ (⟨#[32]⟩ : ByteArray))) ++ t392) ++ (⟨#[32]⟩ : ByteArray)) ++ a0_11).size + 1 ≤ 9223372036854775807) = true := decide_eq_true c62
               try have c62b2 : (9223372036854775807 < (((((⟨#[115, 101, 116, 32]⟩ : ByteArray) ++ (((((t385 ++ (⟨#[32]⟩ : ByteArray)) ++ t386) ++ (⟨#[32]⟩ : ByteArray)) ++ t383) ++ (⟨#[32]⟩ : ByteArray))) ++ t392) ++ (⟨#[32]⟩ : ByteArray)) ++ a0_11).size + 1) = False := eq_false (Nat.not_lt.2 c62)
               try have c62b4 := c62b2
               try simp only [ByteArray.size_append, lits_] at c62b4
               replace H := Option.bind_eq_some_iff.mp H
               obtain ⟨t393, A630, H⟩ := H
               have A63 := Aside0.mk A630
               clear A630
               by_cases c64 : ((((((⟨#[115, 101, 116, 32]⟩ : ByteArray) ++ (((((t385 ++ (⟨#[32]⟩ : ByteArray)) ++ t386) ++ (⟨#[32]⟩ : ByteArray)) ++ t383) ++ (⟨#[32]⟩ : ByteArray))) ++ t392) ++ (⟨#[32]⟩ : ByteArray)) ++ a0_11) ++ (⟨#[32]⟩ : ByteArray)).size + t393.size ≤ 9223372036854775807
               ·rw [if_pos c64] at H
                have c64b0 := eq_true c64
                have c64b1 : decide (((((((⟨#[115, 101, 116, 32]⟩ : ByteArray) ++ (((((t385 ++ (⟨#[32]⟩ : ByteArray)) ++ t386) ++ (⟨#[32]⟩ : ByteArray)) ++ t383) ++ (⟨#[32]⟩ : ByteArray))) ++ t392) ++ (⟨#[32]⟩ : ByteArray)) ++ a0_11) ++ (⟨#[32]⟩ : ByteArray)).size + t393.size ≤ 9223372036854775807) = true := decide_eq_true c64
                try have c64b2 : (9223372036854775807 < ((((((⟨#[115, 101, 116, 32]⟩ : ByteArray) ++ (((((t385 ++ (⟨#[32]⟩ : ByteArray)) ++ t386) ++ (⟨#[32]⟩ : ByteArray)) ++ t383) ++ (⟨#[32]⟩ : ByteArray))) ++ t392) ++ (⟨#[32]⟩ : ByteArray)) ++ a0_11) ++ (⟨#[32]⟩ : ByteArray)).size + t393.size) = False := eq_false (Nat.not_lt.2 c64)
                try have c64b4 := c64b2
                try simp only [ByteArray.size_append, lits_] at c64b4
                simp only [Option.some.injEq, Prod.mk.injEq] at H
                obtain ⟨rfl, rfl⟩ := H
                go_enter Tryz.func15, Tryz.ntmps15
                try go_wp2_with (first | ((with_reducible refine gate_dst (N := 1) rfl ?_); refine box_event ?hg (N := 1) ?hd (cs := #[.int .i64 a0_0, .int .i64 a0_1, .int .i64 a0_2, .slice A0_3 l0_3.length c0_3, .int .i64 a0_4, .int .i64 a0_5, .int .i64 a0_6, .int .i64 a0_7, .int .i64 a0_8, .int .i64 a0_9, .int .i64 a0_10, .string a0_11, .string a0_12]) (t := 26) ?hr ?_; (case hd => rfl); (case hg => rfl); (case hr => first | (go_simp; done) | (go_simp; rfl)); intro gb380 hg w65 hbox hb; have BK380 := Aside0.mk (hbox); have GW380 := Aside0.mk ((zq10_ : w.heap.size ≤ gb380)); have GE380 := Aside0.mk ((zq10_ : w.heap.size ≤ gb380)); replace HB := Aside0.mk (below_step zq0_ hb); clear hb hbox hg; obtain ⟨hcz66_0, hfz66_0, hcz66_1, hfz66_1, hcz66_2, hfz66_2, hcz66_3, hfz66_3, hcz66_4, hfz66_4, hcz66_5, hfz66_5, hcz66_6, hfz66_6, hcz66_7, hfz66_7, hcz66_8, hfz66_8, hcz66_9, hfz66_9, hcz66_10, hfz66_10, hcz66_11, hfz66_11, hcz66_12, hfz66_12⟩ := zqC13_ BK380.out) | ((with_reducible refine gate_callee (f := 10) rfl ?_); refine zqG_ (some 8) rfl Tryz.func10 #[.agg #[.int .i64 a0_0, .int .i64 a0_1, .int .i64 a0_2, .slice A0_3 l0_3.length c0_3, .int .i64 a0_4, .int .i64 a0_5, .int .i64 a0_6, .int .i64 a0_7, .int .i64 a0_8, .int .i64 a0_9, .int .i64 a0_10, .string a0_11, .string a0_12]] rfl ?_; (with_reducible refine (topiaryref05_Check.calls k a0_0 a0_1 a0_2 _ _ l0_3 a0_4 a0_5 a0_6 a0_7 a0_8 a0_9 a0_10 a0_11 a0_12 t381 _ ?side1 ?side2 A2.out).mono ?_); (case side1 => repeat (first | exact (Kd.C_below HR0_3.out HB.out) | (with_reducible refine Kd.C_alloc ?_ _) | (with_reducible refine Kd.C_drewN ?_ _) | (with_reducible refine Kd.C_drew ?_))); (case side2 => exact HC0_3.out); rintro e w67 ⟨rfl, hb⟩; refine ⟨_, rfl, ?_⟩; replace BK380 := Aside0.mk (blk_below (zqK_ BK380.out) hb); replace HB := Aside0.mk (below_step (zqB1_ GE380.out) hb); (try clear hb); (try clear hb2); (try clear hk); (try clear hi); obtain ⟨hcz68_0, hfz68_0, hcz68_1, hfz68_1, hcz68_2, hfz68_2, hcz68_3, hfz68_3, hcz68_4, hfz68_4, hcz68_5, hfz68_5, hcz68_6, hfz68_6, hcz68_7, hfz68_7, hcz68_8, hfz68_8, hcz68_9, hfz68_9, hcz68_10, hfz68_10, hcz68_11, hfz68_11, hcz68_12, hfz68_12⟩ := zqC13_ BK380.out) | ((with_reducible refine gate_callee (f := 41) rfl ?_); refine zqG_ (some 15) rfl Tryz.func41 #[.slice A0_3 l0_3.length c0_3] rfl ?_; (with_reducible refine (topiaryref02_Text.calls k _ _ l0_3 t383 t384 _ ?side1 ?side2 A4.out).mono ?_); (case side1 => repeat (first | exact (Kd.C_below HR0_3.out HB.out) | (with_reducible refine Kd.C_alloc ?_ _) | (with_reducible refine Kd.C_drewN ?_ _) | (with_reducible refine Kd.C_drew ?_))); (case side2 => exact HC0_3.out); rintro e w69 ⟨rfl, hb⟩; refine ⟨_, rfl, ?_⟩; replace BK380 := Aside0.mk (blk_below (zqK_ BK380.out) hb); replace HB := Aside0.mk (below_step (zqB1_ GE380.out) hb); (try clear hb); (try clear hb2); (try clear hk); (try clear hi)))
                replace BK380 := Aside0.mk (blk_drew BK380.out)
                replace HB := Aside0.mk (below_drew1 HB.out)
                refine start_ (n := 13) (S := fun w' => w'.cell? ⟨gb380, 0, none⟩ = some (.int .i64 a0_0) ∧ w'.cell? ⟨gb380, 1, none⟩ = some (.int .i64 a0_1) ∧ w'.cell? ⟨gb380, 2, none⟩ = some (.int .i64 a0_2) ∧ w'.cell? ⟨gb380, 3, none⟩ = some (.slice A0_3 l0_3.length c0_3) ∧ w'.cell? ⟨gb380, 4, none⟩ = some (.int .i64 a0_4) ∧ w'.cell? ⟨gb380, 5, none⟩ = some (.int .i64 a0_5) ∧ w'.cell? ⟨gb380, 6, none⟩ = some (.int .i64 a0_6) ∧ w'.cell? ⟨gb380, 7, none⟩ = some (.int .i64 a0_7) ∧ w'.cell? ⟨gb380, 8, none⟩ = some (.int .i64 a0_8) ∧ w'.cell? ⟨gb380, 9, none⟩ = some (.int .i64 a0_9) ∧ w'.cell? ⟨gb380, 10, none⟩ = some (.int .i64 a0_10) ∧ w'.cell? ⟨gb380, 11, none⟩ = some (.string a0_11) ∧ w'.cell? ⟨gb380, 12, none⟩ = some (.string a0_12)) (ds := []) #[false, false, false, false, false, false, false, false, false, false, false, false, false] (by kernel_rfl) rfl rfl ⟨(blk_cell BK380.out 0).trans rfl, (blk_cell BK380.out 1).trans rfl, (blk_cell BK380.out 2).trans rfl, (blk_cell BK380.out 3).trans rfl, (blk_cell BK380.out 4).trans rfl, (blk_cell BK380.out 5).trans rfl, (blk_cell BK380.out 6).trans rfl, (blk_cell BK380.out 7).trans rfl, (blk_cell BK380.out 8).trans rfl, (blk_cell BK380.out 9).trans rfl, (blk_cell BK380.out 10).trans rfl, (blk_cell BK380.out 11).trans rfl, (blk_cell BK380.out 12).trans rfl⟩ (fun hHeld => ?_); refine with_tabW topiaryref05_Text.tab4 topiaryref05_Text.bits4 (fun HT_ HW_ => ?_)
                generalize w69.drew = w70 at BK380 HB hHeld ⊢
                refine zqp_ 0 18 HT_ ?_
                refine zqp_ 4 22 HT_ ?_
                refine zqp_ 9 27 HT_ ?_
                refine zqt13_ 1 19 HT_ HW_ hHeld ?_
                refine zqt13_ 5 23 HT_ HW_ hHeld ?_
                refine zqo_ 2 20 HT_ (fun K hK => ?_)
                refine goes_ Tryz.func42 (by kernel_rfl) rfl #[.agg #[.int .i64 a0_0, .int .i64 a0_1]] (by rfl) rfl rfl zq4_ ?_
                with_reducible refine (topiaryref05_Stamp.calls k a0_0 a0_1 t385 _ A5.out).mono ?_
                rintro e w71 ⟨rfl, hb⟩
                refine ⟨_, rfl, ?_⟩
                replace BK380 := Aside0.mk (blk_below (zqK_ BK380.out) hb)
                replace HB := Aside0.mk (below_step (zqB1_ GE380.out) hb)
                (try clear hb)
                (try clear hb2)
                (try clear hk)
                (try clear hi)
                refine hK.out _ _ ⟨(blk_cell BK380.out 0).trans rfl, (blk_cell BK380.out 1).trans rfl, (blk_cell BK380.out 2).trans rfl, (blk_cell BK380.out 3).trans rfl, (blk_cell BK380.out 4).trans rfl, (blk_cell BK380.out 5).trans rfl, (blk_cell BK380.out 6).trans rfl, (blk_cell BK380.out 7).trans rfl, (blk_cell BK380.out 8).trans rfl, (blk_cell BK380.out 9).trans rfl, (blk_cell BK380.out 10).trans rfl, (blk_cell BK380.out 11).trans rfl, (blk_cell BK380.out 12).trans rfl⟩ (fun hHeld => ?_)
                clear hK K
                refine norm_ (a' := ?_) ?_ ?_
                rotate_left
                ·show Act.put _ (some 20) _ = _
                 simp only [Act.put, List.setIfInBounds_toArray, List.set_cons_zero, List.set_cons_succ, i64_w, i32_w]
                 rfl
                refine zqp_ 3 21 HT_ ?_
                refine zqo_ 6 24 HT_ (fun K hK => ?_)
                refine goes_ Tryz.func43 (by kernel_rfl) rfl #[.int .i64 a0_2] (by rfl) rfl rfl zq4_ ?_
                with_reducible refine (topiaryref01_Digits.calls k a0_2 t386 _ A7.out).mono ?_
                rintro e w72 ⟨rfl, hb⟩
                refine ⟨_, rfl, ?_⟩
                replace BK380 := Aside0.mk (blk_below (zqK_ BK380.out) hb)
                replace HB := Aside0.mk (below_step (zqB1_ GE380.out) hb)
                (try clear hb)
                (try clear hb2)
                (try clear hk)
                (try clear hi)
                refine hK.out _ _ ⟨(blk_cell BK380.out 0).trans rfl, (blk_cell BK380.out 1).trans rfl, (blk_cell BK380.out 2).trans rfl, (blk_cell BK380.out 3).trans rfl, (blk_cell BK380.out 4).trans rfl, (blk_cell BK380.out 5).trans rfl, (blk_cell BK380.out 6).trans rfl, (blk_cell BK380.out 7).trans rfl, (blk_cell BK380.out 8).trans rfl, (blk_cell BK380.out 9).trans rfl, (blk_cell BK380.out 10).trans rfl, (blk_cell BK380.out 11).trans rfl, (blk_cell BK380.out 12).trans rfl⟩ (fun hHeld => ?_)
                clear hK K
                refine norm_ (a' := ?_) ?_ ?_
                rotate_left
                ·show Act.put _ (some 24) _ = _
                 simp only [Act.put, List.setIfInBounds_toArray, List.set_cons_zero, List.set_cons_succ, i64_w, i32_w]
                 rfl
                refine zqp_ 7 25 HT_ ?_
                refine zqp_ 8 26 HT_ ?_
                refine zqp_ 10 28 HT_ ?_
                refine zqp_ 11 29 HT_ ?_
                refine zqp_ 12 6 HT_ ?_
                refine done_ (done_of HT_.out (by kernel_rfl)) ?_
                obtain ⟨hcz73_0, hfz73_0, hcz73_1, hfz73_1, hcz73_2, hfz73_2, hcz73_3, hfz73_3, hcz73_4, hfz73_4, hcz73_5, hfz73_5, hcz73_6, hfz73_6, hcz73_7, hfz73_7, hcz73_8, hfz73_8, hcz73_9, hfz73_9, hcz73_10, hfz73_10, hcz73_11, hfz73_11, hcz73_12, hfz73_12⟩ := zqC13_ BK380.out
                try go_wp2
                replace BK380 := Aside0.mk (blk_drew BK380.out)
                replace HB := Aside0.mk (below_drew1 HB.out)
                refine start_ (n := 17) (S := fun w' => w'.cell? ⟨gb380, 0, none⟩ = some (.int .i64 a0_0) ∧ w'.cell? ⟨gb380, 1, none⟩ = some (.int .i64 a0_1) ∧ w'.cell? ⟨gb380, 2, none⟩ = some (.int .i64 a0_2) ∧ w'.cell? ⟨gb380, 3, none⟩ = some (.slice A0_3 l0_3.length c0_3) ∧ w'.cell? ⟨gb380, 4, none⟩ = some (.int .i64 a0_4) ∧ w'.cell? ⟨gb380, 5, none⟩ = some (.int .i64 a0_5) ∧ w'.cell? ⟨gb380, 6, none⟩ = some (.int .i64 a0_6) ∧ w'.cell? ⟨gb380, 7, none⟩ = some (.int .i64 a0_7) ∧ w'.cell? ⟨gb380, 8, none⟩ = some (.int .i64 a0_8) ∧ w'.cell? ⟨gb380, 9, none⟩ = some (.int .i64 a0_9) ∧ w'.cell? ⟨gb380, 10, none⟩ = some (.int .i64 a0_10) ∧ w'.cell? ⟨gb380, 11, none⟩ = some (.string a0_11) ∧ w'.cell? ⟨gb380, 12, none⟩ = some (.string a0_12)) (ds := []) #[false, false, false, false, false, false, false, false, false, false, false, false, false, false, false, false, false] (by kernel_rfl) rfl rfl ⟨(blk_cell BK380.out 0).trans rfl, (blk_cell BK380.out 1).trans rfl, (blk_cell BK380.out 2).trans rfl, (blk_cell BK380.out 3).trans rfl, (blk_cell BK380.out 4).trans rfl, (blk_cell BK380.out 5).trans rfl, (blk_cell BK380.out 6).trans rfl, (blk_cell BK380.out 7).trans rfl, (blk_cell BK380.out 8).trans rfl, (blk_cell BK380.out 9).trans rfl, (blk_cell BK380.out 10).trans rfl, (blk_cell BK380.out 11).trans rfl, (blk_cell BK380.out 12).trans rfl⟩ (fun hHeld => ?_); refine with_tabW topiaryref05_Text.tab11 topiaryref05_Text.bits11 (fun HT_ HW_ => ?_)
                generalize w72.drew = w74 at BK380 HB hHeld ⊢
                refine zqp_ 0 69 HT_ ?_
                refine zqp_ 1 70 HT_ ?_
                refine zqp_ 2 71 HT_ ?_
                refine zqp_ 7 76 HT_ ?_
                refine zqp_ 11 80 HT_ ?_
                refine zqt13_ 3 72 HT_ HW_ hHeld ?_
                refine zqt13_ 8 77 HT_ HW_ hHeld ?_
                refine zqt13_ 12 81 HT_ HW_ hHeld ?_
                refine zqo_ 4 73 HT_ (fun K hK => ?_)
                refine goes_ Tryz.func42 (by kernel_rfl) rfl #[.agg #[.int .i64 a0_5, .int .i64 a0_6]] (by rfl) rfl rfl zq4_ ?_
                with_reducible refine (topiaryref05_Stamp.calls k a0_5 a0_6 t392 _ A58.out).mono ?_
                rintro e w75 ⟨rfl, hb⟩
                refine ⟨_, rfl, ?_⟩
                replace BK380 := Aside0.mk (blk_below (zqK_ BK380.out) hb)
                replace HB := Aside0.mk (below_step (zqB1_ GE380.out) hb)
                (try clear hb)
                (try clear hb2)
                (try clear hk)
                (try clear hi)
                refine hK.out _ _ ⟨(blk_cell BK380.out 0).trans rfl, (blk_cell BK380.out 1).trans rfl, (blk_cell BK380.out 2).trans rfl, (blk_cell BK380.out 3).trans rfl, (blk_cell BK380.out 4).trans rfl, (blk_cell BK380.out 5).trans rfl, (blk_cell BK380.out 6).trans rfl, (blk_cell BK380.out 7).trans rfl, (blk_cell BK380.out 8).trans rfl, (blk_cell BK380.out 9).trans rfl, (blk_cell BK380.out 10).trans rfl, (blk_cell BK380.out 11).trans rfl, (blk_cell BK380.out 12).trans rfl⟩ (fun hHeld => ?_)
                clear hK K
                refine norm_ (a' := ?_) ?_ ?_
                rotate_left
                ·show Act.put _ (some 73) _ = _
                 simp only [Act.put, List.setIfInBounds_toArray, List.set_cons_zero, List.set_cons_succ, i64_w, i32_w]
                 rfl
                refine zqp_ 5 74 HT_ ?_
                refine zqp_ 6 75 HT_ ?_
                refine zqp_ 9 78 HT_ ?_
                refine zqp_ 10 79 HT_ ?_
                refine zqo_ 13 82 HT_ (fun K hK => ?_)
                refine goes_ Tryz.func45 (by kernel_rfl) rfl #[.string a0_12] (by rfl) rfl rfl zq4_ ?_
                with_reducible refine (topiaryref05_Quote.calls k a0_12 t393 _ A63.out).mono ?_
                rintro e w76 ⟨rfl, hb⟩
                refine ⟨_, rfl, ?_⟩
                replace BK380 := Aside0.mk (blk_below (zqK_ BK380.out) hb)
                replace HB := Aside0.mk (below_step (zqB1_ GE380.out) hb)
                (try clear hb)
                (try clear hb2)
                (try clear hk)
                (try clear hi)
                refine hK.out _ _ ⟨(blk_cell BK380.out 0).trans rfl, (blk_cell BK380.out 1).trans rfl, (blk_cell BK380.out 2).trans rfl, (blk_cell BK380.out 3).trans rfl, (blk_cell BK380.out 4).trans rfl, (blk_cell BK380.out 5).trans rfl, (blk_cell BK380.out 6).trans rfl, (blk_cell BK380.out 7).trans rfl, (blk_cell BK380.out 8).trans rfl, (blk_cell BK380.out 9).trans rfl, (blk_cell BK380.out 10).trans rfl, (blk_cell BK380.out 11).trans rfl, (blk_cell BK380.out 12).trans rfl⟩ (fun hHeld => ?_)
                clear hK K
                refine norm_ (a' := ?_) ?_ ?_
                rotate_left
                ·show Act.put _ (some 82) _ = _
                 simp only [Act.put, List.setIfInBounds_toArray, List.set_cons_zero, List.set_cons_succ, i64_w, i32_w]
                 rfl
                refine zqp_ 14 83 HT_ ?_
                refine zqp_ 15 2 HT_ ?_
                refine zqp_ 16 3 HT_ ?_
                refine done_ (done_of HT_.out (by kernel_rfl)) ?_
                try go_wp2
                go_ret2
                exact ⟨by first | rfl | (simp [errW_none, errW_some] <;> rfl) | (simp [*, errW_none, errW_some] <;> rfl), by repeat (first | (with_reducible first | exact HB.out | apply below_alloc | apply pw_below_drewN | apply below_drew1 | refine below_set ?_ GE380.out) | exact HB.out)⟩
               ·rw [if_neg c64] at H
                exact absurd H (by simp)
              ·rw [if_neg c62] at H
               exact absurd H (by simp)
             ·rw [if_neg c61] at H
              exact absurd H (by simp)
            ·rw [if_neg c60] at H
             exact absurd H (by simp)
           ·rw [if_neg c59] at H
            exact absurd H (by simp)
          ·rw [if_neg c57] at H
           exact absurd H (by simp)
         ·rw [if_neg c56] at H
          have c56b0 : (a0_4 == 3) = false := beq_eq_false_iff_ne.mpr c56
          have c56b1 : (a0_4 != 3) = true := bne_iff_ne.mpr c56
          by_cases c77 : a0_4 = 4
          ·rw [if_pos c77] at H
           have c77b0 : (a0_4 == 4) = true := beq_iff_eq.mpr c77
           have c77b1 : (a0_4 != 4) = false := bne_eq_false_iff_eq.mpr c77
           clear c77
           by_cases c78 : 6 + (((((t385 ++ (⟨#[32]⟩ : ByteArray)) ++ t386) ++ (⟨#[32]⟩ : ByteArray)) ++ t383) ++ (⟨#[32]⟩ : ByteArray)).size ≤ 9223372036854775807
           ·rw [if_pos c78] at H
            have c78b0 := eq_true c78
            have c78b1 : decide (6 + (((((t385 ++ (⟨#[32]⟩ : ByteArray)) ++ t386) ++ (⟨#[32]⟩ : ByteArray)) ++ t383) ++ (⟨#[32]⟩ : ByteArray)).size ≤ 9223372036854775807) = true := decide_eq_true c78
            try have c78b2 : (9223372036854775807 < 6 + (((((t385 ++ (⟨#[32]⟩ : ByteArray)) ++ t386) ++ (⟨#[32]⟩ : ByteArray)) ++ t383) ++ (⟨#[32]⟩ : ByteArray)).size) = False := eq_false (Nat.not_lt.2 c78)
            try have c78b4 := c78b2
            try simp only [ByteArray.size_append, lits_] at c78b4
            replace H := Option.bind_eq_some_iff.mp H
            obtain ⟨t394, A790, H⟩ := H
            have A79 := Aside0.mk A790
            clear A790
            by_cases c80 : ((⟨#[99, 108, 101, 97, 114, 32]⟩ : ByteArray) ++ (((((t385 ++ (⟨#[32]⟩ : ByteArray)) ++ t386) ++ (⟨#[32]⟩ : ByteArray)) ++ t383) ++ (⟨#[32]⟩ : ByteArray))).size + t394.size ≤ 9223372036854775807
            ·rw [if_pos c80] at H
             have c80b0 := eq_true c80
             have c80b1 : decide (((⟨#[99, 108, 101, 97, 114, 32]⟩ : ByteArray) ++ (((((t385 ++ (⟨#[32]⟩ : ByteArray)) ++ t386) ++ (⟨#[32]⟩ : ByteArray)) ++ t383) ++ (⟨#[32]⟩ : ByteArray))).size + t394.size ≤ 9223372036854775807) = true := decide_eq_true c80
             try have c80b2 : (9223372036854775807 < ((⟨#[99, 108, 101, 97, 114, 32]⟩ : ByteArray) ++ (((((t385 ++ (⟨#[32]⟩ : ByteArray)) ++ t386) ++ (⟨#[32]⟩ : ByteArray)) ++ t383) ++ (⟨#[32]⟩ : ByteArray))).size + t394.size) = False := eq_false (Nat.not_lt.2 c80)
             try have c80b4 := c80b2
             try simp only [ByteArray.size_append, lits_] at c80b4
             by_cases c81 : (((⟨#[99, 108, 101, 97, 114, 32]⟩ : ByteArray) ++ (((((t385 ++ (⟨#[32]⟩ : ByteArray)) ++ t386) ++ (⟨#[32]⟩ : ByteArray)) ++ t383) ++ (⟨#[32]⟩ : ByteArray))) ++ t394).size + 1 ≤ 9223372036854775807
             ·rw [if_pos c81] at H
              have c81b0 := eq_true c81
              have c81b1 : decide ((((⟨#[99, 108, 101, 97, 114, 32]⟩ : ByteArray) ++ (((((t385 ++ (⟨#[32]⟩ : ByteArray)) ++ t386) ++ (⟨#[32]⟩ : ByteArray)) ++ t383) ++ (⟨#[32]⟩ : ByteArray))) ++ t394).size + 1 ≤ 9223372036854775807) = true := decide_eq_true c81
              try have c81b2 : (9223372036854775807 < (((⟨#[99, 108, 101, 97, 114, 32]⟩ : ByteArray) ++ (((((t385 ++ (⟨#[32]⟩ : ByteArray)) ++ t386) ++ (⟨#[32]⟩ : ByteArray)) ++ t383) ++ (⟨#[32]⟩ : ByteArray))) ++ t394).size + 1) = False := eq_false (Nat.not_lt.2 c81)
              try have c81b4 := c81b2
              try simp only [ByteArray.size_append, lits_] at c81b4
              by_cases c82 : ((((⟨#[99, 108, 101, 97, 114, 32]⟩ : ByteArray) ++ (((((t385 ++ (⟨#[32]⟩ : ByteArray)) ++ t386) ++ (⟨#[32]⟩ : ByteArray)) ++ t383) ++ (⟨#[32]⟩ : ByteArray))) ++ t394) ++ (⟨#[32]⟩ : ByteArray)).size + a0_11.size ≤ 9223372036854775807
              ·rw [if_pos c82] at H
               have c82b0 := eq_true c82
               have c82b1 : decide (((((⟨#[99, 108, 101, 97, 114, 32]⟩ : ByteArray) ++ (((((t385 ++ (⟨#[32]⟩ : ByteArray)) ++ t386) ++ (⟨#[32]⟩ : ByteArray)) ++ t383) ++ (⟨#[32]⟩ : ByteArray))) ++ t394) ++ (⟨#[32]⟩ : ByteArray)).size + a0_11.size ≤ 9223372036854775807) = true := decide_eq_true c82
               try have c82b2 : (9223372036854775807 < ((((⟨#[99, 108, 101, 97, 114, 32]⟩ : ByteArray) ++ (((((t385 ++ (⟨#[32]⟩ : ByteArray)) ++ t386) ++ (⟨#[32]⟩ : ByteArray)) ++ t383) ++ (⟨#[32]⟩ : ByteArray))) ++ t394) ++ (⟨#[32]⟩ : ByteArray)).size + a0_11.size) = False := eq_false (Nat.not_lt.2 c82)
               try have c82b4 := c82b2
               try simp only [ByteArray.size_append, lits_] at c82b4
               simp only [Option.some.injEq, Prod.mk.injEq] at H
               obtain ⟨rfl, rfl⟩ := H
               go_enter Tryz.func15, Tryz.ntmps15
               try go_wp2_with (first | ((with_reducible refine gate_dst (N := 1) rfl ?_); refine box_event ?hg (N := 1) ?hd (cs := #[.int .i64 a0_0, .int .i64 a0_1, .int .i64 a0_2, .slice A0_3 l0_3.length c0_3, .int .i64 a0_4, .int .i64 a0_5, .int .i64 a0_6, .int .i64 a0_7, .int .i64 a0_8, .int .i64 a0_9, .int .i64 a0_10, .string a0_11, .string a0_12]) (t := 26) ?hr ?_; (case hd => rfl); (case hg => rfl); (case hr => first | (go_simp; done) | (go_simp; rfl)); intro gb380 hg w83 hbox hb; have BK380 := Aside0.mk (hbox); have GW380 := Aside0.mk ((zq10_ : w.heap.size ≤ gb380)); have GE380 := Aside0.mk ((zq10_ : w.heap.size ≤ gb380)); replace HB := Aside0.mk (below_step zq0_ hb); clear hb hbox hg; obtain ⟨hcz84_0, hfz84_0, hcz84_1, hfz84_1, hcz84_2, hfz84_2, hcz84_3, hfz84_3, hcz84_4, hfz84_4, hcz84_5, hfz84_5, hcz84_6, hfz84_6, hcz84_7, hfz84_7, hcz84_8, hfz84_8, hcz84_9, hfz84_9, hcz84_10, hfz84_10, hcz84_11, hfz84_11, hcz84_12, hfz84_12⟩ := zqC13_ BK380.out) | ((with_reducible refine gate_callee (f := 10) rfl ?_); refine zqG_ (some 8) rfl Tryz.func10 #[.agg #[.int .i64 a0_0, .int .i64 a0_1, .int .i64 a0_2, .slice A0_3 l0_3.length c0_3, .int .i64 a0_4, .int .i64 a0_5, .int .i64 a0_6, .int .i64 a0_7, .int .i64 a0_8, .int .i64 a0_9, .int .i64 a0_10, .string a0_11, .string a0_12]] rfl ?_; (with_reducible refine (topiaryref05_Check.calls k a0_0 a0_1 a0_2 _ _ l0_3 a0_4 a0_5 a0_6 a0_7 a0_8 a0_9 a0_10 a0_11 a0_12 t381 _ ?side1 ?side2 A2.out).mono ?_); (case side1 => repeat (first | exact (Kd.C_below HR0_3.out HB.out) | (with_reducible refine Kd.C_alloc ?_ _) | (with_reducible refine Kd.C_drewN ?_ _) | (with_reducible refine Kd.C_drew ?_))); (case side2 => exact HC0_3.out); rintro e w85 ⟨rfl, hb⟩; refine ⟨_, rfl, ?_⟩; replace BK380 := Aside0.mk (blk_below (zqK_ BK380.out) hb); replace HB := Aside0.mk (below_step (zqB1_ GE380.out) hb); (try clear hb); (try clear hb2); (try clear hk); (try clear hi); obtain ⟨hcz86_0, hfz86_0, hcz86_1, hfz86_1, hcz86_2, hfz86_2, hcz86_3, hfz86_3, hcz86_4, hfz86_4, hcz86_5, hfz86_5, hcz86_6, hfz86_6, hcz86_7, hfz86_7, hcz86_8, hfz86_8, hcz86_9, hfz86_9, hcz86_10, hfz86_10, hcz86_11, hfz86_11, hcz86_12, hfz86_12⟩ := zqC13_ BK380.out) | ((with_reducible refine gate_callee (f := 41) rfl ?_); refine zqG_ (some 15) rfl Tryz.func41 #[.slice A0_3 l0_3.length c0_3] rfl ?_; (with_reducible refine (topiaryref02_Text.calls k _ _ l0_3 t383 t384 _ ?side1 ?side2 A4.out).mono ?_); (case side1 => repeat (first | exact (Kd.C_below HR0_3.out HB.out) | (with_reducible refine Kd.C_alloc ?_ _) | (with_reducible refine Kd.C_drewN ?_ _) | (with_reducible refine Kd.C_drew ?_))); (case side2 => exact HC0_3.out); rintro e w87 ⟨rfl, hb⟩; refine ⟨_, rfl, ?_⟩; replace BK380 := Aside0.mk (blk_below (zqK_ BK380.out) hb); replace HB := Aside0.mk (below_step (zqB1_ GE380.out) hb); (try clear hb); (try clear hb2); (try clear hk); (try clear hi)))
               replace BK380 := Aside0.mk (blk_drew BK380.out)
               replace HB := Aside0.mk (below_drew1 HB.out)
               refine start_ (n := 13) (S := fun w' => w'.cell? ⟨gb380, 0, none⟩ = some (.int .i64 a0_0) ∧ w'.cell? ⟨gb380, 1, none⟩ = some (.int .i64 a0_1) ∧ w'.cell? ⟨gb380, 2, none⟩ = some (.int .i64 a0_2) ∧ w'.cell? ⟨gb380, 3, none⟩ = some (.slice A0_3 l0_3.length c0_3) ∧ w'.cell? ⟨gb380, 4, none⟩ = some (.int .i64 a0_4) ∧ w'.cell? ⟨gb380, 5, none⟩ = some (.int .i64 a0_5) ∧ w'.cell? ⟨gb380, 6, none⟩ = some (.int .i64 a0_6) ∧ w'.cell? ⟨gb380, 7, none⟩ = some (.int .i64 a0_7) ∧ w'.cell? ⟨gb380, 8, none⟩ = some (.int .i64 a0_8) ∧ w'.cell? ⟨gb380, 9, none⟩ = some (.int .i64 a0_9) ∧ w'.cell? ⟨gb380, 10, none⟩ = some (.int .i64 a0_10) ∧ w'.cell? ⟨gb380, 11, none⟩ = some (.string a0_11) ∧ w'.cell? ⟨gb380, 12, none⟩ = some (.string a0_12)) (ds := []) #[false, false, false, false, false, false, false, false, false, false, false, false, false] (by kernel_rfl) rfl rfl ⟨(blk_cell BK380.out 0).trans rfl, (blk_cell BK380.out 1).trans rfl, (blk_cell BK380.out 2).trans rfl, (blk_cell BK380.out 3).trans rfl, (blk_cell BK380.out 4).trans rfl, (blk_cell BK380.out 5).trans rfl, (blk_cell BK380.out 6).trans rfl, (blk_cell BK380.out 7).trans rfl, (blk_cell BK380.out 8).trans rfl, (blk_cell BK380.out 9).trans rfl, (blk_cell BK380.out 10).trans rfl, (blk_cell BK380.out 11).trans rfl, (blk_cell BK380.out 12).trans rfl⟩ (fun hHeld => ?_); refine with_tabW topiaryref05_Text.tab4 topiaryref05_Text.bits4 (fun HT_ HW_ => ?_)
               generalize w87.drew = w88 at BK380 HB hHeld ⊢
               refine zqp_ 0 18 HT_ ?_
               refine zqp_ 4 22 HT_ ?_
               refine zqp_ 9 27 HT_ ?_
               refine zqt13_ 1 19 HT_ HW_ hHeld ?_
               refine zqt13_ 5 23 HT_ HW_ hHeld ?_
               refine zqo_ 2 20 HT_ (fun K hK => ?_)
               refine goes_ Tryz.func42 (by kernel_rfl) rfl #[.agg #[.int .i64 a0_0, .int .i64 a0_1]] (by rfl) rfl rfl zq4_ ?_
               with_reducible refine (topiaryref05_Stamp.calls k a0_0 a0_1 t385 _ A5.out).mono ?_
               rintro e w89 ⟨rfl, hb⟩
               refine ⟨_, rfl, ?_⟩
               replace BK380 := Aside0.mk (blk_below (zqK_ BK380.out) hb)
               replace HB := Aside0.mk (below_step (zqB1_ GE380.out) hb)
               (try clear hb)
               (try clear hb2)
               (try clear hk)
               (try clear hi)
               refine hK.out _ _ ⟨(blk_cell BK380.out 0).trans rfl, (blk_cell BK380.out 1).trans rfl, (blk_cell BK380.out 2).trans rfl, (blk_cell BK380.out 3).trans rfl, (blk_cell BK380.out 4).trans rfl, (blk_cell BK380.out 5).trans rfl, (blk_cell BK380.out 6).trans rfl, (blk_cell BK380.out 7).trans rfl, (blk_cell BK380.out 8).trans rfl, (blk_cell BK380.out 9).trans rfl, (blk_cell BK380.out 10).trans rfl, (blk_cell BK380.out 11).trans rfl, (blk_cell BK380.out 12).trans rfl⟩ (fun hHeld => ?_)
               clear hK K
               refine norm_ (a' := ?_) ?_ ?_
               rotate_left
               ·show Act.put _ (some 20) _ = _
                simp only [Act.put, List.setIfInBounds_toArray, List.set_cons_zero, List.set_cons_succ, i64_w, i32_w]
                rfl
               refine zqp_ 3 21 HT_ ?_
               refine zqo_ 6 24 HT_ (fun K hK => ?_)
               refine goes_ Tryz.func43 (by kernel_rfl) rfl #[.int .i64 a0_2] (by rfl) rfl rfl zq4_ ?_
               with_reducible refine (topiaryref01_Digits.calls k a0_2 t386 _ A7.out).mono ?_
               rintro e w90 ⟨rfl, hb⟩
               refine ⟨_, rfl, ?_⟩
               replace BK380 := Aside0.mk (blk_below (zqK_ BK380.out) hb)
               replace HB := Aside0.mk (below_step (zqB1_ GE380.out) hb)
               (try clear hb)
               (try clear hb2)
               (try clear hk)
               (try clear hi)
               refine hK.out _ _ ⟨(blk_cell BK380.out 0).trans rfl, (blk_cell BK380.out 1).trans rfl, (blk_cell BK380.out 2).trans rfl, (blk_cell BK380.out 3).trans rfl, (blk_cell BK380.out 4).trans rfl, (blk_cell BK380.out 5).trans rfl, (blk_cell BK380.out 6).trans rfl, (blk_cell BK380.out 7).trans rfl, (blk_cell BK380.out 8).trans rfl, (blk_cell BK380.out 9).trans rfl, (blk_cell BK380.out 10).trans rfl, (blk_cell BK380.out 11).trans rfl, (blk_cell BK380.out 12).trans rfl⟩ (fun hHeld => ?_)
               clear hK K
               refine norm_ (a' := ?_) ?_ ?_
               rotate_left
               ·show Act.put _ (some 24) _ = _
                simp only [Act.put, List.setIfInBounds_toArray, List.set_cons_zero, List.set_cons_succ, i64_w, i32_w]
                rfl
               refine zqp_ 7 25 HT_ ?_
               refine zqp_ 8 26 HT_ ?_
               refine zqp_ 10 28 HT_ ?_
               refine zqp_ 11 29 HT_ ?_
               refine zqp_ 12 6 HT_ ?_
               refine done_ (done_of HT_.out (by kernel_rfl)) ?_
               obtain ⟨hcz91_0, hfz91_0, hcz91_1, hfz91_1, hcz91_2, hfz91_2, hcz91_3, hfz91_3, hcz91_4, hfz91_4, hcz91_5, hfz91_5, hcz91_6, hfz91_6, hcz91_7, hfz91_7, hcz91_8, hfz91_8, hcz91_9, hfz91_9, hcz91_10, hfz91_10, hcz91_11, hfz91_11, hcz91_12, hfz91_12⟩ := zqC13_ BK380.out
               try go_wp2
               replace BK380 := Aside0.mk (blk_drew BK380.out)
               replace HB := Aside0.mk (below_drew1 HB.out)
               refine start_ (n := 12) (S := fun w' => w'.cell? ⟨gb380, 0, none⟩ = some (.int .i64 a0_0) ∧ w'.cell? ⟨gb380, 1, none⟩ = some (.int .i64 a0_1) ∧ w'.cell? ⟨gb380, 2, none⟩ = some (.int .i64 a0_2) ∧ w'.cell? ⟨gb380, 3, none⟩ = some (.slice A0_3 l0_3.length c0_3) ∧ w'.cell? ⟨gb380, 4, none⟩ = some (.int .i64 a0_4) ∧ w'.cell? ⟨gb380, 5, none⟩ = some (.int .i64 a0_5) ∧ w'.cell? ⟨gb380, 6, none⟩ = some (.int .i64 a0_6) ∧ w'.cell? ⟨gb380, 7, none⟩ = some (.int .i64 a0_7) ∧ w'.cell? ⟨gb380, 8, none⟩ = some (.int .i64 a0_8) ∧ w'.cell? ⟨gb380, 9, none⟩ = some (.int .i64 a0_9) ∧ w'.cell? ⟨gb380, 10, none⟩ = some (.int .i64 a0_10) ∧ w'.cell? ⟨gb380, 11, none⟩ = some (.string a0_11) ∧ w'.cell? ⟨gb380, 12, none⟩ = some (.string a0_12)) (ds := []) #[false, false, false, false, false, false, false, false, false, false, false, false] (by kernel_rfl) rfl rfl ⟨(blk_cell BK380.out 0).trans rfl, (blk_cell BK380.out 1).trans rfl, (blk_cell BK380.out 2).trans rfl, (blk_cell BK380.out 3).trans rfl, (blk_cell BK380.out 4).trans rfl, (blk_cell BK380.out 5).trans rfl, (blk_cell BK380.out 6).trans rfl, (blk_cell BK380.out 7).trans rfl, (blk_cell BK380.out 8).trans rfl, (blk_cell BK380.out 9).trans rfl, (blk_cell BK380.out 10).trans rfl, (blk_cell BK380.out 11).trans rfl, (blk_cell BK380.out 12).trans rfl⟩ (fun hHeld => ?_); refine with_tabW topiaryref05_Text.tab13 topiaryref05_Text.bits13 (fun HT_ HW_ => ?_)
               generalize w90.drew = w92 at BK380 HB hHeld ⊢
               refine zqp_ 0 86 HT_ ?_
               refine zqp_ 1 87 HT_ ?_
               refine zqp_ 2 88 HT_ ?_
               refine zqp_ 7 93 HT_ ?_
               refine zqt13_ 3 89 HT_ HW_ hHeld ?_
               refine zqt13_ 8 94 HT_ HW_ hHeld ?_
               refine zqo_ 4 90 HT_ (fun K hK => ?_)
               refine goes_ Tryz.func42 (by kernel_rfl) rfl #[.agg #[.int .i64 a0_5, .int .i64 a0_6]] (by rfl) rfl rfl zq4_ ?_
               with_reducible refine (topiaryref05_Stamp.calls k a0_5 a0_6 t394 _ A79.out).mono ?_
               rintro e w93 ⟨rfl, hb⟩
               refine ⟨_, rfl, ?_⟩
               replace BK380 := Aside0.mk (blk_below (zqK_ BK380.out) hb)
               replace HB := Aside0.mk (below_step (zqB1_ GE380.out) hb)
               (try clear hb)
               (try clear hb2)
               (try clear hk)
               (try clear hi)
               refine hK.out _ _ ⟨(blk_cell BK380.out 0).trans rfl, (blk_cell BK380.out 1).trans rfl, (blk_cell BK380.out 2).trans rfl, (blk_cell BK380.out 3).trans rfl, (blk_cell BK380.out 4).trans rfl, (blk_cell BK380.out 5).trans rfl, (blk_cell BK380.out 6).trans rfl, (blk_cell BK380.out 7).trans rfl, (blk_cell BK380.out 8).trans rfl, (blk_cell BK380.out 9).trans rfl, (blk_cell BK380.out 10).trans rfl, (blk_cell BK380.out 11).trans rfl, (blk_cell BK380.out 12).trans rfl⟩ (fun hHeld => ?_)
               clear hK K
               refine norm_ (a' := ?_) ?_ ?_
               rotate_left
               ·show Act.put _ (some 90) _ = _
                simp only [Act.put, List.setIfInBounds_toArray, List.set_cons_zero, List.set_cons_succ, i64_w, i32_w]
                rfl
               refine zqp_ 5 91 HT_ ?_
               refine zqp_ 6 92 HT_ ?_
               refine zqp_ 9 95 HT_ ?_
               refine zqp_ 10 2 HT_ ?_
               refine zqp_ 11 3 HT_ ?_
               refine done_ (done_of HT_.out (by kernel_rfl)) ?_
               try go_wp2
               go_ret2
               exact ⟨by first | rfl | (simp [errW_none, errW_some] <;> rfl) | (simp [*, errW_none, errW_some] <;> rfl), by repeat (first | (with_reducible first | exact HB.out | apply below_alloc | apply pw_below_drewN | apply below_drew1 | refine below_set ?_ GE380.out) | exact HB.out)⟩
              ·rw [if_neg c82] at H
               exact absurd H (by simp)
             ·rw [if_neg c81] at H
              exact absurd H (by simp)
            ·rw [if_neg c80] at H
             exact absurd H (by simp)
           ·rw [if_neg c78] at H
            exact absurd H (by simp)
          ·rw [if_neg c77] at H
           have c77b0 : (a0_4 == 4) = false := beq_eq_false_iff_ne.mpr c77
           have c77b1 : (a0_4 != 4) = true := bne_iff_ne.mpr c77
           by_cases c94 : 5 + (((((t385 ++ (⟨#[32]⟩ : ByteArray)) ++ t386) ++ (⟨#[32]⟩ : ByteArray)) ++ t383) ++ (⟨#[32]⟩ : ByteArray)).size ≤ 9223372036854775807
           ·rw [if_pos c94] at H
            have c94b0 := eq_true c94
            have c94b1 : decide (5 + (((((t385 ++ (⟨#[32]⟩ : ByteArray)) ++ t386) ++ (⟨#[32]⟩ : ByteArray)) ++ t383) ++ (⟨#[32]⟩ : ByteArray)).size ≤ 9223372036854775807) = true := decide_eq_true c94
            try have c94b2 : (9223372036854775807 < 5 + (((((t385 ++ (⟨#[32]⟩ : ByteArray)) ++ t386) ++ (⟨#[32]⟩ : ByteArray)) ++ t383) ++ (⟨#[32]⟩ : ByteArray)).size) = False := eq_false (Nat.not_lt.2 c94)
            try have c94b4 := c94b2
            try simp only [ByteArray.size_append, lits_] at c94b4
            replace H := Option.bind_eq_some_iff.mp H
            obtain ⟨t395, A950, H⟩ := H
            have A95 := Aside0.mk A950
            clear A950
            by_cases c96 : ((⟨#[116, 101, 120, 116, 32]⟩ : ByteArray) ++ (((((t385 ++ (⟨#[32]⟩ : ByteArray)) ++ t386) ++ (⟨#[32]⟩ : ByteArray)) ++ t383) ++ (⟨#[32]⟩ : ByteArray))).size + t395.size ≤ 9223372036854775807
            ·rw [if_pos c96] at H
             have c96b0 := eq_true c96
             have c96b1 : decide (((⟨#[116, 101, 120, 116, 32]⟩ : ByteArray) ++ (((((t385 ++ (⟨#[32]⟩ : ByteArray)) ++ t386) ++ (⟨#[32]⟩ : ByteArray)) ++ t383) ++ (⟨#[32]⟩ : ByteArray))).size + t395.size ≤ 9223372036854775807) = true := decide_eq_true c96
             try have c96b2 : (9223372036854775807 < ((⟨#[116, 101, 120, 116, 32]⟩ : ByteArray) ++ (((((t385 ++ (⟨#[32]⟩ : ByteArray)) ++ t386) ++ (⟨#[32]⟩ : ByteArray)) ++ t383) ++ (⟨#[32]⟩ : ByteArray))).size + t395.size) = False := eq_false (Nat.not_lt.2 c96)
             try have c96b4 := c96b2
             try simp only [ByteArray.size_append, lits_] at c96b4
             by_cases c97 : (((⟨#[116, 101, 120, 116, 32]⟩ : ByteArray) ++ (((((t385 ++ (⟨#[32]⟩ : ByteArray)) ++ t386) ++ (⟨#[32]⟩ : ByteArray)) ++ t383) ++ (⟨#[32]⟩ : ByteArray))) ++ t395).size + 1 ≤ 9223372036854775807
             ·rw [if_pos c97] at H
              have c97b0 := eq_true c97
              have c97b1 : decide ((((⟨#[116, 101, 120, 116, 32]⟩ : ByteArray) ++ (((((t385 ++ (⟨#[32]⟩ : ByteArray)) ++ t386) ++ (⟨#[32]⟩ : ByteArray)) ++ t383) ++ (⟨#[32]⟩ : ByteArray))) ++ t395).size + 1 ≤ 9223372036854775807) = true := decide_eq_true c97
              try have c97b2 : (9223372036854775807 < (((⟨#[116, 101, 120, 116, 32]⟩ : ByteArray) ++ (((((t385 ++ (⟨#[32]⟩ : ByteArray)) ++ t386) ++ (⟨#[32]⟩ : ByteArray)) ++ t383) ++ (⟨#[32]⟩ : ByteArray))) ++ t395).size + 1) = False := eq_false (Nat.not_lt.2 c97)
              try have c97b4 := c97b2
              try simp only [ByteArray.size_append, lits_] at c97b4
              replace H := Option.bind_eq_some_iff.mp H
              obtain ⟨t396, A980, H⟩ := H
              have A98 := Aside0.mk A980
              clear A980
              by_cases c99 : ((((⟨#[116, 101, 120, 116, 32]⟩ : ByteArray) ++ (((((t385 ++ (⟨#[32]⟩ : ByteArray)) ++ t386) ++ (⟨#[32]⟩ : ByteArray)) ++ t383) ++ (⟨#[32]⟩ : ByteArray))) ++ t395) ++ (⟨#[32]⟩ : ByteArray)).size + t396.size ≤ 9223372036854775807
              ·rw [if_pos c99] at H
               have c99b0 := eq_true c99
               have c99b1 : decide (((((⟨#[116, 101, 120, 116, 32]⟩ : ByteArray) ++ (((((t385 ++ (⟨#[32]⟩ : ByteArray)) ++ t386) ++ (⟨#[32]⟩ : ByteArray)) ++ t383) ++ (⟨#[32]⟩ : ByteArray))) ++ t395) ++ (⟨#[32]⟩ : ByteArray)).size + t396.size ≤ 9223372036854775807) = true := decide_eq_true c99
               try have c99b2 : (9223372036854775807 < ((((⟨#[116, 101, 120, 116, 32]⟩ : ByteArray) ++ (((((t385 ++ (⟨#[32]⟩ : ByteArray)) ++ t386) ++ (⟨#[32]⟩ : ByteArray)) ++ t383) ++ (⟨#[32]⟩ : ByteArray))) ++ t395) ++ (⟨#[32]⟩ : ByteArray)).size + t396.size) = False := eq_false (Nat.not_lt.2 c99)
               try have c99b4 := c99b2
               try simp only [ByteArray.size_append, lits_] at c99b4
               simp only [Option.some.injEq, Prod.mk.injEq] at H
               obtain ⟨rfl, rfl⟩ := H
               go_enter Tryz.func15, Tryz.ntmps15
               try go_wp2_with (first | ((with_reducible refine gate_dst (N := 1) rfl ?_); refine box_event ?hg (N := 1) ?hd (cs := #[.int .i64 a0_0, .int .i64 a0_1, .int .i64 a0_2, .slice A0_3 l0_3.length c0_3, .int .i64 a0_4, .int .i64 a0_5, .int .i64 a0_6, .int .i64 a0_7, .int .i64 a0_8, .int .i64 a0_9, .int .i64 a0_10, .string a0_11, .string a0_12]) (t := 26) ?hr ?_; (case hd => rfl); (case hg => rfl); (case hr => first | (go_simp; done) | (go_simp; rfl)); intro gb380 hg w100 hbox hb; have BK380 := Aside0.mk (hbox); have GW380 := Aside0.mk ((zq10_ : w.heap.size ≤ gb380)); have GE380 := Aside0.mk ((zq10_ : w.heap.size ≤ gb380)); replace HB := Aside0.mk (below_step zq0_ hb); clear hb hbox hg; obtain ⟨hcz101_0, hfz101_0, hcz101_1, hfz101_1, hcz101_2, hfz101_2, hcz101_3, hfz101_3, hcz101_4, hfz101_4, hcz101_5, hfz101_5, hcz101_6, hfz101_6, hcz101_7, hfz101_7, hcz101_8, hfz101_8, hcz101_9, hfz101_9, hcz101_10, hfz101_10, hcz101_11, hfz101_11, hcz101_12, hfz101_12⟩ := zqC13_ BK380.out) | ((with_reducible refine gate_callee (f := 10) rfl ?_); refine zqG_ (some 8) rfl Tryz.func10 #[.agg #[.int .i64 a0_0, .int .i64 a0_1, .int .i64 a0_2, .slice A0_3 l0_3.length c0_3, .int .i64 a0_4, .int .i64 a0_5, .int .i64 a0_6, .int .i64 a0_7, .int .i64 a0_8, .int .i64 a0_9, .int .i64 a0_10, .string a0_11, .string a0_12]] rfl ?_; (with_reducible refine (topiaryref05_Check.calls k a0_0 a0_1 a0_2 _ _ l0_3 a0_4 a0_5 a0_6 a0_7 a0_8 a0_9 a0_10 a0_11 a0_12 t381 _ ?side1 ?side2 A2.out).mono ?_); (case side1 => repeat (first | exact (Kd.C_below HR0_3.out HB.out) | (with_reducible refine Kd.C_alloc ?_ _) | (with_reducible refine Kd.C_drewN ?_ _) | (with_reducible refine Kd.C_drew ?_))); (case side2 => exact HC0_3.out); rintro e w102 ⟨rfl, hb⟩; refine ⟨_, rfl, ?_⟩; replace BK380 := Aside0.mk (blk_below (zqK_ BK380.out) hb); replace HB := Aside0.mk (below_step (zqB1_ GE380.out) hb); (try clear hb); (try clear hb2); (try clear hk); (try clear hi); obtain ⟨hcz103_0, hfz103_0, hcz103_1, hfz103_1, hcz103_2, hfz103_2, hcz103_3, hfz103_3, hcz103_4, hfz103_4, hcz103_5, hfz103_5, hcz103_6, hfz103_6, hcz103_7, hfz103_7, hcz103_8, hfz103_8, hcz103_9, hfz103_9, hcz103_10, hfz103_10, hcz103_11, hfz103_11, hcz103_12, hfz103_12⟩ := zqC13_ BK380.out) | ((with_reducible refine gate_callee (f := 41) rfl ?_); refine zqG_ (some 15) rfl Tryz.func41 #[.slice A0_3 l0_3.length c0_3] rfl ?_; (with_reducible refine (topiaryref02_Text.calls k _ _ l0_3 t383 t384 _ ?side1 ?side2 A4.out).mono ?_); (case side1 => repeat (first | exact (Kd.C_below HR0_3.out HB.out) | (with_reducible refine Kd.C_alloc ?_ _) | (with_reducible refine Kd.C_drewN ?_ _) | (with_reducible refine Kd.C_drew ?_))); (case side2 => exact HC0_3.out); rintro e w104 ⟨rfl, hb⟩; refine ⟨_, rfl, ?_⟩; replace BK380 := Aside0.mk (blk_below (zqK_ BK380.out) hb); replace HB := Aside0.mk (below_step (zqB1_ GE380.out) hb); (try clear hb); (try clear hb2); (try clear hk); (try clear hi)))
               replace BK380 := Aside0.mk (blk_drew BK380.out)
               replace HB := Aside0.mk (below_drew1 HB.out)
               refine start_ (n := 13) (S := fun w' => w'.cell? ⟨gb380, 0, none⟩ = some (.int .i64 a0_0) ∧ w'.cell? ⟨gb380, 1, none⟩ = some (.int .i64 a0_1) ∧ w'.cell? ⟨gb380, 2, none⟩ = some (.int .i64 a0_2) ∧ w'.cell? ⟨gb380, 3, none⟩ = some (.slice A0_3 l0_3.length c0_3) ∧ w'.cell? ⟨gb380, 4, none⟩ = some (.int .i64 a0_4) ∧ w'.cell? ⟨gb380, 5, none⟩ = some (.int .i64 a0_5) ∧ w'.cell? ⟨gb380, 6, none⟩ = some (.int .i64 a0_6) ∧ w'.cell? ⟨gb380, 7, none⟩ = some (.int .i64 a0_7) ∧ w'.cell? ⟨gb380, 8, none⟩ = some (.int .i64 a0_8) ∧ w'.cell? ⟨gb380, 9, none⟩ = some (.int .i64 a0_9) ∧ w'.cell? ⟨gb380, 10, none⟩ = some (.int .i64 a0_10) ∧ w'.cell? ⟨gb380, 11, none⟩ = some (.string a0_11) ∧ w'.cell? ⟨gb380, 12, none⟩ = some (.string a0_12)) (ds := []) #[false, false, false, false, false, false, false, false, false, false, false, false, false] (by kernel_rfl) rfl rfl ⟨(blk_cell BK380.out 0).trans rfl, (blk_cell BK380.out 1).trans rfl, (blk_cell BK380.out 2).trans rfl, (blk_cell BK380.out 3).trans rfl, (blk_cell BK380.out 4).trans rfl, (blk_cell BK380.out 5).trans rfl, (blk_cell BK380.out 6).trans rfl, (blk_cell BK380.out 7).trans rfl, (blk_cell BK380.out 8).trans rfl, (blk_cell BK380.out 9).trans rfl, (blk_cell BK380.out 10).trans rfl, (blk_cell BK380.out 11).trans rfl, (blk_cell BK380.out 12).trans rfl⟩ (fun hHeld => ?_); refine with_tabW topiaryref05_Text.tab4 topiaryref05_Text.bits4 (fun HT_ HW_ => ?_)
               generalize w104.drew = w105 at BK380 HB hHeld ⊢
               refine zqp_ 0 18 HT_ ?_
               refine zqp_ 4 22 HT_ ?_
               refine zqp_ 9 27 HT_ ?_
               refine zqt13_ 1 19 HT_ HW_ hHeld ?_
               refine zqt13_ 5 23 HT_ HW_ hHeld ?_
               refine zqo_ 2 20 HT_ (fun K hK => ?_)
               refine goes_ Tryz.func42 (by kernel_rfl) rfl #[.agg #[.int .i64 a0_0, .int .i64 a0_1]] (by rfl) rfl rfl zq4_ ?_
               with_reducible refine (topiaryref05_Stamp.calls k a0_0 a0_1 t385 _ A5.out).mono ?_
               rintro e w106 ⟨rfl, hb⟩
               refine ⟨_, rfl, ?_⟩
               replace BK380 := Aside0.mk (blk_below (zqK_ BK380.out) hb)
               replace HB := Aside0.mk (below_step (zqB1_ GE380.out) hb)
               (try clear hb)
               (try clear hb2)
               (try clear hk)
               (try clear hi)
               refine hK.out _ _ ⟨(blk_cell BK380.out 0).trans rfl, (blk_cell BK380.out 1).trans rfl, (blk_cell BK380.out 2).trans rfl, (blk_cell BK380.out 3).trans rfl, (blk_cell BK380.out 4).trans rfl, (blk_cell BK380.out 5).trans rfl, (blk_cell BK380.out 6).trans rfl, (blk_cell BK380.out 7).trans rfl, (blk_cell BK380.out 8).trans rfl, (blk_cell BK380.out 9).trans rfl, (blk_cell BK380.out 10).trans rfl, (blk_cell BK380.out 11).trans rfl, (blk_cell BK380.out 12).trans rfl⟩ (fun hHeld => ?_)
               clear hK K
               refine norm_ (a' := ?_) ?_ ?_
               rotate_left
               ·show Act.put _ (some 20) _ = _
                simp only [Act.put, List.setIfInBounds_toArray, List.set_cons_zero, List.set_cons_succ, i64_w, i32_w]
                rfl
               refine zqp_ 3 21 HT_ ?_
               refine zqo_ 6 24 HT_ (fun K hK => ?_)
               refine goes_ Tryz.func43 (by kernel_rfl) rfl #[.int .i64 a0_2] (by rfl) rfl rfl zq4_ ?_
               with_reducible refine (topiaryref01_Digits.calls k a0_2 t386 _ A7.out).mono ?_
               rintro e w107 ⟨rfl, hb⟩
               refine ⟨_, rfl, ?_⟩
               replace BK380 := Aside0.mk (blk_below (zqK_ BK380.out) hb)
               replace HB := Aside0.mk (below_step (zqB1_ GE380.out) hb)
               (try clear hb)
               (try clear hb2)
               (try clear hk)
               (try clear hi)
               refine hK.out _ _ ⟨(blk_cell BK380.out 0).trans rfl, (blk_cell BK380.out 1).trans rfl, (blk_cell BK380.out 2).trans rfl, (blk_cell BK380.out 3).trans rfl, (blk_cell BK380.out 4).trans rfl, (blk_cell BK380.out 5).trans rfl, (blk_cell BK380.out 6).trans rfl, (blk_cell BK380.out 7).trans rfl, (blk_cell BK380.out 8).trans rfl, (blk_cell BK380.out 9).trans rfl, (blk_cell BK380.out 10).trans rfl, (blk_cell BK380.out 11).trans rfl, (blk_cell BK380.out 12).trans rfl⟩ (fun hHeld => ?_)
               clear hK K
               refine norm_ (a' := ?_) ?_ ?_
               rotate_left
               ·show Act.put _ (some 24) _ = _
                simp only [Act.put, List.setIfInBounds_toArray, List.set_cons_zero, List.set_cons_succ, i64_w, i32_w]
                rfl
               refine zqp_ 7 25 HT_ ?_
               refine zqp_ 8 26 HT_ ?_
               refine zqp_ 10 28 HT_ ?_
               refine zqp_ 11 29 HT_ ?_
               refine zqp_ 12 6 HT_ ?_
               refine done_ (done_of HT_.out (by kernel_rfl)) ?_
               obtain ⟨hcz108_0, hfz108_0, hcz108_1, hfz108_1, hcz108_2, hfz108_2, hcz108_3, hfz108_3, hcz108_4, hfz108_4, hcz108_5, hfz108_5, hcz108_6, hfz108_6, hcz108_7, hfz108_7, hcz108_8, hfz108_8, hcz108_9, hfz108_9, hcz108_10, hfz108_10, hcz108_11, hfz108_11, hcz108_12, hfz108_12⟩ := zqC13_ BK380.out
               try go_wp2
               replace BK380 := Aside0.mk (blk_drew BK380.out)
               replace HB := Aside0.mk (below_drew1 HB.out)
               refine start_ (n := 13) (S := fun w' => w'.cell? ⟨gb380, 0, none⟩ = some (.int .i64 a0_0) ∧ w'.cell? ⟨gb380, 1, none⟩ = some (.int .i64 a0_1) ∧ w'.cell? ⟨gb380, 2, none⟩ = some (.int .i64 a0_2) ∧ w'.cell? ⟨gb380, 3, none⟩ = some (.slice A0_3 l0_3.length c0_3) ∧ w'.cell? ⟨gb380, 4, none⟩ = some (.int .i64 a0_4) ∧ w'.cell? ⟨gb380, 5, none⟩ = some (.int .i64 a0_5) ∧ w'.cell? ⟨gb380, 6, none⟩ = some (.int .i64 a0_6) ∧ w'.cell? ⟨gb380, 7, none⟩ = some (.int .i64 a0_7) ∧ w'.cell? ⟨gb380, 8, none⟩ = some (.int .i64 a0_8) ∧ w'.cell? ⟨gb380, 9, none⟩ = some (.int .i64 a0_9) ∧ w'.cell? ⟨gb380, 10, none⟩ = some (.int .i64 a0_10) ∧ w'.cell? ⟨gb380, 11, none⟩ = some (.string a0_11) ∧ w'.cell? ⟨gb380, 12, none⟩ = some (.string a0_12)) (ds := []) #[false, false, false, false, false, false, false, false, false, false, false, false, false] (by kernel_rfl) rfl rfl ⟨(blk_cell BK380.out 0).trans rfl, (blk_cell BK380.out 1).trans rfl, (blk_cell BK380.out 2).trans rfl, (blk_cell BK380.out 3).trans rfl, (blk_cell BK380.out 4).trans rfl, (blk_cell BK380.out 5).trans rfl, (blk_cell BK380.out 6).trans rfl, (blk_cell BK380.out 7).trans rfl, (blk_cell BK380.out 8).trans rfl, (blk_cell BK380.out 9).trans rfl, (blk_cell BK380.out 10).trans rfl, (blk_cell BK380.out 11).trans rfl, (blk_cell BK380.out 12).trans rfl⟩ (fun hHeld => ?_); refine with_tabW topiaryref05_Text.tab14 topiaryref05_Text.bits14 (fun HT_ HW_ => ?_)
               generalize w107.drew = w109 at BK380 HB hHeld ⊢
               refine zqp_ 0 96 HT_ ?_
               refine zqp_ 1 97 HT_ ?_
               refine zqp_ 2 98 HT_ ?_
               refine zqp_ 7 103 HT_ ?_
               refine zqt13_ 3 99 HT_ HW_ hHeld ?_
               refine zqt13_ 8 104 HT_ HW_ hHeld ?_
               refine zqo_ 4 100 HT_ (fun K hK => ?_)
               refine goes_ Tryz.func42 (by kernel_rfl) rfl #[.agg #[.int .i64 a0_5, .int .i64 a0_6]] (by rfl) rfl rfl zq4_ ?_
               with_reducible refine (topiaryref05_Stamp.calls k a0_5 a0_6 t395 _ A95.out).mono ?_
               rintro e w110 ⟨rfl, hb⟩
               refine ⟨_, rfl, ?_⟩
               replace BK380 := Aside0.mk (blk_below (zqK_ BK380.out) hb)
               replace HB := Aside0.mk (below_step (zqB1_ GE380.out) hb)
               (try clear hb)
               (try clear hb2)
               (try clear hk)
               (try clear hi)
               refine hK.out _ _ ⟨(blk_cell BK380.out 0).trans rfl, (blk_cell BK380.out 1).trans rfl, (blk_cell BK380.out 2).trans rfl, (blk_cell BK380.out 3).trans rfl, (blk_cell BK380.out 4).trans rfl, (blk_cell BK380.out 5).trans rfl, (blk_cell BK380.out 6).trans rfl, (blk_cell BK380.out 7).trans rfl, (blk_cell BK380.out 8).trans rfl, (blk_cell BK380.out 9).trans rfl, (blk_cell BK380.out 10).trans rfl, (blk_cell BK380.out 11).trans rfl, (blk_cell BK380.out 12).trans rfl⟩ (fun hHeld => ?_)
               clear hK K
               refine norm_ (a' := ?_) ?_ ?_
               rotate_left
               ·show Act.put _ (some 100) _ = _
                simp only [Act.put, List.setIfInBounds_toArray, List.set_cons_zero, List.set_cons_succ, i64_w, i32_w]
                rfl
               refine zqp_ 5 101 HT_ ?_
               refine zqp_ 6 102 HT_ ?_
               refine zqo_ 9 105 HT_ (fun K hK => ?_)
               refine goes_ Tryz.func45 (by kernel_rfl) rfl #[.string a0_12] (by rfl) rfl rfl zq4_ ?_
               with_reducible refine (topiaryref05_Quote.calls k a0_12 t396 _ A98.out).mono ?_
               rintro e w111 ⟨rfl, hb⟩
               refine ⟨_, rfl, ?_⟩
               replace BK380 := Aside0.mk (blk_below (zqK_ BK380.out) hb)
               replace HB := Aside0.mk (below_step (zqB1_ GE380.out) hb)
               (try clear hb)
               (try clear hb2)
               (try clear hk)
               (try clear hi)
               refine hK.out _ _ ⟨(blk_cell BK380.out 0).trans rfl, (blk_cell BK380.out 1).trans rfl, (blk_cell BK380.out 2).trans rfl, (blk_cell BK380.out 3).trans rfl, (blk_cell BK380.out 4).trans rfl, (blk_cell BK380.out 5).trans rfl, (blk_cell BK380.out 6).trans rfl, (blk_cell BK380.out 7).trans rfl, (blk_cell BK380.out 8).trans rfl, (blk_cell BK380.out 9).trans rfl, (blk_cell BK380.out 10).trans rfl, (blk_cell BK380.out 11).trans rfl, (blk_cell BK380.out 12).trans rfl⟩ (fun hHeld => ?_)
               clear hK K
               refine norm_ (a' := ?_) ?_ ?_
               rotate_left
               ·show Act.put _ (some 105) _ = _
                simp only [Act.put, List.setIfInBounds_toArray, List.set_cons_zero, List.set_cons_succ, i64_w, i32_w]
                rfl
               refine zqp_ 10 106 HT_ ?_
               refine zqp_ 11 2 HT_ ?_
               refine zqp_ 12 3 HT_ ?_
               refine done_ (done_of HT_.out (by kernel_rfl)) ?_
               try go_wp2
               go_ret2
               exact ⟨by first | rfl | (simp [errW_none, errW_some] <;> rfl) | (simp [*, errW_none, errW_some] <;> rfl), by repeat (first | (with_reducible first | exact HB.out | apply below_alloc | apply pw_below_drewN | apply below_drew1 | refine below_set ?_ GE380.out) | exact HB.out)⟩
              ·rw [if_neg c99] at H
               exact absurd H (by simp)
             ·rw [if_neg c97] at H
              exact absurd H (by simp)
            ·rw [if_neg c96] at H
             exact absurd H (by simp)
           ·rw [if_neg c94] at H
            exact absurd H (by simp)
      ·rw [if_neg c11] at H
       exact absurd H (by simp)
     ·rw [if_neg c10] at H
      exact absurd H (by simp)
    ·rw [if_neg c9] at H
     exact absurd H (by simp)
   ·rw [if_neg c8] at H
    exact absurd H (by simp)
  ·rw [if_neg c6] at H
   exact absurd H (by simp)
 ·rw [if_neg c3] at H
  have c3b0 : (t381 == 0) = false := beq_eq_false_iff_ne.mpr c3
  have c3b1 : (t381 != 0) = true := bne_iff_ne.mpr c3
  replace H := Option.bind_eq_some_iff.mp H
  obtain ⟨t382, A1120, H⟩ := H
  replace H : (some ((⟨#[]⟩ : ByteArray), t382)) = some (r1, r2) := H
  have A112 := Aside0.mk A1120
  clear A1120
  simp only [Option.some.injEq, Prod.mk.injEq] at H
  obtain ⟨rfl, rfl⟩ := H
  go_enter Tryz.func15, Tryz.ntmps15
  go_wp2_with (first | ((with_reducible refine gate_dst (N := 1) rfl ?_); refine box_event ?hg (N := 1) ?hd (cs := #[.int .i64 a0_0, .int .i64 a0_1, .int .i64 a0_2, .slice A0_3 l0_3.length c0_3, .int .i64 a0_4, .int .i64 a0_5, .int .i64 a0_6, .int .i64 a0_7, .int .i64 a0_8, .int .i64 a0_9, .int .i64 a0_10, .string a0_11, .string a0_12]) (t := 26) ?hr ?_; (case hd => rfl); (case hg => rfl); (case hr => first | (go_simp; done) | (go_simp; rfl)); intro gb380 hg w113 hbox hb; have BK380 := Aside0.mk (hbox); have GW380 := Aside0.mk ((zq10_ : w.heap.size ≤ gb380)); have GE380 := Aside0.mk ((zq10_ : w.heap.size ≤ gb380)); replace HB := Aside0.mk (below_step zq0_ hb); clear hb hbox hg; obtain ⟨hcz114_0, hfz114_0, hcz114_1, hfz114_1, hcz114_2, hfz114_2, hcz114_3, hfz114_3, hcz114_4, hfz114_4, hcz114_5, hfz114_5, hcz114_6, hfz114_6, hcz114_7, hfz114_7, hcz114_8, hfz114_8, hcz114_9, hfz114_9, hcz114_10, hfz114_10, hcz114_11, hfz114_11, hcz114_12, hfz114_12⟩ := zqC13_ BK380.out) | ((with_reducible refine gate_callee (f := 10) rfl ?_); refine zqG_ (some 8) rfl Tryz.func10 #[.agg #[.int .i64 a0_0, .int .i64 a0_1, .int .i64 a0_2, .slice A0_3 l0_3.length c0_3, .int .i64 a0_4, .int .i64 a0_5, .int .i64 a0_6, .int .i64 a0_7, .int .i64 a0_8, .int .i64 a0_9, .int .i64 a0_10, .string a0_11, .string a0_12]] rfl ?_; (with_reducible refine (topiaryref05_Check.calls k a0_0 a0_1 a0_2 _ _ l0_3 a0_4 a0_5 a0_6 a0_7 a0_8 a0_9 a0_10 a0_11 a0_12 t381 _ ?side1 ?side2 A2.out).mono ?_); (case side1 => repeat (first | exact (Kd.C_below HR0_3.out HB.out) | (with_reducible refine Kd.C_alloc ?_ _) | (with_reducible refine Kd.C_drewN ?_ _) | (with_reducible refine Kd.C_drew ?_))); (case side2 => exact HC0_3.out); rintro e w115 ⟨rfl, hb⟩; refine ⟨_, rfl, ?_⟩; replace BK380 := Aside0.mk (blk_below (zqK_ BK380.out) hb); replace HB := Aside0.mk (below_step (zqB1_ GE380.out) hb); (try clear hb); (try clear hb2); (try clear hk); (try clear hi); obtain ⟨hcz116_0, hfz116_0, hcz116_1, hfz116_1, hcz116_2, hfz116_2, hcz116_3, hfz116_3, hcz116_4, hfz116_4, hcz116_5, hfz116_5, hcz116_6, hfz116_6, hcz116_7, hfz116_7, hcz116_8, hfz116_8, hcz116_9, hfz116_9, hcz116_10, hfz116_10, hcz116_11, hfz116_11, hcz116_12, hfz116_12⟩ := zqC13_ BK380.out) | ((with_reducible refine gate_callee (f := 10) rfl ?_); refine zqG_ (some 11) rfl Tryz.func10 #[.agg #[.int .i64 a0_0, .int .i64 a0_1, .int .i64 a0_2, .slice A0_3 l0_3.length c0_3, .int .i64 a0_4, .int .i64 a0_5, .int .i64 a0_6, .int .i64 a0_7, .int .i64 a0_8, .int .i64 a0_9, .int .i64 a0_10, .string a0_11, .string a0_12]] rfl ?_; (with_reducible refine (topiaryref05_Check.calls k a0_0 a0_1 a0_2 _ _ l0_3 a0_4 a0_5 a0_6 a0_7 a0_8 a0_9 a0_10 a0_11 a0_12 t382 _ ?side1 ?side2 A112.out).mono ?_); (case side1 => repeat (first | exact (Kd.C_below HR0_3.out HB.out) | (with_reducible refine Kd.C_alloc ?_ _) | (with_reducible refine Kd.C_drewN ?_ _) | (with_reducible refine Kd.C_drew ?_))); (case side2 => exact HC0_3.out); rintro e w117 ⟨rfl, hb⟩; refine ⟨_, rfl, ?_⟩; replace BK380 := Aside0.mk (blk_below (zqK_ BK380.out) hb); replace HB := Aside0.mk (below_step (zqB1_ GE380.out) hb); (try clear hb); (try clear hb2); (try clear hk); (try clear hi)))
  go_ret2
  exact ⟨by first | rfl | (simp [errW_none, errW_some] <;> rfl) | (simp [*, errW_none, errW_some] <;> rfl), by repeat (first | (with_reducible first | exact HB.out | apply below_alloc | apply pw_below_drewN | apply below_drew1 | refine below_set ?_ GE380.out) | exact HB.out)⟩

end Go.Proofs.YtgoolgmcbnikkaaGreatDoor.QChangeTexts
