-- Own text of this seat, laid by the session's program ownprint.py (wip/tools). Lean checks it.
import Derived.Test.YtgoolgmcbnikkaaGreatDoorQChangeTextsx0
import Derived.Test.YtgoolgmcbnikkaaGreatDoorQChangeTextsx11
import Derived.Test.YtgoolgmcbnikkaaGreatDoorQChangeTextsx12
import Derived.Test.YtgoolgmcbnikkaaGreatDoorQChangeTextsx13
namespace Go.Proofs.YtgoolgmcbnikkaaGreatDoor.QChangeTexts
open Go.RowKit Go.Proofs.YtgoolgmcbnikkaaGreatDoorW.PrintWords Go.Proofs.YtgoolgmcbnikkaaGreatDoorW.PrintLast Go.Proofs.YtgoolgmcbnikkaaGreatDoorW.PrintMore
attribute [local go_sem] max2_int min2_int max_two min_two max_three min_three max_four min_four   -- for this text's walks alone
set_option linter.unusedVariables false
set_option linter.unusedSimpArgs false

/-! ### topiaryref05_Check: function 10 -/
mutual
def topiaryref05_Check.j0 : Nat → Bool → Int → Int → Int → List Int → Int → Int → Int → Int → Int → Int → Int → ByteArray → ByteArray → Option (Int)
 | 0, _, _, _, _, _, _, _, _, _, _, _, _, _, _ => none
 | k + 1, x11, x328000, x328001, x328002, x328003, x328004, x328005, x328006, x328007, x328008, x328009, x328010, x328011, x328012 => if x11 = true then (some 1) else ((topiaryref01_Right.f x328000 x328001).bind fun t328 => (if t328 = true then (if x328002 < 1 then (topiaryref05_Check.j1 k true x328000 x328001 x328002 x328003 x328004 x328005 x328006 x328007 x328008 x328009 x328010 x328011 x328012) else (topiaryref05_Check.j1 k (decide (x328002 > x328000)) x328000 x328001 x328002 x328003 x328004 x328005 x328006 x328007 x328008 x328009 x328010 x328011 x328012)) else (some 2)))
def topiaryref05_Check.j1 : Nat → Bool → Int → Int → Int → List Int → Int → Int → Int → Int → Int → Int → Int → ByteArray → ByteArray → Option (Int)
 | 0, _, _, _, _, _, _, _, _, _, _, _, _, _, _ => none
 | k + 1, x26, x328000, x328001, x328002, x328003, x328004, x328005, x328006, x328007, x328008, x328009, x328010, x328011, x328012 => if x26 = true then (some 1) else ((topiaryref02_Check.f k x328003).bind fun t329 => (if t329 = 0 then ((topiaryref02_Trim.f k x328003).bind fun t331 => (if (t331.length : Int) = (x328003.length : Int) then ((topiaryref02_At.f x328003 x328001).bind fun t334 => (if t334 = (wrap64 (x328002 - 1)) then ((topiaryref05_placed.f k x328000 x328001 x328002 x328003 x328004 x328005 x328006 x328007 x328008 x328009 x328010 x328011 x328012).bind fun t335 => (topiaryref05_Check.j2 k (!t335) x328000 x328001 x328002 x328003 x328004 x328005 x328006 x328007 x328008 x328009 x328010 x328011 x328012)) else (topiaryref05_Check.j2 k true x328000 x328001 x328002 x328003 x328004 x328005 x328006 x328007 x328008 x328009 x328010 x328011 x328012))) else (topiaryref05_Check.j2 k true x328000 x328001 x328002 x328003 x328004 x328005 x328006 x328007 x328008 x328009 x328010 x328011 x328012))) else ((topiaryref02_Check.f k x328003).bind fun t330 => (some t330))))
def topiaryref05_Check.j2 : Nat → Bool → Int → Int → Int → List Int → Int → Int → Int → Int → Int → Int → Int → ByteArray → ByteArray → Option (Int)
 | 0, _, _, _, _, _, _, _, _, _, _, _, _, _, _ => none
 | k + 1, x58, x328000, x328001, x328002, x328003, x328004, x328005, x328006, x328007, x328008, x328009, x328010, x328011, x328012 => if x58 = true then (some 2) else (if x328004 = 1 then (topiaryref05_Check.j3 k true x328000 x328001 x328002 x328003 x328004 x328005 x328006 x328007 x328008 x328009 x328010 x328011 x328012) else (if x328004 = 3 then (topiaryref05_Check.j3 k true x328000 x328001 x328002 x328003 x328004 x328005 x328006 x328007 x328008 x328009 x328010 x328011 x328012) else (topiaryref05_Check.j3 k (x328004 == 4) x328000 x328001 x328002 x328003 x328004 x328005 x328006 x328007 x328008 x328009 x328010 x328011 x328012)))
def topiaryref05_Check.j3 : Nat → Bool → Int → Int → Int → List Int → Int → Int → Int → Int → Int → Int → Int → ByteArray → ByteArray → Option (Int)
 | 0, _, _, _, _, _, _, _, _, _, _, _, _, _, _ => none
 | k + 1, x3, x328000, x328001, x328002, x328003, x328004, x328005, x328006, x328007, x328008, x328009, x328010, x328011, x328012 => if x3 = true then ((topiaryref05_Name.f k x328011).bind fun t336 => (if t336 = true then (topiaryref05_Check.j4 k false x328000 x328001 x328002 x328003 x328004 x328005 x328006 x328007 x328008 x328009 x328010 x328011 x328012) else (topiaryref05_Check.j4 k true x328000 x328001 x328002 x328003 x328004 x328005 x328006 x328007 x328008 x328009 x328010 x328011 x328012))) else (topiaryref05_Check.j4 k (x328011.toList != ([] : List UInt8)) x328000 x328001 x328002 x328003 x328004 x328005 x328006 x328007 x328008 x328009 x328010 x328011 x328012)
def topiaryref05_Check.j4 : Nat → Bool → Int → Int → Int → List Int → Int → Int → Int → Int → Int → Int → Int → ByteArray → ByteArray → Option (Int)
 | 0, _, _, _, _, _, _, _, _, _, _, _, _, _, _ => none
 | k + 1, x87, x328000, x328001, x328002, x328003, x328004, x328005, x328006, x328007, x328008, x328009, x328010, x328011, x328012 => if x87 = true then (some 8) else (if (x328012.size : Int) > 256 then (some 3) else (if x328004 = 3 then (some 0) else (if x328004 = 5 then (some 0) else (if x328012.toList = ([] : List UInt8) then (some 0) else (some 2)))))
end
def topiaryref05_Check.f (k : Nat) (a0_0 : Int) (a0_1 : Int) (a0_2 : Int) (l0_3 : List Int) (a0_4 : Int) (a0_5 : Int) (a0_6 : Int) (a0_7 : Int) (a0_8 : Int) (a0_9 : Int) (a0_10 : Int) (a0_11 : ByteArray) (a0_12 : ByteArray) : Option (Int) := if a0_4 < 1 then (topiaryref05_Check.j0 k true a0_0 a0_1 a0_2 l0_3 a0_4 a0_5 a0_6 a0_7 a0_8 a0_9 a0_10 a0_11 a0_12) else (topiaryref05_Check.j0 k (decide (a0_4 > 5)) a0_0 a0_1 a0_2 l0_3 a0_4 a0_5 a0_6 a0_7 a0_8 a0_9 a0_10 a0_11 a0_12)
theorem topiaryref05_Check.mono_l : ∀ k, (∀ y0 y1 y2 y3 y4 y5 y6 y7 y8 y9 y10 y11 y12 y13, LeO (topiaryref05_Check.j0 k y0 y1 y2 y3 y4 y5 y6 y7 y8 y9 y10 y11 y12 y13) (topiaryref05_Check.j0 (k + 1) y0 y1 y2 y3 y4 y5 y6 y7 y8 y9 y10 y11 y12 y13)) ∧ (∀ y0 y1 y2 y3 y4 y5 y6 y7 y8 y9 y10 y11 y12 y13, LeO (topiaryref05_Check.j1 k y0 y1 y2 y3 y4 y5 y6 y7 y8 y9 y10 y11 y12 y13) (topiaryref05_Check.j1 (k + 1) y0 y1 y2 y3 y4 y5 y6 y7 y8 y9 y10 y11 y12 y13)) ∧ (∀ y0 y1 y2 y3 y4 y5 y6 y7 y8 y9 y10 y11 y12 y13, LeO (topiaryref05_Check.j2 k y0 y1 y2 y3 y4 y5 y6 y7 y8 y9 y10 y11 y12 y13) (topiaryref05_Check.j2 (k + 1) y0 y1 y2 y3 y4 y5 y6 y7 y8 y9 y10 y11 y12 y13)) ∧ (∀ y0 y1 y2 y3 y4 y5 y6 y7 y8 y9 y10 y11 y12 y13, LeO (topiaryref05_Check.j3 k y0 y1 y2 y3 y4 y5 y6 y7 y8 y9 y10 y11 y12 y13) (topiaryref05_Check.j3 (k + 1) y0 y1 y2 y3 y4 y5 y6 y7 y8 y9 y10 y11 y12 y13)) ∧ (∀ y0 y1 y2 y3 y4 y5 y6 y7 y8 y9 y10 y11 y12 y13, LeO (topiaryref05_Check.j4 k y0 y1 y2 y3 y4 y5 y6 y7 y8 y9 y10 y11 y12 y13) (topiaryref05_Check.j4 (k + 1) y0 y1 y2 y3 y4 y5 y6 y7 y8 y9 y10 y11 y12 y13))
 | 0 => ⟨fun _ _ _ _ _ _ _ _ _ _ _ _ _ _ r h => by simp [topiaryref05_Check.j0] at h, fun _ _ _ _ _ _ _ _ _ _ _ _ _ _ r h => by simp [topiaryref05_Check.j1] at h, fun _ _ _ _ _ _ _ _ _ _ _ _ _ _ r h => by simp [topiaryref05_Check.j2] at h, fun _ _ _ _ _ _ _ _ _ _ _ _ _ _ r h => by simp [topiaryref05_Check.j3] at h, fun _ _ _ _ _ _ _ _ _ _ _ _ _ _ r h => by simp [topiaryref05_Check.j4] at h⟩
 | k + 1 => by
  obtain ⟨ih0, ih1, ih2, ih3, ih4⟩ := topiaryref05_Check.mono_l k
  refine ⟨?_, ?_, ?_, ?_, ?_⟩
  ·intro y0 y1 y2 y3 y4 y5 y6 y7 y8 y9 y10 y11 y12 y13
   unfold topiaryref05_Check.j0
   repeat' first
   | (with_reducible exact ih0 _ _ _ _ _ _ _ _ _ _ _ _ _ _)
   | (with_reducible exact ih1 _ _ _ _ _ _ _ _ _ _ _ _ _ _)
   | (with_reducible exact ih2 _ _ _ _ _ _ _ _ _ _ _ _ _ _)
   | (with_reducible exact ih3 _ _ _ _ _ _ _ _ _ _ _ _ _ _)
   | (with_reducible exact ih4 _ _ _ _ _ _ _ _ _ _ _ _ _ _)
   | (with_reducible exact topiaryref02_Check.mono _ _)
   | (with_reducible exact topiaryref02_Trim.mono _ _)
   | (with_reducible exact topiaryref05_Name.mono _ _)
   | (with_reducible exact topiaryref05_placed.mono _ _ _ _ _ _ _ _ _ _ _ _ _ _)
   | (with_reducible exact LeO.refl _)
   | (with_reducible exact LeO.none _)
   | (with_reducible refine LeO.ite ?_ ?_)
   | (with_reducible refine LeO.bind ?_ (fun _ => ?_))
   | exact ih0 _ _ _ _ _ _ _ _ _ _ _ _ _ _
   | exact ih1 _ _ _ _ _ _ _ _ _ _ _ _ _ _
   | exact ih2 _ _ _ _ _ _ _ _ _ _ _ _ _ _
   | exact ih3 _ _ _ _ _ _ _ _ _ _ _ _ _ _
   | exact ih4 _ _ _ _ _ _ _ _ _ _ _ _ _ _
   | exact topiaryref02_Check.mono _ _
   | exact topiaryref02_Trim.mono _ _
   | exact topiaryref05_Name.mono _ _
   | exact topiaryref05_placed.mono _ _ _ _ _ _ _ _ _ _ _ _ _ _
   | exact LeO.none _
   | refine LeO.ite ?_ ?_
   | refine LeO.bind ?_ (fun _ => ?_)
  ·intro y0 y1 y2 y3 y4 y5 y6 y7 y8 y9 y10 y11 y12 y13
   unfold topiaryref05_Check.j1
   repeat' first
   | (with_reducible exact ih0 _ _ _ _ _ _ _ _ _ _ _ _ _ _)
   | (with_reducible exact ih1 _ _ _ _ _ _ _ _ _ _ _ _ _ _)
   | (with_reducible exact ih2 _ _ _ _ _ _ _ _ _ _ _ _ _ _)
   | (with_reducible exact ih3 _ _ _ _ _ _ _ _ _ _ _ _ _ _)
   | (with_reducible exact ih4 _ _ _ _ _ _ _ _ _ _ _ _ _ _)
   | (with_reducible exact topiaryref02_Check.mono _ _)
   | (with_reducible exact topiaryref02_Trim.mono _ _)
   | (with_reducible exact topiaryref05_Name.mono _ _)
   | (with_reducible exact topiaryref05_placed.mono _ _ _ _ _ _ _ _ _ _ _ _ _ _)
   | (with_reducible exact LeO.refl _)
   | (with_reducible exact LeO.none _)
   | (with_reducible refine LeO.ite ?_ ?_)
   | (with_reducible refine LeO.bind ?_ (fun _ => ?_))
   | exact ih0 _ _ _ _ _ _ _ _ _ _ _ _ _ _
   | exact ih1 _ _ _ _ _ _ _ _ _ _ _ _ _ _
   | exact ih2 _ _ _ _ _ _ _ _ _ _ _ _ _ _
   | exact ih3 _ _ _ _ _ _ _ _ _ _ _ _ _ _
   | exact ih4 _ _ _ _ _ _ _ _ _ _ _ _ _ _
   | exact topiaryref02_Check.mono _ _
   | exact topiaryref02_Trim.mono _ _
   | exact topiaryref05_Name.mono _ _
   | exact topiaryref05_placed.mono _ _ _ _ _ _ _ _ _ _ _ _ _ _
   | exact LeO.none _
   | refine LeO.ite ?_ ?_
   | refine LeO.bind ?_ (fun _ => ?_)
  ·intro y0 y1 y2 y3 y4 y5 y6 y7 y8 y9 y10 y11 y12 y13
   unfold topiaryref05_Check.j2
   repeat' first
   | (with_reducible exact ih0 _ _ _ _ _ _ _ _ _ _ _ _ _ _)
   | (with_reducible exact ih1 _ _ _ _ _ _ _ _ _ _ _ _ _ _)
   | (with_reducible exact ih2 _ _ _ _ _ _ _ _ _ _ _ _ _ _)
   | (with_reducible exact ih3 _ _ _ _ _ _ _ _ _ _ _ _ _ _)
   | (with_reducible exact ih4 _ _ _ _ _ _ _ _ _ _ _ _ _ _)
   | (with_reducible exact topiaryref02_Check.mono _ _)
   | (with_reducible exact topiaryref02_Trim.mono _ _)
   | (with_reducible exact topiaryref05_Name.mono _ _)
   | (with_reducible exact topiaryref05_placed.mono _ _ _ _ _ _ _ _ _ _ _ _ _ _)
   | (with_reducible exact LeO.refl _)
   | (with_reducible exact LeO.none _)
   | (with_reducible refine LeO.ite ?_ ?_)
   | (with_reducible refine LeO.bind ?_ (fun _ => ?_))
   | exact ih0 _ _ _ _ _ _ _ _ _ _ _ _ _ _
   | exact ih1 _ _ _ _ _ _ _ _ _ _ _ _ _ _
   | exact ih2 _ _ _ _ _ _ _ _ _ _ _ _ _ _
   | exact ih3 _ _ _ _ _ _ _ _ _ _ _ _ _ _
   | exact ih4 _ _ _ _ _ _ _ _ _ _ _ _ _ _
   | exact topiaryref02_Check.mono _ _
   | exact topiaryref02_Trim.mono _ _
   | exact topiaryref05_Name.mono _ _
   | exact topiaryref05_placed.mono _ _ _ _ _ _ _ _ _ _ _ _ _ _
   | exact LeO.none _
   | refine LeO.ite ?_ ?_
   | refine LeO.bind ?_ (fun _ => ?_)
  ·intro y0 y1 y2 y3 y4 y5 y6 y7 y8 y9 y10 y11 y12 y13
   unfold topiaryref05_Check.j3
   repeat' first
   | (with_reducible exact ih0 _ _ _ _ _ _ _ _ _ _ _ _ _ _)
   | (with_reducible exact ih1 _ _ _ _ _ _ _ _ _ _ _ _ _ _)
   | (with_reducible exact ih2 _ _ _ _ _ _ _ _ _ _ _ _ _ _)
   | (with_reducible exact ih3 _ _ _ _ _ _ _ _ _ _ _ _ _ _)
   | (with_reducible exact ih4 _ _ _ _ _ _ _ _ _ _ _ _ _ _)
   | (with_reducible exact topiaryref02_Check.mono _ _)
   | (with_reducible exact topiaryref02_Trim.mono _ _)
   | (with_reducible exact topiaryref05_Name.mono _ _)
   | (with_reducible exact topiaryref05_placed.mono _ _ _ _ _ _ _ _ _ _ _ _ _ _)
   | (with_reducible exact LeO.refl _)
   | (with_reducible exact LeO.none _)
   | (with_reducible refine LeO.ite ?_ ?_)
   | (with_reducible refine LeO.bind ?_ (fun _ => ?_))
   | exact ih0 _ _ _ _ _ _ _ _ _ _ _ _ _ _
   | exact ih1 _ _ _ _ _ _ _ _ _ _ _ _ _ _
   | exact ih2 _ _ _ _ _ _ _ _ _ _ _ _ _ _
   | exact ih3 _ _ _ _ _ _ _ _ _ _ _ _ _ _
   | exact ih4 _ _ _ _ _ _ _ _ _ _ _ _ _ _
   | exact topiaryref02_Check.mono _ _
   | exact topiaryref02_Trim.mono _ _
   | exact topiaryref05_Name.mono _ _
   | exact topiaryref05_placed.mono _ _ _ _ _ _ _ _ _ _ _ _ _ _
   | exact LeO.none _
   | refine LeO.ite ?_ ?_
   | refine LeO.bind ?_ (fun _ => ?_)
  ·intro y0 y1 y2 y3 y4 y5 y6 y7 y8 y9 y10 y11 y12 y13
   unfold topiaryref05_Check.j4
   repeat' first
   | (with_reducible exact ih0 _ _ _ _ _ _ _ _ _ _ _ _ _ _)
   | (with_reducible exact ih1 _ _ _ _ _ _ _ _ _ _ _ _ _ _)
   | (with_reducible exact ih2 _ _ _ _ _ _ _ _ _ _ _ _ _ _)
   | (with_reducible exact ih3 _ _ _ _ _ _ _ _ _ _ _ _ _ _)
   | (with_reducible exact ih4 _ _ _ _ _ _ _ _ _ _ _ _ _ _)
   | (with_reducible exact topiaryref02_Check.mono _ _)
   | (with_reducible exact topiaryref02_Trim.mono _ _)
   | (with_reducible exact topiaryref05_Name.mono _ _)
   | (with_reducible exact topiaryref05_placed.mono _ _ _ _ _ _ _ _ _ _ _ _ _ _)
   | (with_reducible exact LeO.refl _)
   | (with_reducible exact LeO.none _)
   | (with_reducible refine LeO.ite ?_ ?_)
   | (with_reducible refine LeO.bind ?_ (fun _ => ?_))
   | exact ih0 _ _ _ _ _ _ _ _ _ _ _ _ _ _
   | exact ih1 _ _ _ _ _ _ _ _ _ _ _ _ _ _
   | exact ih2 _ _ _ _ _ _ _ _ _ _ _ _ _ _
   | exact ih3 _ _ _ _ _ _ _ _ _ _ _ _ _ _
   | exact ih4 _ _ _ _ _ _ _ _ _ _ _ _ _ _
   | exact topiaryref02_Check.mono _ _
   | exact topiaryref02_Trim.mono _ _
   | exact topiaryref05_Name.mono _ _
   | exact topiaryref05_placed.mono _ _ _ _ _ _ _ _ _ _ _ _ _ _
   | exact LeO.none _
   | refine LeO.ite ?_ ?_
   | refine LeO.bind ?_ (fun _ => ?_)
theorem topiaryref05_Check.mono : ∀ a0 a1 a2 a3 a4 a5 a6 a7 a8 a9 a10 a11 a12 k, LeO (topiaryref05_Check.f k a0 a1 a2 a3 a4 a5 a6 a7 a8 a9 a10 a11 a12) (topiaryref05_Check.f (k + 1) a0 a1 a2 a3 a4 a5 a6 a7 a8 a9 a10 a11 a12) := by
 intro a0 a1 a2 a3 a4 a5 a6 a7 a8 a9 a10 a11 a12 k
 obtain ⟨ih0, ih1, ih2, ih3, ih4⟩ := topiaryref05_Check.mono_l k
 unfold topiaryref05_Check.f
 repeat' first
   | (with_reducible exact ih0 _ _ _ _ _ _ _ _ _ _ _ _ _ _)
   | (with_reducible exact ih1 _ _ _ _ _ _ _ _ _ _ _ _ _ _)
   | (with_reducible exact ih2 _ _ _ _ _ _ _ _ _ _ _ _ _ _)
   | (with_reducible exact ih3 _ _ _ _ _ _ _ _ _ _ _ _ _ _)
   | (with_reducible exact ih4 _ _ _ _ _ _ _ _ _ _ _ _ _ _)
   | (with_reducible exact topiaryref02_Check.mono _ _)
   | (with_reducible exact topiaryref02_Trim.mono _ _)
   | (with_reducible exact topiaryref05_Name.mono _ _)
   | (with_reducible exact topiaryref05_placed.mono _ _ _ _ _ _ _ _ _ _ _ _ _ _)
   | (with_reducible exact LeO.refl _)
   | (with_reducible exact LeO.none _)
   | (with_reducible refine LeO.ite ?_ ?_)
   | (with_reducible refine LeO.bind ?_ (fun _ => ?_))
   | exact ih0 _ _ _ _ _ _ _ _ _ _ _ _ _ _
   | exact ih1 _ _ _ _ _ _ _ _ _ _ _ _ _ _
   | exact ih2 _ _ _ _ _ _ _ _ _ _ _ _ _ _
   | exact ih3 _ _ _ _ _ _ _ _ _ _ _ _ _ _
   | exact ih4 _ _ _ _ _ _ _ _ _ _ _ _ _ _
   | exact topiaryref02_Check.mono _ _
   | exact topiaryref02_Trim.mono _ _
   | exact topiaryref05_Name.mono _ _
   | exact topiaryref05_placed.mono _ _ _ _ _ _ _ _ _ _ _ _ _ _
   | exact LeO.none _
   | refine LeO.ite ?_ ?_
   | refine LeO.bind ?_ (fun _ => ?_)
def topiaryref05_Check.T9 : Bool × List (List Nat × List Nat) := (true, [([], []), ([0], [0]), ([1], [1]), ([2], [2]), ([], []), ([4], [4]), ([5], [5]), ([3, 6], [3, 6]), ([7, 2], [7]), ([8], [8]), ([9, 8], [8, 9]), ([8], [8]), ([11, 8], [8, 11]), ([12, 8], [8, 12]), ([10, 13, 8, 8], [8, 10, 13]), ([8], [8]), ([15, 8], [8, 15]), ([16, 8], [8, 16]), ([14, 17, 8], [8, 14, 17]), ([8, 18], [8, 18]), ([19, 14], [19]), ([20], [20]), ([21, 20, 20], [20, 21]), ([22, 20], [20, 22]), ([20, 23], [20, 23])])
def topiaryref05_Check.B9 : List Nat := [0, 1, 3, 7, 0, 16, 48, 127, 255, 511, 1023, 511, 2559, 6655, 16383, 511, 33279, 98815, 262143, 524287, 1048575, 2097151, 4194303, 8388607, 16777215]
theorem topiaryref05_Check.tab9 : rtab .any (opsOf Tryz.f10 9) = topiaryref05_Check.T9 := by kernel_rfl
theorem topiaryref05_Check.bits9 : waitsOk topiaryref05_Check.T9.2 topiaryref05_Check.B9 = true := by kernel_rfl
set_option maxHeartbeats 8000000 in
set_option maxRecDepth 100000 in
theorem topiaryref05_Check.calls (k : Nat) (a0_0 : Int) (a0_1 : Int) (a0_2 : Int) (A0_3 : Option Addr) (c0_3 : Nat) (l0_3 : List Int) (a0_4 : Int) (a0_5 : Int) (a0_6 : Int) (a0_7 : Int) (a0_8 : Int) (a0_9 : Int) (a0_10 : Int) (a0_11 : ByteArray) (a0_12 : ByteArray) (r : Int) (w : World) (hr0_3 : Kd.C (Kd.int .i64) w A0_3 l0_3.length l0_3) (hc0_3 : l0_3.length ≤ c0_3) (h : topiaryref05_Check.f k a0_0 a0_1 a0_2 l0_3 a0_4 a0_5 a0_6 a0_7 a0_8 a0_9 a0_10 a0_11 a0_12 = some r) :
  Calls Tryz.prog 10 #[.agg #[.int .i64 a0_0, .int .i64 a0_1, .int .i64 a0_2, .slice A0_3 l0_3.length c0_3, .int .i64 a0_4, .int .i64 a0_5, .int .i64 a0_6, .int .i64 a0_7, .int .i64 a0_8, .int .i64 a0_9, .int .i64 a0_10, .string a0_11, .string a0_12]] w fun e w' => e = .returned (.int .i64 r) ∧ Below w.heap.size w w' := by
 have hu26 := Tryz.underlying26
 have hu23 := Tryz.underlying23
 have HR0_3 := Aside0.mk hr0_3
 have HC0_3 := Aside0.mk hc0_3
 clear hr0_3 hc0_3
 have HB := Aside0.mk (Below.refl w.heap.size w)
 have H : (if a0_4 < 1 then (topiaryref05_Check.j0 k true a0_0 a0_1 a0_2 l0_3 a0_4 a0_5 a0_6 a0_7 a0_8 a0_9 a0_10 a0_11 a0_12) else (topiaryref05_Check.j0 k (decide (a0_4 > 5)) a0_0 a0_1 a0_2 l0_3 a0_4 a0_5 a0_6 a0_7 a0_8 a0_9 a0_10 a0_11 a0_12)) = some r := h
 clear h
 have HC2 := Aside0.mk H
 clear H
 go_enter Tryz.func10, Tryz.ntmps10
 go_upto_region 1 with (first | ((with_reducible refine gate_dst (N := 1) rfl ?_); refine box_event ?hg (N := 1) ?hd (cs := #[.int .i64 a0_0, .int .i64 a0_1, .int .i64 a0_2, .slice A0_3 l0_3.length c0_3, .int .i64 a0_4, .int .i64 a0_5, .int .i64 a0_6, .int .i64 a0_7, .int .i64 a0_8, .int .i64 a0_9, .int .i64 a0_10, .string a0_11, .string a0_12]) (t := 26) ?hr ?_; (case hd => rfl); (case hg => rfl); (case hr => first | (go_simp; done) | (go_simp; rfl)); intro gb327 hg w3 hbox hb; have BK327 := Aside0.mk (hbox); have GW327 := Aside0.mk ((zq10_ : w.heap.size ≤ gb327)); have GE327 := Aside0.mk ((zq10_ : w.heap.size ≤ gb327)); replace HB := Aside0.mk (below_step zq0_ hb); clear hb hbox hg))
 (try simp only [Act.put, List.setIfInBounds_toArray, List.set_cons_zero, List.set_cons_succ])
 go_cut [11] (fun v11 wc => ∃ (kq : Nat) (x11_1 : Bool), v11 = .bool x11_1 ∧ Aside0 (topiaryref05_Check.j0 kq x11_1 a0_0 a0_1 a0_2 l0_3 a0_4 a0_5 a0_6 a0_7 a0_8 a0_9 a0_10 a0_11 a0_12 = some r) ∧ Aside0 (kq ≤ k) ∧ Aside0 (wc.heap[gb327]? = some (.cells #[.int .i64 a0_0, .int .i64 a0_1, .int .i64 a0_2, (.slice A0_3 l0_3.length c0_3), .int .i64 a0_4, .int .i64 a0_5, .int .i64 a0_6, .int .i64 a0_7, .int .i64 a0_8, .int .i64 a0_9, .int .i64 a0_10, .string a0_11, .string a0_12] 26 (0, 0))) ∧ Aside0 (Below w.heap.size w wc))
 case first =>
  have H := HC2.out
  clear HC2
  by_cases c4 : a0_4 < 1
  ·rw [if_pos c4] at H
   have c4b0 : decide (a0_4 < 1) = true := decide_eq_true c4
   clear c4
   (first | rw [c4b0] | (simp only [i64_w, i32_w]; rw [c4b0]) | skip)
   have H' := Aside0.mk H
   clear H
   obtain ⟨hcz5_0, hfz5_0, hcz5_1, hfz5_1, hcz5_2, hfz5_2, hcz5_3, hfz5_3, hcz5_4, hfz5_4, hcz5_5, hfz5_5, hcz5_6, hfz5_6, hcz5_7, hfz5_7, hcz5_8, hfz5_8, hcz5_9, hfz5_9, hcz5_10, hfz5_10, hcz5_11, hfz5_11, hcz5_12, hfz5_12⟩ := zqC13_ BK327.out
   go_wp2
   go_meet
   case rel => exact ⟨_, (true), zq5_, H', ⟨by first | omega | exact Nat.le_refl _⟩, ⟨by (with_reducible repeat (first | refine blk_drewN ?_ _ | refine blk_drew ?_ | refine blk_alloc ?_ _)); exact BK327.out⟩, ⟨by repeat (first | (with_reducible first | exact HB.out | apply below_alloc | apply pw_below_drewN | apply below_drew1 | refine below_set ?_ GE327.out) | exact HB.out)⟩⟩
  ·rw [if_neg c4] at H
   have c4b0 : decide (a0_4 < 1) = false := decide_eq_false c4
   clear c4
   (first | rw [c4b0] | (simp only [i64_w, i32_w]; rw [c4b0]) | skip)
   have H' := Aside0.mk H
   clear H
   obtain ⟨hcz6_0, hfz6_0, hcz6_1, hfz6_1, hcz6_2, hfz6_2, hcz6_3, hfz6_3, hcz6_4, hfz6_4, hcz6_5, hfz6_5, hcz6_6, hfz6_6, hcz6_7, hfz6_7, hcz6_8, hfz6_8, hcz6_9, hfz6_9, hcz6_10, hfz6_10, hcz6_11, hfz6_11, hcz6_12, hfz6_12⟩ := zqC13_ BK327.out
   go_wp2
   go_meet
   case rel => exact ⟨_, (decide (a0_4 > 5)), zq5_, H', ⟨by first | omega | exact Nat.le_refl _⟩, ⟨by (with_reducible repeat (first | refine blk_drewN ?_ _ | refine blk_drew ?_ | refine blk_alloc ?_ _)); exact BK327.out⟩, ⟨by repeat (first | (with_reducible first | exact HB.out | apply below_alloc | apply pw_below_drewN | apply below_drew1 | refine below_set ?_ GE327.out) | exact HB.out)⟩⟩
 case rest =>
  clear HC2
  try clear c1
  try clear p2
  try clear c4
  try clear c4b0
  try clear hcz5_0 hcz5_1 hcz5_10 hcz5_11 hcz5_12 hcz5_2 hcz5_3 hcz5_4 hcz5_5 hcz5_6 hcz5_7 hcz5_8 hcz5_9 hfz5_0 hfz5_1 hfz5_10 hfz5_11 hfz5_12 hfz5_2 hfz5_3 hfz5_4 hfz5_5 hfz5_6 hfz5_7 hfz5_8 hfz5_9
  try clear hcz6_0 hcz6_1 hcz6_10 hcz6_11 hcz6_12 hcz6_2 hcz6_3 hcz6_4 hcz6_5 hcz6_6 hcz6_7 hcz6_8 hcz6_9 hfz6_0 hfz6_1 hfz6_10 hfz6_11 hfz6_12 hfz6_2 hfz6_3 hfz6_4 hfz6_5 hfz6_6 hfz6_7 hfz6_8 hfz6_9
  obtain ⟨kq, x11_1, rfl, HA, HJ1, BK327, HB⟩ := hcut
  cases kq with
  | zero => exact absurd HA.out (by simp [topiaryref05_Check.j0])
  | succ kj1 =>
   have H := HA.out
   clear HA
   simp only [topiaryref05_Check.j0] at H
   by_cases c7 : x11_1 = true
   ·subst c7
    have H1 : (some 1) = some r := by rw [if_pos rfl] at H; exact H
    clear H
    have H := H1
    clear H1
    obtain rfl := Option.some.inj H
    go_wp2
    go_ret
    exact ⟨by first | rfl | (simp [errW_none, errW_some] <;> rfl) | (simp [*, errW_none, errW_some] <;> rfl), by repeat (first | (with_reducible first | exact HB.out | apply below_alloc | apply pw_below_drewN | apply below_drew1 | refine below_set ?_ GE327.out) | exact HB.out)⟩
   ·replace c7 := Bool.eq_false_iff.mpr c7
    subst c7
    have H1 : ((topiaryref01_Right.f a0_0 a0_1).bind fun t328 => (if t328 = true then (if a0_2 < 1 then (topiaryref05_Check.j1 kj1 true a0_0 a0_1 a0_2 l0_3 a0_4 a0_5 a0_6 a0_7 a0_8 a0_9 a0_10 a0_11 a0_12) else (topiaryref05_Check.j1 kj1 (decide (a0_2 > a0_0)) a0_0 a0_1 a0_2 l0_3 a0_4 a0_5 a0_6 a0_7 a0_8 a0_9 a0_10 a0_11 a0_12)) else (some 2))) = some r := by rw [if_neg (show ¬ (false = true) by decide)] at H; exact H
    clear H
    have H := H1
    clear H1
    replace H := Option.bind_eq_some_iff.mp H
    obtain ⟨t328, A80, H⟩ := H
    have A8 := Aside0.mk A80
    clear A80
    by_cases c9 : t328 = true
    ·subst c9
     have H1 : (if a0_2 < 1 then (topiaryref05_Check.j1 kj1 true a0_0 a0_1 a0_2 l0_3 a0_4 a0_5 a0_6 a0_7 a0_8 a0_9 a0_10 a0_11 a0_12) else (topiaryref05_Check.j1 kj1 (decide (a0_2 > a0_0)) a0_0 a0_1 a0_2 l0_3 a0_4 a0_5 a0_6 a0_7 a0_8 a0_9 a0_10 a0_11 a0_12)) = some r := by rw [if_pos rfl] at H; exact H
     clear H
     have H := H1
     clear H1
     have HC10 := Aside0.mk H
     clear H
     obtain ⟨hcz11_0, hfz11_0, hcz11_1, hfz11_1, hcz11_2, hfz11_2, hcz11_3, hfz11_3, hcz11_4, hfz11_4, hcz11_5, hfz11_5, hcz11_6, hfz11_6, hcz11_7, hfz11_7, hcz11_8, hfz11_8, hcz11_9, hfz11_9, hcz11_10, hfz11_10, hcz11_11, hfz11_11, hcz11_12, hfz11_12⟩ := zqC13_ BK327.out
     go_upto_region 5 with (first | ((with_reducible refine gate_callee (f := 30) rfl ?_); refine zqG_ (some 14) rfl Tryz.func30 #[.agg #[.int .i64 a0_0, .int .i64 a0_1]] rfl ?_; (with_reducible refine (topiaryref01_Right.calls a0_0 a0_1 true _ A8.out).mono ?_); rintro e w12 ⟨rfl, hb⟩; refine ⟨_, rfl, ?_⟩; replace BK327 := Aside0.mk (blk_below (zqK_ BK327.out) hb); replace HB := Aside0.mk (below_step (zqB1_ GE327.out) hb); (try clear hb); (try clear hb2); (try clear hk); (try clear hi)))
     (try simp only [Act.put, List.setIfInBounds_toArray, List.set_cons_zero, List.set_cons_succ])
     go_cut [26] (fun v26 wc => ∃ (kq : Nat) (x26_9 : Bool), v26 = .bool x26_9 ∧ Aside0 (topiaryref05_Check.j1 kq x26_9 a0_0 a0_1 a0_2 l0_3 a0_4 a0_5 a0_6 a0_7 a0_8 a0_9 a0_10 a0_11 a0_12 = some r) ∧ Aside0 (kq ≤ kj1) ∧ Aside0 (wc.heap[gb327]? = some (.cells #[.int .i64 a0_0, .int .i64 a0_1, .int .i64 a0_2, (.slice A0_3 l0_3.length c0_3), .int .i64 a0_4, .int .i64 a0_5, .int .i64 a0_6, .int .i64 a0_7, .int .i64 a0_8, .int .i64 a0_9, .int .i64 a0_10, .string a0_11, .string a0_12] 26 (0, 0))) ∧ Aside0 (Below w.heap.size w wc))
     case first =>
      have H := HC10.out
      clear HC10
      by_cases c13 : a0_2 < 1
      ·rw [if_pos c13] at H
       have c13b0 : decide (a0_2 < 1) = true := decide_eq_true c13
       clear c13
       (first | rw [c13b0] | (simp only [i64_w, i32_w]; rw [c13b0]) | skip)
       have H' := Aside0.mk H
       clear H
       obtain ⟨hcz14_0, hfz14_0, hcz14_1, hfz14_1, hcz14_2, hfz14_2, hcz14_3, hfz14_3, hcz14_4, hfz14_4, hcz14_5, hfz14_5, hcz14_6, hfz14_6, hcz14_7, hfz14_7, hcz14_8, hfz14_8, hcz14_9, hfz14_9, hcz14_10, hfz14_10, hcz14_11, hfz14_11, hcz14_12, hfz14_12⟩ := zqC13_ BK327.out
       go_wp2
       go_meet
       case rel => exact ⟨_, (true), zq5_, H', ⟨by have := HJ1.out; first | omega | exact Nat.le_refl _⟩, ⟨by (with_reducible repeat (first | refine blk_drewN ?_ _ | refine blk_drew ?_ | refine blk_alloc ?_ _)); exact BK327.out⟩, ⟨by repeat (first | (with_reducible first | exact HB.out | apply below_alloc | apply pw_below_drewN | apply below_drew1 | refine below_set ?_ GE327.out) | exact HB.out)⟩⟩
      ·rw [if_neg c13] at H
       have c13b0 : decide (a0_2 < 1) = false := decide_eq_false c13
       clear c13
       (first | rw [c13b0] | (simp only [i64_w, i32_w]; rw [c13b0]) | skip)
       have H' := Aside0.mk H
       clear H
       obtain ⟨hcz15_0, hfz15_0, hcz15_1, hfz15_1, hcz15_2, hfz15_2, hcz15_3, hfz15_3, hcz15_4, hfz15_4, hcz15_5, hfz15_5, hcz15_6, hfz15_6, hcz15_7, hfz15_7, hcz15_8, hfz15_8, hcz15_9, hfz15_9, hcz15_10, hfz15_10, hcz15_11, hfz15_11, hcz15_12, hfz15_12⟩ := zqC13_ BK327.out
       go_wp2
       go_meet
       case rel => exact ⟨_, (decide (a0_2 > a0_0)), zq5_, H', ⟨by have := HJ1.out; first | omega | exact Nat.le_refl _⟩, ⟨by (with_reducible repeat (first | refine blk_drewN ?_ _ | refine blk_drew ?_ | refine blk_alloc ?_ _)); exact BK327.out⟩, ⟨by repeat (first | (with_reducible first | exact HB.out | apply below_alloc | apply pw_below_drewN | apply below_drew1 | refine below_set ?_ GE327.out) | exact HB.out)⟩⟩
     case rest =>
      clear HC10
      try clear c1
      try clear p2
      try clear c3
      try clear c4
      try clear c4b0
      try clear c7
      try clear c9
      try clear c10
      try clear c13
      try clear c13b0
      try clear hcz11_0 hcz11_1 hcz11_10 hcz11_11 hcz11_12 hcz11_2 hcz11_3 hcz11_4 hcz11_5 hcz11_6 hcz11_7 hcz11_8 hcz11_9 hfz11_0 hfz11_1 hfz11_10 hfz11_11 hfz11_12 hfz11_2 hfz11_3 hfz11_4 hfz11_5 hfz11_6 hfz11_7 hfz11_8 hfz11_9
      try clear hcz14_0 hcz14_1 hcz14_10 hcz14_11 hcz14_12 hcz14_2 hcz14_3 hcz14_4 hcz14_5 hcz14_6 hcz14_7 hcz14_8 hcz14_9 hfz14_0 hfz14_1 hfz14_10 hfz14_11 hfz14_12 hfz14_2 hfz14_3 hfz14_4 hfz14_5 hfz14_6 hfz14_7 hfz14_8 hfz14_9
      try clear hcz15_0 hcz15_1 hcz15_10 hcz15_11 hcz15_12 hcz15_2 hcz15_3 hcz15_4 hcz15_5 hcz15_6 hcz15_7 hcz15_8 hcz15_9 hfz15_0 hfz15_1 hfz15_10 hfz15_11 hfz15_12 hfz15_2 hfz15_3 hfz15_4 hfz15_5 hfz15_6 hfz15_7 hfz15_8 hfz15_9
      try clear hcz5_0 hcz5_1 hcz5_10 hcz5_11 hcz5_12 hcz5_2 hcz5_3 hcz5_4 hcz5_5 hcz5_6 hcz5_7 hcz5_8 hcz5_9 hfz5_0 hfz5_1 hfz5_10 hfz5_11 hfz5_12 hfz5_2 hfz5_3 hfz5_4 hfz5_5 hfz5_6 hfz5_7 hfz5_8 hfz5_9
      try clear hcz6_0 hcz6_1 hcz6_10 hcz6_11 hcz6_12 hcz6_2 hcz6_3 hcz6_4 hcz6_5 hcz6_6 hcz6_7 hcz6_8 hcz6_9 hfz6_0 hfz6_1 hfz6_10 hfz6_11 hfz6_12 hfz6_2 hfz6_3 hfz6_4 hfz6_5 hfz6_6 hfz6_7 hfz6_8 hfz6_9
      try clear p2
      obtain ⟨kq, x26_9, rfl, HA, HJ9, BK327, HB⟩ := hcut
      cases kq with
      | zero => exact absurd HA.out (by simp [topiaryref05_Check.j1])
      | succ kj9 =>
       have H := HA.out
       clear HA
       simp only [topiaryref05_Check.j1] at H
       by_cases c16 : x26_9 = true
       ·subst c16
        have H1 : (some 1) = some r := by rw [if_pos rfl] at H; exact H
        clear H
        have H := H1
        clear H1
        obtain rfl := Option.some.inj H
        go_wp2
        go_ret
        exact ⟨by first | rfl | (simp [errW_none, errW_some] <;> rfl) | (simp [*, errW_none, errW_some] <;> rfl), by repeat (first | (with_reducible first | exact HB.out | apply below_alloc | apply pw_below_drewN | apply below_drew1 | refine below_set ?_ GE327.out) | exact HB.out)⟩
       ·replace c16 := Bool.eq_false_iff.mpr c16
        subst c16
        have H1 : ((topiaryref02_Check.f kj9 l0_3).bind fun t329 => (if t329 = 0 then ((topiaryref02_Trim.f kj9 l0_3).bind fun t331 => (if (t331.length : Int) = (l0_3.length : Int) then ((topiaryref02_At.f l0_3 a0_1).bind fun t334 => (if t334 = (wrap64 (a0_2 - 1)) then ((topiaryref05_placed.f kj9 a0_0 a0_1 a0_2 l0_3 a0_4 a0_5 a0_6 a0_7 a0_8 a0_9 a0_10 a0_11 a0_12).bind fun t335 => (topiaryref05_Check.j2 kj9 (!t335) a0_0 a0_1 a0_2 l0_3 a0_4 a0_5 a0_6 a0_7 a0_8 a0_9 a0_10 a0_11 a0_12)) else (topiaryref05_Check.j2 kj9 true a0_0 a0_1 a0_2 l0_3 a0_4 a0_5 a0_6 a0_7 a0_8 a0_9 a0_10 a0_11 a0_12))) else (topiaryref05_Check.j2 kj9 true a0_0 a0_1 a0_2 l0_3 a0_4 a0_5 a0_6 a0_7 a0_8 a0_9 a0_10 a0_11 a0_12))) else ((topiaryref02_Check.f kj9 l0_3).bind fun t330 => (some t330)))) = some r := by rw [if_neg (show ¬ (false = true) by decide)] at H; exact H
        clear H
        have H := H1
        clear H1
        replace H := Option.bind_eq_some_iff.mp H
        obtain ⟨t329, A170, H⟩ := H
        have A17 := Aside0.mk A170
        clear A170
        by_cases c18 : t329 = 0
        ·rw [if_pos c18] at H
         have c18b0 : (t329 == 0) = true := beq_iff_eq.mpr c18
         have c18b1 : (t329 != 0) = false := bne_eq_false_iff_eq.mpr c18
         clear c18
         have HC19 := Aside0.mk H
         clear H
         obtain ⟨hcz20_0, hfz20_0, hcz20_1, hfz20_1, hcz20_2, hfz20_2, hcz20_3, hfz20_3, hcz20_4, hfz20_4, hcz20_5, hfz20_5, hcz20_6, hfz20_6, hcz20_7, hfz20_7, hcz20_8, hfz20_8, hcz20_9, hfz20_9, hcz20_10, hfz20_10, hcz20_11, hfz20_11, hcz20_12, hfz20_12⟩ := zqC13_ BK327.out
         go_upto_region 9 with (first | ((with_reducible refine gate_callee (f := 31) rfl ?_); refine zqG_ (some 29) rfl Tryz.func31 #[.slice A0_3 l0_3.length c0_3] rfl ?_; (with_reducible refine (topiaryref02_Check.calls kj9 _ _ l0_3 t329 _ ?side1 ?side2 A17.out).mono ?_); (case side1 => repeat (first | exact (Kd.C_below HR0_3.out HB.out) | (with_reducible refine Kd.C_alloc ?_ _) | (with_reducible refine Kd.C_drewN ?_ _) | (with_reducible refine Kd.C_drew ?_))); (case side2 => exact HC0_3.out); rintro e w' ⟨rfl, ⟨nd, rfl⟩⟩; refine ⟨_, rfl, ?_⟩))
         (try simp only [Act.put, List.setIfInBounds_toArray, List.set_cons_zero, List.set_cons_succ])
         go_cut [58] (fun v58 wc => ∃ (kq : Nat) (x58_18 : Bool), v58 = .bool x58_18 ∧ Aside0 (topiaryref05_Check.j2 kq x58_18 a0_0 a0_1 a0_2 l0_3 a0_4 a0_5 a0_6 a0_7 a0_8 a0_9 a0_10 a0_11 a0_12 = some r) ∧ Aside0 (kq ≤ kj9) ∧ Aside0 (wc.heap[gb327]? = some (.cells #[.int .i64 a0_0, .int .i64 a0_1, .int .i64 a0_2, (.slice A0_3 l0_3.length c0_3), .int .i64 a0_4, .int .i64 a0_5, .int .i64 a0_6, .int .i64 a0_7, .int .i64 a0_8, .int .i64 a0_9, .int .i64 a0_10, .string a0_11, .string a0_12] 26 (0, 0))) ∧ Aside0 (Below w.heap.size w wc))
         case first =>
          have H := HC19.out
          clear HC19
          replace H := Option.bind_eq_some_iff.mp H
          obtain ⟨t331, A210, H⟩ := H
          have A21 := Aside0.mk A210
          clear A210
          by_cases c22 : (t331.length : Int) = (l0_3.length : Int)
          ·rw [if_pos c22] at H
           have c22b0 : ((t331.length : Int) == (l0_3.length : Int)) = true := beq_iff_eq.mpr c22
           have c22b1 : ((t331.length : Int) != (l0_3.length : Int)) = false := bne_eq_false_iff_eq.mpr c22
           have c22b2 : (t331.length == l0_3.length) = true := by first | simpa using c22 | (simp at c22 ⊢; omega)
           clear c22
           (first | rw [c22b0] | (simp only [i64_w, i32_w]; rw [c22b0]) | skip)
           replace H := Option.bind_eq_some_iff.mp H
           obtain ⟨t334, A230, H⟩ := H
           have A23 := Aside0.mk A230
           clear A230
           by_cases c24 : t334 = (wrap64 (a0_2 - 1))
           ·rw [if_pos c24] at H
            have c24b0 : (t334 == (wrap64 (a0_2 - 1))) = true := beq_iff_eq.mpr c24
            have c24b1 : (t334 != (wrap64 (a0_2 - 1))) = false := bne_eq_false_iff_eq.mpr c24
            clear c24
            replace H := Option.bind_eq_some_iff.mp H
            obtain ⟨t335, A250, H⟩ := H
            have A25 := Aside0.mk A250
            clear A250
            have H' := Aside0.mk H
            clear H
            try go_wp2
            replace BK327 := Aside0.mk (blk_drew (blk_drewN BK327.out nd))
            replace HB := Aside0.mk (below_drew1 (pw_below_drewN HB.out nd))
            refine start_ (n := 25) (S := fun w' => w'.cell? ⟨gb327, 0, none⟩ = some (.int .i64 a0_0) ∧ w'.cell? ⟨gb327, 1, none⟩ = some (.int .i64 a0_1) ∧ w'.cell? ⟨gb327, 2, none⟩ = some (.int .i64 a0_2) ∧ w'.cell? ⟨gb327, 3, none⟩ = some (.slice A0_3 l0_3.length c0_3) ∧ w'.cell? ⟨gb327, 4, none⟩ = some (.int .i64 a0_4) ∧ w'.cell? ⟨gb327, 5, none⟩ = some (.int .i64 a0_5) ∧ w'.cell? ⟨gb327, 6, none⟩ = some (.int .i64 a0_6) ∧ w'.cell? ⟨gb327, 7, none⟩ = some (.int .i64 a0_7) ∧ w'.cell? ⟨gb327, 8, none⟩ = some (.int .i64 a0_8) ∧ w'.cell? ⟨gb327, 9, none⟩ = some (.int .i64 a0_9) ∧ w'.cell? ⟨gb327, 10, none⟩ = some (.int .i64 a0_10) ∧ w'.cell? ⟨gb327, 11, none⟩ = some (.string a0_11) ∧ w'.cell? ⟨gb327, 12, none⟩ = some (.string a0_12)) (ds := []) #[false, false, false, false, false, false, false, false, false, false, false, false, false, false, false, false, false, false, false, false, false, false, false, false, false] (by kernel_rfl) rfl rfl ⟨(blk_cell BK327.out 0).trans rfl, (blk_cell BK327.out 1).trans rfl, (blk_cell BK327.out 2).trans rfl, (blk_cell BK327.out 3).trans rfl, (blk_cell BK327.out 4).trans rfl, (blk_cell BK327.out 5).trans rfl, (blk_cell BK327.out 6).trans rfl, (blk_cell BK327.out 7).trans rfl, (blk_cell BK327.out 8).trans rfl, (blk_cell BK327.out 9).trans rfl, (blk_cell BK327.out 10).trans rfl, (blk_cell BK327.out 11).trans rfl, (blk_cell BK327.out 12).trans rfl⟩ (fun hHeld => ?_); refine with_tabW topiaryref05_Check.tab9 topiaryref05_Check.bits9 (fun HT_ HW_ => ?_)
            generalize (wc.drewN nd).drew = w26 at BK327 HB hHeld ⊢
            refine zqp_ 0 34 HT_ ?_
            refine zqp_ 4 38 HT_ ?_
            refine zqt13_ 1 35 HT_ HW_ hHeld ?_
            refine zqt13_ 5 39 HT_ HW_ hHeld ?_
            refine zqp_ 6 40 HT_ ?_
            refine zqo_ 2 36 HT_ (fun K hK => ?_)
            refine goes_ Tryz.func32 (by kernel_rfl) rfl #[.slice A0_3 l0_3.length c0_3] (by rfl) rfl rfl zq4_ ?_
            with_reducible refine (topiaryref02_Trim.calls kj9 _ _ l0_3 t331 _ ?side1 ?side2 A21.out).mono ?_
            (case side1 => repeat (first | exact (Kd.C_below HR0_3.out HB.out) | (with_reducible refine Kd.C_alloc ?_ _) | (with_reducible refine Kd.C_drewN ?_ _) | (with_reducible refine Kd.C_drew ?_)))
            (case side2 => exact HC0_3.out)
            rintro e w27 ⟨v332, rfl, ho0, hb⟩
            refine ⟨_, rfl, ?_⟩
            have HO333 := Aside0.mk (Kd.R_lower ho0 (below_size (zqB1_ GE327.out)))
            replace BK327 := Aside0.mk (blk_below (zqK_ BK327.out) hb)
            replace HB := Aside0.mk (below_step (zqB1_ GE327.out) hb)
            (try clear hb)
            (try clear hb2)
            (try clear hk)
            (try clear hi)
            (try clear ho0)
            obtain ⟨Ao28, co28, eo28⟩ := Kd.R_slice HO333.out
            (first | subst eo28 | (injection eo28 with f1_ f2_ f3_; have f4_ := f1_.symm; have f5_ := f3_.symm; clear f1_ f2_ f3_; subst f4_; subst f5_))
            refine hK.out _ _ ⟨(blk_cell BK327.out 0).trans rfl, (blk_cell BK327.out 1).trans rfl, (blk_cell BK327.out 2).trans rfl, (blk_cell BK327.out 3).trans rfl, (blk_cell BK327.out 4).trans rfl, (blk_cell BK327.out 5).trans rfl, (blk_cell BK327.out 6).trans rfl, (blk_cell BK327.out 7).trans rfl, (blk_cell BK327.out 8).trans rfl, (blk_cell BK327.out 9).trans rfl, (blk_cell BK327.out 10).trans rfl, (blk_cell BK327.out 11).trans rfl, (blk_cell BK327.out 12).trans rfl⟩ (fun hHeld => ?_)
            clear hK K
            refine norm_ (a' := ?_) ?_ ?_
            rotate_left
            ·show Act.put _ (some 36) _ = _
             simp only [Act.put, List.setIfInBounds_toArray, List.set_cons_zero, List.set_cons_succ, i64_w, i32_w]
             rfl
            refine zqp_ 3 37 HT_ ?_
            refine zqp_ 7 41 HT_ ?_
            refine zqp_ 8 42 HT_ ?_
            refine zqp_ 9 43 HT_ ?_
            refine zqp_ 11 45 HT_ ?_
            refine zqp_ 12 46 HT_ ?_
            refine zqp_ 15 49 HT_ ?_
            refine zqt13_ 10 44 HT_ HW_ hHeld ?_
            refine zqt13_ 13 47 HT_ HW_ hHeld ?_
            refine zqt13_ 16 50 HT_ HW_ hHeld ?_
            refine zqp_ 17 51 HT_ ?_
            refine zqo_ 14 48 HT_ (fun K hK => ?_)
            refine goes_ Tryz.func33 (by kernel_rfl) rfl #[.slice A0_3 l0_3.length c0_3, .int .i64 a0_1] (by rfl) rfl rfl zq4_ ?_
            with_reducible refine (topiaryref02_At.calls _ _ l0_3 a0_1 t334 _ ?side1 ?side2 A23.out).mono ?_
            (case side1 => repeat (first | exact (Kd.C_below HR0_3.out HB.out) | (with_reducible refine Kd.C_alloc ?_ _) | (with_reducible refine Kd.C_drewN ?_ _) | (with_reducible refine Kd.C_drew ?_)))
            (case side2 => exact HC0_3.out)
            rintro e w' ⟨rfl, ⟨nd, rfl⟩⟩
            refine ⟨_, rfl, ?_⟩
            refine hK.out _ _ ⟨(blk_cell BK327.out 0).trans rfl, (blk_cell BK327.out 1).trans rfl, (blk_cell BK327.out 2).trans rfl, (blk_cell BK327.out 3).trans rfl, (blk_cell BK327.out 4).trans rfl, (blk_cell BK327.out 5).trans rfl, (blk_cell BK327.out 6).trans rfl, (blk_cell BK327.out 7).trans rfl, (blk_cell BK327.out 8).trans rfl, (blk_cell BK327.out 9).trans rfl, (blk_cell BK327.out 10).trans rfl, (blk_cell BK327.out 11).trans rfl, (blk_cell BK327.out 12).trans rfl⟩ (fun hHeld => ?_)
            clear hK K
            refine norm_ (a' := ?_) ?_ ?_
            rotate_left
            ·show Act.put _ (some 48) _ = _
             simp only [Act.put, List.setIfInBounds_toArray, List.set_cons_zero, List.set_cons_succ, i64_w, i32_w]
             rfl
            refine zqp_ 18 52 HT_ ?_
            refine zqp_ 19 53 HT_ ?_
            refine zqp_ 20 54 HT_ ?_
            refine zqt13_ 21 55 HT_ HW_ hHeld ?_
            refine zqo_ 22 56 HT_ (fun K hK => ?_)
            refine goes_ Tryz.func34 (by kernel_rfl) rfl #[.agg #[.int .i64 a0_0, .int .i64 a0_1, .int .i64 a0_2, .slice A0_3 l0_3.length c0_3, .int .i64 a0_4, .int .i64 a0_5, .int .i64 a0_6, .int .i64 a0_7, .int .i64 a0_8, .int .i64 a0_9, .int .i64 a0_10, .string a0_11, .string a0_12]] (by rfl) rfl rfl zq4_ ?_
            with_reducible refine (topiaryref05_placed.calls kj9 a0_0 a0_1 a0_2 _ _ l0_3 a0_4 a0_5 a0_6 a0_7 a0_8 a0_9 a0_10 a0_11 a0_12 t335 _ ?side1 ?side2 A25.out).mono ?_
            (case side1 => repeat (first | exact (Kd.C_below HR0_3.out (zqB1_ GE327.out)) | (with_reducible refine Kd.C_alloc ?_ _) | (with_reducible refine Kd.C_drewN ?_ _) | (with_reducible refine Kd.C_drew ?_)))
            (case side2 => exact HC0_3.out)
            rintro e w29 ⟨rfl, hb⟩
            refine ⟨_, rfl, ?_⟩
            replace HO333 := Aside0.mk (Kd.R_below (by (with_reducible repeat (first | apply Kd.R_alloc | apply Kd.R_drewN | apply Kd.R_drew)); exact HO333.out) hb)
            replace BK327 := Aside0.mk (blk_below (zqK_ BK327.out) hb)
            replace HB := Aside0.mk (below_step (zqB1_ GE327.out) hb)
            (try clear hb)
            (try clear hb2)
            (try clear hk)
            (try clear hi)
            refine hK.out _ _ ⟨(blk_cell BK327.out 0).trans rfl, (blk_cell BK327.out 1).trans rfl, (blk_cell BK327.out 2).trans rfl, (blk_cell BK327.out 3).trans rfl, (blk_cell BK327.out 4).trans rfl, (blk_cell BK327.out 5).trans rfl, (blk_cell BK327.out 6).trans rfl, (blk_cell BK327.out 7).trans rfl, (blk_cell BK327.out 8).trans rfl, (blk_cell BK327.out 9).trans rfl, (blk_cell BK327.out 10).trans rfl, (blk_cell BK327.out 11).trans rfl, (blk_cell BK327.out 12).trans rfl⟩ (fun hHeld => ?_)
            clear hK K
            refine norm_ (a' := ?_) ?_ ?_
            rotate_left
            ·show Act.put _ (some 56) _ = _
             simp only [Act.put, List.setIfInBounds_toArray, List.set_cons_zero, List.set_cons_succ, i64_w, i32_w]
             rfl
            refine zqp_ 23 57 HT_ ?_
            refine zqp_ 24 58 HT_ ?_
            refine done_ (done_of HT_.out (by kernel_rfl)) ?_
            try go_wp2
            go_meet
            case rel => exact ⟨_, (!t335), zq5_, H', ⟨by have := HJ1.out; have := HJ9.out; first | omega | exact Nat.le_refl _⟩, ⟨by (with_reducible repeat (first | refine blk_drewN ?_ _ | refine blk_drew ?_ | refine blk_alloc ?_ _)); exact BK327.out⟩, ⟨by repeat (first | (with_reducible first | exact HB.out | apply below_alloc | apply pw_below_drewN | apply below_drew1 | refine below_set ?_ GE327.out) | exact HB.out)⟩⟩
           ·rw [if_neg c24] at H
            have c24b0 : (t334 == (wrap64 (a0_2 - 1))) = false := beq_eq_false_iff_ne.mpr c24
            have c24b1 : (t334 != (wrap64 (a0_2 - 1))) = true := bne_iff_ne.mpr c24
            have H' := Aside0.mk H
            clear H
            try go_wp2
            replace BK327 := Aside0.mk (blk_drew (blk_drewN BK327.out nd))
            replace HB := Aside0.mk (below_drew1 (pw_below_drewN HB.out nd))
            refine start_ (n := 25) (S := fun w' => w'.cell? ⟨gb327, 0, none⟩ = some (.int .i64 a0_0) ∧ w'.cell? ⟨gb327, 1, none⟩ = some (.int .i64 a0_1) ∧ w'.cell? ⟨gb327, 2, none⟩ = some (.int .i64 a0_2) ∧ w'.cell? ⟨gb327, 3, none⟩ = some (.slice A0_3 l0_3.length c0_3) ∧ w'.cell? ⟨gb327, 4, none⟩ = some (.int .i64 a0_4) ∧ w'.cell? ⟨gb327, 5, none⟩ = some (.int .i64 a0_5) ∧ w'.cell? ⟨gb327, 6, none⟩ = some (.int .i64 a0_6) ∧ w'.cell? ⟨gb327, 7, none⟩ = some (.int .i64 a0_7) ∧ w'.cell? ⟨gb327, 8, none⟩ = some (.int .i64 a0_8) ∧ w'.cell? ⟨gb327, 9, none⟩ = some (.int .i64 a0_9) ∧ w'.cell? ⟨gb327, 10, none⟩ = some (.int .i64 a0_10) ∧ w'.cell? ⟨gb327, 11, none⟩ = some (.string a0_11) ∧ w'.cell? ⟨gb327, 12, none⟩ = some (.string a0_12)) (ds := []) #[false, false, false, false, false, false, false, false, false, false, false, false, false, false, false, false, false, false, false, false, false, false, false, false, false] (by kernel_rfl) rfl rfl ⟨(blk_cell BK327.out 0).trans rfl, (blk_cell BK327.out 1).trans rfl, (blk_cell BK327.out 2).trans rfl, (blk_cell BK327.out 3).trans rfl, (blk_cell BK327.out 4).trans rfl, (blk_cell BK327.out 5).trans rfl, (blk_cell BK327.out 6).trans rfl, (blk_cell BK327.out 7).trans rfl, (blk_cell BK327.out 8).trans rfl, (blk_cell BK327.out 9).trans rfl, (blk_cell BK327.out 10).trans rfl, (blk_cell BK327.out 11).trans rfl, (blk_cell BK327.out 12).trans rfl⟩ (fun hHeld => ?_); refine with_tabW topiaryref05_Check.tab9 topiaryref05_Check.bits9 (fun HT_ HW_ => ?_)
            generalize (wc.drewN nd).drew = w30 at BK327 HB hHeld ⊢
            refine zqp_ 0 34 HT_ ?_
            refine zqp_ 4 38 HT_ ?_
            refine zqt13_ 1 35 HT_ HW_ hHeld ?_
            refine zqt13_ 5 39 HT_ HW_ hHeld ?_
            refine zqp_ 6 40 HT_ ?_
            refine zqo_ 2 36 HT_ (fun K hK => ?_)
            refine goes_ Tryz.func32 (by kernel_rfl) rfl #[.slice A0_3 l0_3.length c0_3] (by rfl) rfl rfl zq4_ ?_
            with_reducible refine (topiaryref02_Trim.calls kj9 _ _ l0_3 t331 _ ?side1 ?side2 A21.out).mono ?_
            (case side1 => repeat (first | exact (Kd.C_below HR0_3.out HB.out) | (with_reducible refine Kd.C_alloc ?_ _) | (with_reducible refine Kd.C_drewN ?_ _) | (with_reducible refine Kd.C_drew ?_)))
            (case side2 => exact HC0_3.out)
            rintro e w31 ⟨v332, rfl, ho0, hb⟩
            refine ⟨_, rfl, ?_⟩
            have HO333 := Aside0.mk (Kd.R_lower ho0 (below_size (zqB1_ GE327.out)))
            replace BK327 := Aside0.mk (blk_below (zqK_ BK327.out) hb)
            replace HB := Aside0.mk (below_step (zqB1_ GE327.out) hb)
            (try clear hb)
            (try clear hb2)
            (try clear hk)
            (try clear hi)
            (try clear ho0)
            obtain ⟨Ao32, co32, eo32⟩ := Kd.R_slice HO333.out
            (first | subst eo32 | (injection eo32 with f1_ f2_ f3_; have f4_ := f1_.symm; have f5_ := f3_.symm; clear f1_ f2_ f3_; subst f4_; subst f5_))
            refine hK.out _ _ ⟨(blk_cell BK327.out 0).trans rfl, (blk_cell BK327.out 1).trans rfl, (blk_cell BK327.out 2).trans rfl, (blk_cell BK327.out 3).trans rfl, (blk_cell BK327.out 4).trans rfl, (blk_cell BK327.out 5).trans rfl, (blk_cell BK327.out 6).trans rfl, (blk_cell BK327.out 7).trans rfl, (blk_cell BK327.out 8).trans rfl, (blk_cell BK327.out 9).trans rfl, (blk_cell BK327.out 10).trans rfl, (blk_cell BK327.out 11).trans rfl, (blk_cell BK327.out 12).trans rfl⟩ (fun hHeld => ?_)
            clear hK K
            refine norm_ (a' := ?_) ?_ ?_
            rotate_left
            ·show Act.put _ (some 36) _ = _
             simp only [Act.put, List.setIfInBounds_toArray, List.set_cons_zero, List.set_cons_succ, i64_w, i32_w]
             rfl
            refine zqp_ 3 37 HT_ ?_
            refine zqp_ 7 41 HT_ ?_
            refine zqp_ 8 42 HT_ ?_
            refine zqp_ 9 43 HT_ ?_
            refine zqp_ 11 45 HT_ ?_
            refine zqp_ 12 46 HT_ ?_
            refine zqp_ 15 49 HT_ ?_
            refine zqt13_ 10 44 HT_ HW_ hHeld ?_
            refine zqt13_ 13 47 HT_ HW_ hHeld ?_
            refine zqt13_ 16 50 HT_ HW_ hHeld ?_
            refine zqp_ 17 51 HT_ ?_
            refine zqo_ 14 48 HT_ (fun K hK => ?_)
            refine goes_ Tryz.func33 (by kernel_rfl) rfl #[.slice A0_3 l0_3.length c0_3, .int .i64 a0_1] (by rfl) rfl rfl zq4_ ?_
            with_reducible refine (topiaryref02_At.calls _ _ l0_3 a0_1 t334 _ ?side1 ?side2 A23.out).mono ?_
            (case side1 => repeat (first | exact (Kd.C_below HR0_3.out HB.out) | (with_reducible refine Kd.C_alloc ?_ _) | (with_reducible refine Kd.C_drewN ?_ _) | (with_reducible refine Kd.C_drew ?_)))
            (case side2 => exact HC0_3.out)
            rintro e w' ⟨rfl, ⟨nd, rfl⟩⟩
            refine ⟨_, rfl, ?_⟩
            refine hK.out _ _ ⟨(blk_cell BK327.out 0).trans rfl, (blk_cell BK327.out 1).trans rfl, (blk_cell BK327.out 2).trans rfl, (blk_cell BK327.out 3).trans rfl, (blk_cell BK327.out 4).trans rfl, (blk_cell BK327.out 5).trans rfl, (blk_cell BK327.out 6).trans rfl, (blk_cell BK327.out 7).trans rfl, (blk_cell BK327.out 8).trans rfl, (blk_cell BK327.out 9).trans rfl, (blk_cell BK327.out 10).trans rfl, (blk_cell BK327.out 11).trans rfl, (blk_cell BK327.out 12).trans rfl⟩ (fun hHeld => ?_)
            clear hK K
            refine norm_ (a' := ?_) ?_ ?_
            rotate_left
            ·show Act.put _ (some 48) _ = _
             simp only [Act.put, List.setIfInBounds_toArray, List.set_cons_zero, List.set_cons_succ, i64_w, i32_w]
             rfl
            refine zqp_ 18 52 HT_ ?_
            refine zqp_ 19 53 HT_ ?_
            refine zqp_ 20 54 HT_ ?_
            refine zqu_ 21 55 HT_ ?_
            refine zqu_ 22 56 HT_ ?_
            refine zqu_ 23 57 HT_ ?_
            refine zqp_ 24 58 HT_ ?_
            refine done_ (done_of HT_.out (by kernel_rfl)) ?_
            try go_wp2
            go_meet
            case rel => exact ⟨_, (true), zq5_, H', ⟨by have := HJ1.out; have := HJ9.out; first | omega | exact Nat.le_refl _⟩, ⟨by (with_reducible repeat (first | refine blk_drewN ?_ _ | refine blk_drew ?_ | refine blk_alloc ?_ _)); exact BK327.out⟩, ⟨by repeat (first | (with_reducible first | exact HB.out | apply below_alloc | apply pw_below_drewN | apply below_drew1 | refine below_set ?_ GE327.out) | exact HB.out)⟩⟩
          ·rw [if_neg c22] at H
           have c22b0 : ((t331.length : Int) == (l0_3.length : Int)) = false := beq_eq_false_iff_ne.mpr c22
           have c22b1 : ((t331.length : Int) != (l0_3.length : Int)) = true := bne_iff_ne.mpr c22
           have c22b2 : (t331.length == l0_3.length) = false := by first | simpa using c22 | (simp at c22 ⊢; omega)
           (first | rw [c22b0] | (simp only [i64_w, i32_w]; rw [c22b0]) | skip)
           have H' := Aside0.mk H
           clear H
           try go_wp2
           replace BK327 := Aside0.mk (blk_drew (blk_drewN BK327.out nd))
           replace HB := Aside0.mk (below_drew1 (pw_below_drewN HB.out nd))
           refine start_ (n := 25) (S := fun w' => w'.cell? ⟨gb327, 0, none⟩ = some (.int .i64 a0_0) ∧ w'.cell? ⟨gb327, 1, none⟩ = some (.int .i64 a0_1) ∧ w'.cell? ⟨gb327, 2, none⟩ = some (.int .i64 a0_2) ∧ w'.cell? ⟨gb327, 3, none⟩ = some (.slice A0_3 l0_3.length c0_3) ∧ w'.cell? ⟨gb327, 4, none⟩ = some (.int .i64 a0_4) ∧ w'.cell? ⟨gb327, 5, none⟩ = some (.int .i64 a0_5) ∧ w'.cell? ⟨gb327, 6, none⟩ = some (.int .i64 a0_6) ∧ w'.cell? ⟨gb327, 7, none⟩ = some (.int .i64 a0_7) ∧ w'.cell? ⟨gb327, 8, none⟩ = some (.int .i64 a0_8) ∧ w'.cell? ⟨gb327, 9, none⟩ = some (.int .i64 a0_9) ∧ w'.cell? ⟨gb327, 10, none⟩ = some (.int .i64 a0_10) ∧ w'.cell? ⟨gb327, 11, none⟩ = some (.string a0_11) ∧ w'.cell? ⟨gb327, 12, none⟩ = some (.string a0_12)) (ds := []) #[false, false, false, false, false, false, false, false, false, false, false, false, false, false, false, false, false, false, false, false, false, false, false, false, false] (by kernel_rfl) rfl rfl ⟨(blk_cell BK327.out 0).trans rfl, (blk_cell BK327.out 1).trans rfl, (blk_cell BK327.out 2).trans rfl, (blk_cell BK327.out 3).trans rfl, (blk_cell BK327.out 4).trans rfl, (blk_cell BK327.out 5).trans rfl, (blk_cell BK327.out 6).trans rfl, (blk_cell BK327.out 7).trans rfl, (blk_cell BK327.out 8).trans rfl, (blk_cell BK327.out 9).trans rfl, (blk_cell BK327.out 10).trans rfl, (blk_cell BK327.out 11).trans rfl, (blk_cell BK327.out 12).trans rfl⟩ (fun hHeld => ?_); refine with_tabW topiaryref05_Check.tab9 topiaryref05_Check.bits9 (fun HT_ HW_ => ?_)
           generalize (wc.drewN nd).drew = w33 at BK327 HB hHeld ⊢
           refine zqp_ 0 34 HT_ ?_
           refine zqp_ 4 38 HT_ ?_
           refine zqt13_ 1 35 HT_ HW_ hHeld ?_
           refine zqt13_ 5 39 HT_ HW_ hHeld ?_
           refine zqp_ 6 40 HT_ ?_
           refine zqo_ 2 36 HT_ (fun K hK => ?_)
           refine goes_ Tryz.func32 (by kernel_rfl) rfl #[.slice A0_3 l0_3.length c0_3] (by rfl) rfl rfl zq4_ ?_
           with_reducible refine (topiaryref02_Trim.calls kj9 _ _ l0_3 t331 _ ?side1 ?side2 A21.out).mono ?_
           (case side1 => repeat (first | exact (Kd.C_below HR0_3.out HB.out) | (with_reducible refine Kd.C_alloc ?_ _) | (with_reducible refine Kd.C_drewN ?_ _) | (with_reducible refine Kd.C_drew ?_)))
           (case side2 => exact HC0_3.out)
           rintro e w34 ⟨v332, rfl, ho0, hb⟩
           refine ⟨_, rfl, ?_⟩
           have HO333 := Aside0.mk (Kd.R_lower ho0 (below_size (zqB1_ GE327.out)))
           replace BK327 := Aside0.mk (blk_below (zqK_ BK327.out) hb)
           replace HB := Aside0.mk (below_step (zqB1_ GE327.out) hb)
           (try clear hb)
           (try clear hb2)
           (try clear hk)
           (try clear hi)
           (try clear ho0)
           obtain ⟨Ao35, co35, eo35⟩ := Kd.R_slice HO333.out
           (first | subst eo35 | (injection eo35 with f1_ f2_ f3_; have f4_ := f1_.symm; have f5_ := f3_.symm; clear f1_ f2_ f3_; subst f4_; subst f5_))
           refine hK.out _ _ ⟨(blk_cell BK327.out 0).trans rfl, (blk_cell BK327.out 1).trans rfl, (blk_cell BK327.out 2).trans rfl, (blk_cell BK327.out 3).trans rfl, (blk_cell BK327.out 4).trans rfl, (blk_cell BK327.out 5).trans rfl, (blk_cell BK327.out 6).trans rfl, (blk_cell BK327.out 7).trans rfl, (blk_cell BK327.out 8).trans rfl, (blk_cell BK327.out 9).trans rfl, (blk_cell BK327.out 10).trans rfl, (blk_cell BK327.out 11).trans rfl, (blk_cell BK327.out 12).trans rfl⟩ (fun hHeld => ?_)
           clear hK K
           refine norm_ (a' := ?_) ?_ ?_
           rotate_left
           ·show Act.put _ (some 36) _ = _
            simp only [Act.put, List.setIfInBounds_toArray, List.set_cons_zero, List.set_cons_succ, i64_w, i32_w]
            rfl
           refine zqp_ 3 37 HT_ ?_
           refine zqp_ 7 41 HT_ ?_
           refine zqp_ 8 42 HT_ ?_
           refine zqu_ 9 43 HT_ ?_
           refine zqu_ 10 44 HT_ ?_
           refine zqu_ 11 45 HT_ ?_
           refine zqu_ 12 46 HT_ ?_
           refine zqu_ 13 47 HT_ ?_
           refine zqu_ 14 48 HT_ ?_
           refine zqu_ 15 49 HT_ ?_
           refine zqu_ 16 50 HT_ ?_
           refine zqu_ 17 51 HT_ ?_
           refine zqu_ 18 52 HT_ ?_
           refine zqp_ 19 53 HT_ ?_
           refine zqp_ 20 54 HT_ ?_
           refine zqu_ 21 55 HT_ ?_
           refine zqu_ 22 56 HT_ ?_
           refine zqu_ 23 57 HT_ ?_
           refine zqp_ 24 58 HT_ ?_
           refine done_ (done_of HT_.out (by kernel_rfl)) ?_
           try go_wp2
           go_meet
           case rel => exact ⟨_, (true), zq5_, H', ⟨by have := HJ1.out; have := HJ9.out; first | omega | exact Nat.le_refl _⟩, ⟨by (with_reducible repeat (first | refine blk_drewN ?_ _ | refine blk_drew ?_ | refine blk_alloc ?_ _)); exact BK327.out⟩, ⟨by repeat (first | (with_reducible first | exact HB.out | apply below_alloc | apply pw_below_drewN | apply below_drew1 | refine below_set ?_ GE327.out) | exact HB.out)⟩⟩
         case rest =>
          clear HC19
          try clear c2
          try clear p2
          try clear c3
          try clear p6
          try clear c22
          try clear c22b0
          try clear c22b1
          try clear c22b2
          try clear c24
          try clear c24b0
          try clear c24b1
          try clear c32
          try clear c33
          try clear c34
          obtain ⟨kq, x58_18, rfl, HA, HJ18, BK327, HB⟩ := hcut
          cases kq with
          | zero => exact absurd HA.out (by simp [topiaryref05_Check.j2])
          | succ kj18 =>
           have H := HA.out
           clear HA
           simp only [topiaryref05_Check.j2] at H
           by_cases c36 : x58_18 = true
           ·subst c36
            have H1 : (some 2) = some r := by rw [if_pos rfl] at H; exact H
            clear H
            have H := H1
            clear H1
            obtain rfl := Option.some.inj H
            go_wp2
            go_ret
            exact ⟨by first | rfl | (simp [errW_none, errW_some] <;> rfl) | (simp [*, errW_none, errW_some] <;> rfl), by repeat (first | (with_reducible first | exact HB.out | apply below_alloc | apply pw_below_drewN | apply below_drew1 | refine below_set ?_ GE327.out) | exact HB.out)⟩
           ·replace c36 := Bool.eq_false_iff.mpr c36
            subst c36
            have H1 : (if a0_4 = 1 then (topiaryref05_Check.j3 kj18 true a0_0 a0_1 a0_2 l0_3 a0_4 a0_5 a0_6 a0_7 a0_8 a0_9 a0_10 a0_11 a0_12) else (if a0_4 = 3 then (topiaryref05_Check.j3 kj18 true a0_0 a0_1 a0_2 l0_3 a0_4 a0_5 a0_6 a0_7 a0_8 a0_9 a0_10 a0_11 a0_12) else (topiaryref05_Check.j3 kj18 (a0_4 == 4) a0_0 a0_1 a0_2 l0_3 a0_4 a0_5 a0_6 a0_7 a0_8 a0_9 a0_10 a0_11 a0_12))) = some r := by rw [if_neg (show ¬ (false = true) by decide)] at H; exact H
            clear H
            have H := H1
            clear H1
            have HC37 := Aside0.mk H
            clear H
            go_upto_region 11 with (fail)
            go_cut [3] (fun v3 wc => ∃ (kq : Nat) (x3_36 : Bool), v3 = .bool x3_36 ∧ Aside0 (topiaryref05_Check.j3 kq x3_36 a0_0 a0_1 a0_2 l0_3 a0_4 a0_5 a0_6 a0_7 a0_8 a0_9 a0_10 a0_11 a0_12 = some r) ∧ Aside0 (kq ≤ kj18) ∧ Aside0 (wc.heap[gb327]? = some (.cells #[.int .i64 a0_0, .int .i64 a0_1, .int .i64 a0_2, (.slice A0_3 l0_3.length c0_3), .int .i64 a0_4, .int .i64 a0_5, .int .i64 a0_6, .int .i64 a0_7, .int .i64 a0_8, .int .i64 a0_9, .int .i64 a0_10, .string a0_11, .string a0_12] 26 (0, 0))) ∧ Aside0 (Below w.heap.size w wc))
            case first =>
             have H := HC37.out
             clear HC37
             by_cases c38 : a0_4 = 1
             ·rw [if_pos c38] at H
              have c38b0 : (a0_4 == 1) = true := beq_iff_eq.mpr c38
              have c38b1 : (a0_4 != 1) = false := bne_eq_false_iff_eq.mpr c38
              clear c38
              (first | rw [c38b0] | (simp only [i64_w, i32_w]; rw [c38b0]) | skip)
              have H' := Aside0.mk H
              clear H
              obtain ⟨hcz39_0, hfz39_0, hcz39_1, hfz39_1, hcz39_2, hfz39_2, hcz39_3, hfz39_3, hcz39_4, hfz39_4, hcz39_5, hfz39_5, hcz39_6, hfz39_6, hcz39_7, hfz39_7, hcz39_8, hfz39_8, hcz39_9, hfz39_9, hcz39_10, hfz39_10, hcz39_11, hfz39_11, hcz39_12, hfz39_12⟩ := zqC13_ BK327.out
              go_wp2
              go_meet
              case rel => exact ⟨_, (true), zq5_, H', ⟨by have := HJ1.out; have := HJ9.out; have := HJ18.out; first | omega | exact Nat.le_refl _⟩, ⟨by (with_reducible repeat (first | refine blk_drewN ?_ _ | refine blk_drew ?_ | refine blk_alloc ?_ _)); exact BK327.out⟩, ⟨by repeat (first | (with_reducible first | exact HB.out | apply below_alloc | apply pw_below_drewN | apply below_drew1 | refine below_set ?_ GE327.out) | exact HB.out)⟩⟩
             ·rw [if_neg c38] at H
              have c38b0 : (a0_4 == 1) = false := beq_eq_false_iff_ne.mpr c38
              have c38b1 : (a0_4 != 1) = true := bne_iff_ne.mpr c38
              (first | rw [c38b0] | (simp only [i64_w, i32_w]; rw [c38b0]) | skip)
              by_cases c40 : a0_4 = 3
              ·rw [if_pos c40] at H
               have c40b0 : (a0_4 == 3) = true := beq_iff_eq.mpr c40
               have c40b1 : (a0_4 != 3) = false := bne_eq_false_iff_eq.mpr c40
               clear c40
               have H' := Aside0.mk H
               clear H
               obtain ⟨hcz41_0, hfz41_0, hcz41_1, hfz41_1, hcz41_2, hfz41_2, hcz41_3, hfz41_3, hcz41_4, hfz41_4, hcz41_5, hfz41_5, hcz41_6, hfz41_6, hcz41_7, hfz41_7, hcz41_8, hfz41_8, hcz41_9, hfz41_9, hcz41_10, hfz41_10, hcz41_11, hfz41_11, hcz41_12, hfz41_12⟩ := zqC13_ BK327.out
               go_wp2
               go_meet
               case rel => exact ⟨_, (true), zq5_, H', ⟨by have := HJ1.out; have := HJ9.out; have := HJ18.out; first | omega | exact Nat.le_refl _⟩, ⟨by (with_reducible repeat (first | refine blk_drewN ?_ _ | refine blk_drew ?_ | refine blk_alloc ?_ _)); exact BK327.out⟩, ⟨by repeat (first | (with_reducible first | exact HB.out | apply below_alloc | apply pw_below_drewN | apply below_drew1 | refine below_set ?_ GE327.out) | exact HB.out)⟩⟩
              ·rw [if_neg c40] at H
               have c40b0 : (a0_4 == 3) = false := beq_eq_false_iff_ne.mpr c40
               have c40b1 : (a0_4 != 3) = true := bne_iff_ne.mpr c40
               have H' := Aside0.mk H
               clear H
               obtain ⟨hcz42_0, hfz42_0, hcz42_1, hfz42_1, hcz42_2, hfz42_2, hcz42_3, hfz42_3, hcz42_4, hfz42_4, hcz42_5, hfz42_5, hcz42_6, hfz42_6, hcz42_7, hfz42_7, hcz42_8, hfz42_8, hcz42_9, hfz42_9, hcz42_10, hfz42_10, hcz42_11, hfz42_11, hcz42_12, hfz42_12⟩ := zqC13_ BK327.out
               go_wp2
               go_meet
               case rel => exact ⟨_, ((a0_4 == 4)), zq5_, H', ⟨by have := HJ1.out; have := HJ9.out; have := HJ18.out; first | omega | exact Nat.le_refl _⟩, ⟨by (with_reducible repeat (first | refine blk_drewN ?_ _ | refine blk_drew ?_ | refine blk_alloc ?_ _)); exact BK327.out⟩, ⟨by repeat (first | (with_reducible first | exact HB.out | apply below_alloc | apply pw_below_drewN | apply below_drew1 | refine below_set ?_ GE327.out) | exact HB.out)⟩⟩
            case rest =>
             clear HC37
             try clear c2
             try clear p2
             try clear c3
             try clear c4
             try clear p6
             try clear c22
             try clear c22b0
             try clear c22b1
             try clear c22b2
             try clear c24
             try clear c24b0
             try clear c24b1
             try clear c32
             try clear c33
             try clear c34
             try clear c36
             try clear c38
             try clear c38b0
             try clear c38b1
             try clear c40
             try clear c40b0
             try clear c40b1
             try clear hcz39_0 hcz39_1 hcz39_10 hcz39_11 hcz39_12 hcz39_2 hcz39_3 hcz39_4 hcz39_5 hcz39_6 hcz39_7 hcz39_8 hcz39_9 hfz39_0 hfz39_1 hfz39_10 hfz39_11 hfz39_12 hfz39_2 hfz39_3 hfz39_4 hfz39_5 hfz39_6 hfz39_7 hfz39_8 hfz39_9
             try clear hcz41_0 hcz41_1 hcz41_10 hcz41_11 hcz41_12 hcz41_2 hcz41_3 hcz41_4 hcz41_5 hcz41_6 hcz41_7 hcz41_8 hcz41_9 hfz41_0 hfz41_1 hfz41_10 hfz41_11 hfz41_12 hfz41_2 hfz41_3 hfz41_4 hfz41_5 hfz41_6 hfz41_7 hfz41_8 hfz41_9
             try clear hcz42_0 hcz42_1 hcz42_10 hcz42_11 hcz42_12 hcz42_2 hcz42_3 hcz42_4 hcz42_5 hcz42_6 hcz42_7 hcz42_8 hcz42_9 hfz42_0 hfz42_1 hfz42_10 hfz42_11 hfz42_12 hfz42_2 hfz42_3 hfz42_4 hfz42_5 hfz42_6 hfz42_7 hfz42_8 hfz42_9
             try clear p2
             try clear p6
             obtain ⟨kq, x3_36, rfl, HA, HJ36, BK327, HB⟩ := hcut
             cases kq with
             | zero => exact absurd HA.out (by simp [topiaryref05_Check.j3])
             | succ kj36 =>
              have H := HA.out
              clear HA
              simp only [topiaryref05_Check.j3] at H
              have HC43 := Aside0.mk H
              clear H
              go_upto_region 12 with (fail)
              go_cut [87] (fun v87 wc => ∃ (kq : Nat) (x87_42 : Bool), v87 = .bool x87_42 ∧ Aside0 (topiaryref05_Check.j4 kq x87_42 a0_0 a0_1 a0_2 l0_3 a0_4 a0_5 a0_6 a0_7 a0_8 a0_9 a0_10 a0_11 a0_12 = some r) ∧ Aside0 (kq ≤ kj36) ∧ Aside0 (wc.heap[gb327]? = some (.cells #[.int .i64 a0_0, .int .i64 a0_1, .int .i64 a0_2, (.slice A0_3 l0_3.length c0_3), .int .i64 a0_4, .int .i64 a0_5, .int .i64 a0_6, .int .i64 a0_7, .int .i64 a0_8, .int .i64 a0_9, .int .i64 a0_10, .string a0_11, .string a0_12] 26 (0, 0))) ∧ Aside0 (Below w.heap.size w wc))
              case first =>
               have H := HC43.out
               clear HC43
               by_cases c44 : x3_36 = true
               ·subst c44
                have H1 : ((topiaryref05_Name.f kj36 a0_11).bind fun t336 => (if t336 = true then (topiaryref05_Check.j4 kj36 false a0_0 a0_1 a0_2 l0_3 a0_4 a0_5 a0_6 a0_7 a0_8 a0_9 a0_10 a0_11 a0_12) else (topiaryref05_Check.j4 kj36 true a0_0 a0_1 a0_2 l0_3 a0_4 a0_5 a0_6 a0_7 a0_8 a0_9 a0_10 a0_11 a0_12))) = some r := by rw [if_pos rfl] at H; exact H
                clear H
                have H := H1
                clear H1
                replace H := Option.bind_eq_some_iff.mp H
                obtain ⟨t336, A450, H⟩ := H
                have A45 := Aside0.mk A450
                clear A450
                by_cases c46 : t336 = true
                ·subst c46
                 have H1 : (topiaryref05_Check.j4 kj36 false a0_0 a0_1 a0_2 l0_3 a0_4 a0_5 a0_6 a0_7 a0_8 a0_9 a0_10 a0_11 a0_12) = some r := by rw [if_pos rfl] at H; exact H
                 clear H
                 have H := H1
                 clear H1
                 have H' := Aside0.mk H
                 clear H
                 obtain ⟨hcz47_0, hfz47_0, hcz47_1, hfz47_1, hcz47_2, hfz47_2, hcz47_3, hfz47_3, hcz47_4, hfz47_4, hcz47_5, hfz47_5, hcz47_6, hfz47_6, hcz47_7, hfz47_7, hcz47_8, hfz47_8, hcz47_9, hfz47_9, hcz47_10, hfz47_10, hcz47_11, hfz47_11, hcz47_12, hfz47_12⟩ := zqC13_ BK327.out
                 go_wp2_with (first | (go_at_call 12; (with_reducible refine (topiaryref05_Name.calls kj36 a0_11 true _ A45.out).mono ?_); rintro e w' ⟨rfl, ⟨nd, rfl⟩⟩))
                 go_meet
                 case rel => exact ⟨_, (false), zq5_, H', ⟨by have := HJ1.out; have := HJ9.out; have := HJ18.out; have := HJ36.out; first | omega | exact Nat.le_refl _⟩, ⟨by (with_reducible repeat (first | refine blk_drewN ?_ _ | refine blk_drew ?_ | refine blk_alloc ?_ _)); exact BK327.out⟩, ⟨by repeat (first | (with_reducible first | exact HB.out | apply below_alloc | apply pw_below_drewN | apply below_drew1 | refine below_set ?_ GE327.out) | exact HB.out)⟩⟩
                ·replace c46 := Bool.eq_false_iff.mpr c46
                 subst c46
                 have H1 : (topiaryref05_Check.j4 kj36 true a0_0 a0_1 a0_2 l0_3 a0_4 a0_5 a0_6 a0_7 a0_8 a0_9 a0_10 a0_11 a0_12) = some r := by rw [if_neg (show ¬ (false = true) by decide)] at H; exact H
                 clear H
                 have H := H1
                 clear H1
                 have H' := Aside0.mk H
                 clear H
                 obtain ⟨hcz48_0, hfz48_0, hcz48_1, hfz48_1, hcz48_2, hfz48_2, hcz48_3, hfz48_3, hcz48_4, hfz48_4, hcz48_5, hfz48_5, hcz48_6, hfz48_6, hcz48_7, hfz48_7, hcz48_8, hfz48_8, hcz48_9, hfz48_9, hcz48_10, hfz48_10, hcz48_11, hfz48_11, hcz48_12, hfz48_12⟩ := zqC13_ BK327.out
                 go_wp2_with (first | (go_at_call 12; (with_reducible refine (topiaryref05_Name.calls kj36 a0_11 false _ A45.out).mono ?_); rintro e w' ⟨rfl, ⟨nd, rfl⟩⟩))
                 go_meet
                 case rel => exact ⟨_, (true), zq5_, H', ⟨by have := HJ1.out; have := HJ9.out; have := HJ18.out; have := HJ36.out; first | omega | exact Nat.le_refl _⟩, ⟨by (with_reducible repeat (first | refine blk_drewN ?_ _ | refine blk_drew ?_ | refine blk_alloc ?_ _)); exact BK327.out⟩, ⟨by repeat (first | (with_reducible first | exact HB.out | apply below_alloc | apply pw_below_drewN | apply below_drew1 | refine below_set ?_ GE327.out) | exact HB.out)⟩⟩
               ·replace c44 := Bool.eq_false_iff.mpr c44
                subst c44
                have H1 : (topiaryref05_Check.j4 kj36 (a0_11.toList != ([] : List UInt8)) a0_0 a0_1 a0_2 l0_3 a0_4 a0_5 a0_6 a0_7 a0_8 a0_9 a0_10 a0_11 a0_12) = some r := by rw [if_neg (show ¬ (false = true) by decide)] at H; exact H
                clear H
                have H := H1
                clear H1
                have H' := Aside0.mk H
                clear H
                obtain ⟨hcz49_0, hfz49_0, hcz49_1, hfz49_1, hcz49_2, hfz49_2, hcz49_3, hfz49_3, hcz49_4, hfz49_4, hcz49_5, hfz49_5, hcz49_6, hfz49_6, hcz49_7, hfz49_7, hcz49_8, hfz49_8, hcz49_9, hfz49_9, hcz49_10, hfz49_10, hcz49_11, hfz49_11, hcz49_12, hfz49_12⟩ := zqC13_ BK327.out
                go_wp2
                go_meet
                case rel => exact ⟨_, ((a0_11.toList != ([] : List UInt8))), (by first | rfl | (exact congrArg Value.bool (by cases a0_11.toList <;> rfl)) | (have e_ : ∀ l : List UInt8, l.isEmpty = !(l != []) := (by intro l; cases l <;> rfl); simp [e_]; done) | (simp; done) | (simp [*]; done)), H', ⟨by have := HJ1.out; have := HJ9.out; have := HJ18.out; have := HJ36.out; first | omega | exact Nat.le_refl _⟩, ⟨by (with_reducible repeat (first | refine blk_drewN ?_ _ | refine blk_drew ?_ | refine blk_alloc ?_ _)); exact BK327.out⟩, ⟨by repeat (first | (with_reducible first | exact HB.out | apply below_alloc | apply pw_below_drewN | apply below_drew1 | refine below_set ?_ GE327.out) | exact HB.out)⟩⟩
              case rest =>
               clear HC43
               try clear c2
               try clear p2
               try clear c3
               try clear c4
               try clear p6
               try clear c22
               try clear c22b0
               try clear c22b1
               try clear c22b2
               try clear c24
               try clear c24b0
               try clear c24b1
               try clear c32
               try clear c33
               try clear c34
               try clear c36
               try clear c38
               try clear c38b0
               try clear c38b1
               try clear c40
               try clear c40b0
               try clear c40b1
               try clear c44
               try clear c46
               try clear hcz39_0 hcz39_1 hcz39_10 hcz39_11 hcz39_12 hcz39_2 hcz39_3 hcz39_4 hcz39_5 hcz39_6 hcz39_7 hcz39_8 hcz39_9 hfz39_0 hfz39_1 hfz39_10 hfz39_11 hfz39_12 hfz39_2 hfz39_3 hfz39_4 hfz39_5 hfz39_6 hfz39_7 hfz39_8 hfz39_9
               try clear hcz41_0 hcz41_1 hcz41_10 hcz41_11 hcz41_12 hcz41_2 hcz41_3 hcz41_4 hcz41_5 hcz41_6 hcz41_7 hcz41_8 hcz41_9 hfz41_0 hfz41_1 hfz41_10 hfz41_11 hfz41_12 hfz41_2 hfz41_3 hfz41_4 hfz41_5 hfz41_6 hfz41_7 hfz41_8 hfz41_9
               try clear hcz42_0 hcz42_1 hcz42_10 hcz42_11 hcz42_12 hcz42_2 hcz42_3 hcz42_4 hcz42_5 hcz42_6 hcz42_7 hcz42_8 hcz42_9 hfz42_0 hfz42_1 hfz42_10 hfz42_11 hfz42_12 hfz42_2 hfz42_3 hfz42_4 hfz42_5 hfz42_6 hfz42_7 hfz42_8 hfz42_9
               try clear hcz47_0 hcz47_1 hcz47_10 hcz47_11 hcz47_12 hcz47_2 hcz47_3 hcz47_4 hcz47_5 hcz47_6 hcz47_7 hcz47_8 hcz47_9 hfz47_0 hfz47_1 hfz47_10 hfz47_11 hfz47_12 hfz47_2 hfz47_3 hfz47_4 hfz47_5 hfz47_6 hfz47_7 hfz47_8 hfz47_9
               try clear hcz48_0 hcz48_1 hcz48_10 hcz48_11 hcz48_12 hcz48_2 hcz48_3 hcz48_4 hcz48_5 hcz48_6 hcz48_7 hcz48_8 hcz48_9 hfz48_0 hfz48_1 hfz48_10 hfz48_11 hfz48_12 hfz48_2 hfz48_3 hfz48_4 hfz48_5 hfz48_6 hfz48_7 hfz48_8 hfz48_9
               try clear hcz49_0 hcz49_1 hcz49_10 hcz49_11 hcz49_12 hcz49_2 hcz49_3 hcz49_4 hcz49_5 hcz49_6 hcz49_7 hcz49_8 hcz49_9 hfz49_0 hfz49_1 hfz49_10 hfz49_11 hfz49_12 hfz49_2 hfz49_3 hfz49_4 hfz49_5 hfz49_6 hfz49_7 hfz49_8 hfz49_9
               try clear p2
               try clear p6
               obtain ⟨kq, x87_42, rfl, HA, HJ42, BK327, HB⟩ := hcut
               cases kq with
               | zero => exact absurd HA.out (by simp [topiaryref05_Check.j4])
               | succ kj42 =>
                have H := HA.out
                clear HA
                simp only [topiaryref05_Check.j4] at H
                by_cases c50 : x87_42 = true
                ·subst c50
                 have H1 : (some 8) = some r := by rw [if_pos rfl] at H; exact H
                 clear H
                 have H := H1
                 clear H1
                 obtain rfl := Option.some.inj H
                 go_wp2
                 go_ret
                 exact ⟨by first | rfl | (simp [errW_none, errW_some] <;> rfl) | (simp [*, errW_none, errW_some] <;> rfl), by repeat (first | (with_reducible first | exact HB.out | apply below_alloc | apply pw_below_drewN | apply below_drew1 | refine below_set ?_ GE327.out) | exact HB.out)⟩
                ·replace c50 := Bool.eq_false_iff.mpr c50
                 subst c50
                 have H1 : (if (a0_12.size : Int) > 256 then (some 3) else (if a0_4 = 3 then (some 0) else (if a0_4 = 5 then (some 0) else (if a0_12.toList = ([] : List UInt8) then (some 0) else (some 2))))) = some r := by rw [if_neg (show ¬ (false = true) by decide)] at H; exact H
                 clear H
                 have H := H1
                 clear H1
                 by_cases c51 : (a0_12.size : Int) > 256
                 ·rw [if_pos c51] at H
                  have c51b0 : decide (256 < (a0_12.size : Int)) = true := decide_eq_true c51
                  have c51b1 : decide (256 < a0_12.size) = true := decide_eq_true (by omega)
                  clear c51
                  obtain rfl := Option.some.inj H
                  obtain ⟨hcz52_0, hfz52_0, hcz52_1, hfz52_1, hcz52_2, hfz52_2, hcz52_3, hfz52_3, hcz52_4, hfz52_4, hcz52_5, hfz52_5, hcz52_6, hfz52_6, hcz52_7, hfz52_7, hcz52_8, hfz52_8, hcz52_9, hfz52_9, hcz52_10, hfz52_10, hcz52_11, hfz52_11, hcz52_12, hfz52_12⟩ := zqC13_ BK327.out
                  go_wp2
                  go_ret
                  exact ⟨by first | rfl | (simp [errW_none, errW_some] <;> rfl) | (simp [*, errW_none, errW_some] <;> rfl), by repeat (first | (with_reducible first | exact HB.out | apply below_alloc | apply pw_below_drewN | apply below_drew1 | refine below_set ?_ GE327.out) | exact HB.out)⟩
                 ·rw [if_neg c51] at H
                  have c51b0 : decide (256 < (a0_12.size : Int)) = false := decide_eq_false c51
                  have c51b1 : decide (256 < a0_12.size) = false := decide_eq_false (by omega)
                  clear c51
                  by_cases c53 : a0_4 = 3
                  ·rw [if_pos c53] at H
                   have c53b0 : (a0_4 == 3) = true := beq_iff_eq.mpr c53
                   have c53b1 : (a0_4 != 3) = false := bne_eq_false_iff_eq.mpr c53
                   clear c53
                   obtain rfl := Option.some.inj H
                   obtain ⟨hcz54_0, hfz54_0, hcz54_1, hfz54_1, hcz54_2, hfz54_2, hcz54_3, hfz54_3, hcz54_4, hfz54_4, hcz54_5, hfz54_5, hcz54_6, hfz54_6, hcz54_7, hfz54_7, hcz54_8, hfz54_8, hcz54_9, hfz54_9, hcz54_10, hfz54_10, hcz54_11, hfz54_11, hcz54_12, hfz54_12⟩ := zqC13_ BK327.out
                   go_wp2
                   go_ret
                   exact ⟨by first | rfl | (simp [errW_none, errW_some] <;> rfl) | (simp [*, errW_none, errW_some] <;> rfl), by repeat (first | (with_reducible first | exact HB.out | apply below_alloc | apply pw_below_drewN | apply below_drew1 | refine below_set ?_ GE327.out) | exact HB.out)⟩
                  ·rw [if_neg c53] at H
                   have c53b0 : (a0_4 == 3) = false := beq_eq_false_iff_ne.mpr c53
                   have c53b1 : (a0_4 != 3) = true := bne_iff_ne.mpr c53
                   by_cases c55 : a0_4 = 5
                   ·rw [if_pos c55] at H
                    have c55b0 : (a0_4 == 5) = true := beq_iff_eq.mpr c55
                    have c55b1 : (a0_4 != 5) = false := bne_eq_false_iff_eq.mpr c55
                    clear c55
                    obtain rfl := Option.some.inj H
                    obtain ⟨hcz56_0, hfz56_0, hcz56_1, hfz56_1, hcz56_2, hfz56_2, hcz56_3, hfz56_3, hcz56_4, hfz56_4, hcz56_5, hfz56_5, hcz56_6, hfz56_6, hcz56_7, hfz56_7, hcz56_8, hfz56_8, hcz56_9, hfz56_9, hcz56_10, hfz56_10, hcz56_11, hfz56_11, hcz56_12, hfz56_12⟩ := zqC13_ BK327.out
                    go_wp2
                    go_ret
                    exact ⟨by first | rfl | (simp [errW_none, errW_some] <;> rfl) | (simp [*, errW_none, errW_some] <;> rfl), by repeat (first | (with_reducible first | exact HB.out | apply below_alloc | apply pw_below_drewN | apply below_drew1 | refine below_set ?_ GE327.out) | exact HB.out)⟩
                   ·rw [if_neg c55] at H
                    have c55b0 : (a0_4 == 5) = false := beq_eq_false_iff_ne.mpr c55
                    have c55b1 : (a0_4 != 5) = true := bne_iff_ne.mpr c55
                    by_cases c57 : a0_12.toList = ([] : List UInt8)
                    ·rw [if_pos c57] at H
                     have c57b0 : (a0_12.toList == ([] : List UInt8)) = true := beq_iff_eq.mpr c57
                     have c57b4 : a0_12.toList.isEmpty = true := List.isEmpty_iff.2 c57
                     have c57b5 : (!a0_12.toList.isEmpty) = false := by rw [c57b4]; rfl
                     have c57b1 : (a0_12.toList != ([] : List UInt8)) = false := bne_eq_false_iff_eq.mpr c57
                     clear c57
                     obtain rfl := Option.some.inj H
                     obtain ⟨hcz58_0, hfz58_0, hcz58_1, hfz58_1, hcz58_2, hfz58_2, hcz58_3, hfz58_3, hcz58_4, hfz58_4, hcz58_5, hfz58_5, hcz58_6, hfz58_6, hcz58_7, hfz58_7, hcz58_8, hfz58_8, hcz58_9, hfz58_9, hcz58_10, hfz58_10, hcz58_11, hfz58_11, hcz58_12, hfz58_12⟩ := zqC13_ BK327.out
                     go_wp2
                     go_ret
                     exact ⟨by first | rfl | (simp [errW_none, errW_some] <;> rfl) | (simp [*, errW_none, errW_some] <;> rfl), by repeat (first | (with_reducible first | exact HB.out | apply below_alloc | apply pw_below_drewN | apply below_drew1 | refine below_set ?_ GE327.out) | exact HB.out)⟩
                    ·rw [if_neg c57] at H
                     have c57b0 : (a0_12.toList == ([] : List UInt8)) = false := beq_eq_false_iff_ne.mpr c57
                     have c57b4 : a0_12.toList.isEmpty = false := by rw [Bool.eq_false_iff]; intro h_; exact c57 (List.isEmpty_iff.1 h_)
                     have c57b5 : (!a0_12.toList.isEmpty) = true := by rw [c57b4]; rfl
                     have c57b1 : (a0_12.toList != ([] : List UInt8)) = true := bne_iff_ne.mpr c57
                     obtain rfl := Option.some.inj H
                     obtain ⟨hcz59_0, hfz59_0, hcz59_1, hfz59_1, hcz59_2, hfz59_2, hcz59_3, hfz59_3, hcz59_4, hfz59_4, hcz59_5, hfz59_5, hcz59_6, hfz59_6, hcz59_7, hfz59_7, hcz59_8, hfz59_8, hcz59_9, hfz59_9, hcz59_10, hfz59_10, hcz59_11, hfz59_11, hcz59_12, hfz59_12⟩ := zqC13_ BK327.out
                     go_wp2
                     go_ret
                     exact ⟨by first | rfl | (simp [errW_none, errW_some] <;> rfl) | (simp [*, errW_none, errW_some] <;> rfl), by repeat (first | (with_reducible first | exact HB.out | apply below_alloc | apply pw_below_drewN | apply below_drew1 | refine below_set ?_ GE327.out) | exact HB.out)⟩
        ·rw [if_neg c18] at H
         have c18b0 : (t329 == 0) = false := beq_eq_false_iff_ne.mpr c18
         have c18b1 : (t329 != 0) = true := bne_iff_ne.mpr c18
         replace H := Option.bind_eq_some_iff.mp H
         obtain ⟨t330, A600, H⟩ := H
         replace H : (some t330) = some r := H
         have A60 := Aside0.mk A600
         clear A600
         obtain rfl := Option.some.inj H
         obtain ⟨hcz61_0, hfz61_0, hcz61_1, hfz61_1, hcz61_2, hfz61_2, hcz61_3, hfz61_3, hcz61_4, hfz61_4, hcz61_5, hfz61_5, hcz61_6, hfz61_6, hcz61_7, hfz61_7, hcz61_8, hfz61_8, hcz61_9, hfz61_9, hcz61_10, hfz61_10, hcz61_11, hfz61_11, hcz61_12, hfz61_12⟩ := zqC13_ BK327.out
         go_wp2_with (first | ((with_reducible refine gate_callee (f := 31) rfl ?_); refine zqG_ (some 29) rfl Tryz.func31 #[.slice A0_3 l0_3.length c0_3] rfl ?_; (with_reducible refine (topiaryref02_Check.calls kj9 _ _ l0_3 t329 _ ?side1 ?side2 A17.out).mono ?_); (case side1 => repeat (first | exact (Kd.C_below HR0_3.out HB.out) | (with_reducible refine Kd.C_alloc ?_ _) | (with_reducible refine Kd.C_drewN ?_ _) | (with_reducible refine Kd.C_drew ?_))); (case side2 => exact HC0_3.out); rintro e w' ⟨rfl, ⟨nd, rfl⟩⟩; refine ⟨_, rfl, ?_⟩) | ((with_reducible refine gate_callee (f := 31) rfl ?_); refine zqG_ (some 33) rfl Tryz.func31 #[.slice A0_3 l0_3.length c0_3] rfl ?_; (with_reducible refine (topiaryref02_Check.calls kj9 _ _ l0_3 t330 _ ?side1 ?side2 A60.out).mono ?_); (case side1 => repeat (first | exact (Kd.C_below HR0_3.out (zqB1_ GE327.out)) | (with_reducible refine Kd.C_alloc ?_ _) | (with_reducible refine Kd.C_drewN ?_ _) | (with_reducible refine Kd.C_drew ?_))); (case side2 => exact HC0_3.out); rintro e w' ⟨rfl, ⟨nd, rfl⟩⟩; refine ⟨_, rfl, ?_⟩))
         go_ret
         exact ⟨by first | rfl | (simp [errW_none, errW_some] <;> rfl) | (simp [*, errW_none, errW_some] <;> rfl), by repeat (first | (with_reducible first | exact HB.out | apply below_alloc | apply pw_below_drewN | apply below_drew1 | refine below_set ?_ GE327.out) | exact HB.out)⟩
    ·replace c9 := Bool.eq_false_iff.mpr c9
     subst c9
     have H1 : (some 2) = some r := by rw [if_neg (show ¬ (false = true) by decide)] at H; exact H
     clear H
     have H := H1
     clear H1
     obtain rfl := Option.some.inj H
     obtain ⟨hcz62_0, hfz62_0, hcz62_1, hfz62_1, hcz62_2, hfz62_2, hcz62_3, hfz62_3, hcz62_4, hfz62_4, hcz62_5, hfz62_5, hcz62_6, hfz62_6, hcz62_7, hfz62_7, hcz62_8, hfz62_8, hcz62_9, hfz62_9, hcz62_10, hfz62_10, hcz62_11, hfz62_11, hcz62_12, hfz62_12⟩ := zqC13_ BK327.out
     go_wp2_with (first | ((with_reducible refine gate_callee (f := 30) rfl ?_); refine zqG_ (some 14) rfl Tryz.func30 #[.agg #[.int .i64 a0_0, .int .i64 a0_1]] rfl ?_; (with_reducible refine (topiaryref01_Right.calls a0_0 a0_1 false _ A8.out).mono ?_); rintro e w63 ⟨rfl, hb⟩; refine ⟨_, rfl, ?_⟩; replace BK327 := Aside0.mk (blk_below (zqK_ BK327.out) hb); replace HB := Aside0.mk (below_step (zqB1_ GE327.out) hb); (try clear hb); (try clear hb2); (try clear hk); (try clear hi)))
     go_ret
     exact ⟨by first | rfl | (simp [errW_none, errW_some] <;> rfl) | (simp [*, errW_none, errW_some] <;> rfl), by repeat (first | (with_reducible first | exact HB.out | apply below_alloc | apply pw_below_drewN | apply below_drew1 | refine below_set ?_ GE327.out) | exact HB.out)⟩

end Go.Proofs.YtgoolgmcbnikkaaGreatDoor.QChangeTexts
