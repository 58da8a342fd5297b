-- Own text of this seat, laid by the session's program ownprint.py (wip/tools). Lean checks it.
import Derived.Test.YtgoolgmcbnikkaaGreatDoorQChangeSamesx0
import Derived.Test.YtgoolgmcbnikkaaGreatDoorQChangeSamesx5
import Derived.Test.YtgoolgmcbnikkaaGreatDoorQChangeSamesx6
namespace Go.Proofs.YtgoolgmcbnikkaaGreatDoor.QChangeSames
open Go.RowKit Go.Proofs.YtgoolgmcbnikkaaGreatDoorW.PrintWords Go.Proofs.YtgoolgmcbnikkaaGreatDoorW.PrintLast Go.Proofs.YtgoolgmcbnikkaaGreatDoorW.PrintMore
attribute [local go_sem] max2_int min2_int max_two min_two max_three min_three max_four min_four   -- for this text's walks alone
set_option linter.unusedVariables false
set_option linter.unusedSimpArgs false

/-! ### change_Text: function 14 -/
mutual
def change_Text.j0 : Nat → List ByteArray → Int → Int → Int → List Int → Int → Int → Int → Int → Int → Int → Int → ByteArray → ByteArray → Option (ByteArray × Int)
 | 0, _, _, _, _, _, _, _, _, _, _, _, _, _, _ => none
 | k + 1, x7, x176000, x176001, x176002, x176003, x176004, x176005, x176006, x176007, x176008, x176009, x176010, x176011, x176012 => if x176004 = 1 then (change_Text.j1 k x7 true x176000 x176001 x176002 x176003 x176004 x176005 x176006 x176007 x176008 x176009 x176010 x176011 x176012) else (change_Text.j1 k x7 (x176004 == 2) x176000 x176001 x176002 x176003 x176004 x176005 x176006 x176007 x176008 x176009 x176010 x176011 x176012)
def change_Text.j1 : Nat → List ByteArray → Bool → Int → Int → Int → List Int → Int → Int → Int → Int → Int → Int → Int → ByteArray → ByteArray → Option (ByteArray × Int)
 | 0, _, _, _, _, _, _, _, _, _, _, _, _, _, _, _ => none
 | k + 1, x7, x46, x176000, x176001, x176002, x176003, x176004, x176005, x176006, x176007, x176008, x176009, x176010, x176011, x176012 => if x46 = true then ((change_stamp.f x176007 x176008 false).bind fun t189 => ((change_stamp.f x176009 x176010 true).bind fun t190 => ((some (([t189, t190] : List ByteArray) : List ByteArray)).bind fun y191 => (if x7.length + y191.length < 8796093022208 then (change_Text.j2 k (x7 ++ y191) x176000 x176001 x176002 x176003 x176004 x176005 x176006 x176007 x176008 x176009 x176010 x176011 x176012) else (none))))) else (change_Text.j2 k x7 x176000 x176001 x176002 x176003 x176004 x176005 x176006 x176007 x176008 x176009 x176010 x176011 x176012)
def change_Text.j2 : Nat → List ByteArray → Int → Int → Int → List Int → Int → Int → Int → Int → Int → Int → Int → ByteArray → ByteArray → Option (ByteArray × Int)
 | 0, _, _, _, _, _, _, _, _, _, _, _, _, _, _ => none
 | k + 1, x7, x176000, x176001, x176002, x176003, x176004, x176005, x176006, x176007, x176008, x176009, x176010, x176011, x176012 => if x176011.toList = ([] : List UInt8) then (change_Text.j3 k x7 x176000 x176001 x176002 x176003 x176004 x176005 x176006 x176007 x176008 x176009 x176010 x176011 x176012) else (if x7.length < 8796093022208 then (change_Text.j3 k (x7 ++ [x176011]) x176000 x176001 x176002 x176003 x176004 x176005 x176006 x176007 x176008 x176009 x176010 x176011 x176012) else (none))
def change_Text.j3 : Nat → List ByteArray → Int → Int → Int → List Int → Int → Int → Int → Int → Int → Int → Int → ByteArray → ByteArray → Option (ByteArray × Int)
 | 0, _, _, _, _, _, _, _, _, _, _, _, _, _, _ => none
 | k + 1, x7, x176000, x176001, x176002, x176003, x176004, x176005, x176006, x176007, x176008, x176009, x176010, x176011, x176012 => if x176004 = 3 then (change_Text.j4 k x7 true x176000 x176001 x176002 x176003 x176004 x176005 x176006 x176007 x176008 x176009 x176010 x176011 x176012) else (change_Text.j4 k x7 (x176004 == 5) x176000 x176001 x176002 x176003 x176004 x176005 x176006 x176007 x176008 x176009 x176010 x176011 x176012)
def change_Text.j4 : Nat → List ByteArray → Bool → Int → Int → Int → List Int → Int → Int → Int → Int → Int → Int → Int → ByteArray → ByteArray → Option (ByteArray × Int)
 | 0, _, _, _, _, _, _, _, _, _, _, _, _, _, _, _ => none
 | k + 1, x7, x71, x176000, x176001, x176002, x176003, x176004, x176005, x176006, x176007, x176008, x176009, x176010, x176011, x176012 => if x71 = true then ((change_Quote.f k x176012).bind fun t200 => (if x7.length < 8796093022208 then ((strings_Join.f (x7 ++ [t200]) (⟨#[32]⟩ : ByteArray)).bind fun t204 => (some (t204, 0))) else (none))) else ((strings_Join.f x7 (⟨#[32]⟩ : ByteArray)).bind fun t205 => (some (t205, 0)))
end
def change_Text.f (k : Nat) (a0_0 : Int) (a0_1 : Int) (a0_2 : Int) (l0_3 : List Int) (a0_4 : Int) (a0_5 : Int) (a0_6 : Int) (a0_7 : Int) (a0_8 : Int) (a0_9 : Int) (a0_10 : Int) (a0_11 : ByteArray) (a0_12 : ByteArray) : Option (ByteArray × Int) := (change_Check.f k a0_0 a0_1 a0_2 l0_3 a0_4 a0_5 a0_6 a0_7 a0_8 a0_9 a0_10 a0_11 a0_12).bind fun t176 => (if t176 = 0 then ((clock_Text.f k l0_3).bind fun bt177 => ((change_word.f a0_4).bind fun t179 => ((change_stamp.f a0_0 a0_1 false).bind fun t180 => ((strconv_Itoa_38.f a0_2).bind fun t181 => ((some (([t179, t180, t181, bt177.1] : List ByteArray) : List ByteArray)).bind fun y182 => (if a0_4 = 1 then (change_Text.j0 k y182 a0_0 a0_1 a0_2 l0_3 a0_4 a0_5 a0_6 a0_7 a0_8 a0_9 a0_10 a0_11 a0_12) else ((change_stamp.f a0_5 a0_6 false).bind fun t185 => (if y182.length < 8796093022208 then (change_Text.j0 k (y182 ++ [t185]) a0_0 a0_1 a0_2 l0_3 a0_4 a0_5 a0_6 a0_7 a0_8 a0_9 a0_10 a0_11 a0_12) else (none))))))))) else (some ((⟨#[]⟩ : ByteArray), t176)))
theorem change_Text.mono_l : ∀ k, (∀ y0 y1 y2 y3 y4 y5 y6 y7 y8 y9 y10 y11 y12 y13, LeO (change_Text.j0 k y0 y1 y2 y3 y4 y5 y6 y7 y8 y9 y10 y11 y12 y13) (change_Text.j0 (k + 1) y0 y1 y2 y3 y4 y5 y6 y7 y8 y9 y10 y11 y12 y13)) ∧ (∀ y0 y1 y2 y3 y4 y5 y6 y7 y8 y9 y10 y11 y12 y13 y14, LeO (change_Text.j1 k y0 y1 y2 y3 y4 y5 y6 y7 y8 y9 y10 y11 y12 y13 y14) (change_Text.j1 (k + 1) y0 y1 y2 y3 y4 y5 y6 y7 y8 y9 y10 y11 y12 y13 y14)) ∧ (∀ y0 y1 y2 y3 y4 y5 y6 y7 y8 y9 y10 y11 y12 y13, LeO (change_Text.j2 k y0 y1 y2 y3 y4 y5 y6 y7 y8 y9 y10 y11 y12 y13) (change_Text.j2 (k + 1) y0 y1 y2 y3 y4 y5 y6 y7 y8 y9 y10 y11 y12 y13)) ∧ (∀ y0 y1 y2 y3 y4 y5 y6 y7 y8 y9 y10 y11 y12 y13, LeO (change_Text.j3 k y0 y1 y2 y3 y4 y5 y6 y7 y8 y9 y10 y11 y12 y13) (change_Text.j3 (k + 1) y0 y1 y2 y3 y4 y5 y6 y7 y8 y9 y10 y11 y12 y13)) ∧ (∀ y0 y1 y2 y3 y4 y5 y6 y7 y8 y9 y10 y11 y12 y13 y14, LeO (change_Text.j4 k y0 y1 y2 y3 y4 y5 y6 y7 y8 y9 y10 y11 y12 y13 y14) (change_Text.j4 (k + 1) y0 y1 y2 y3 y4 y5 y6 y7 y8 y9 y10 y11 y12 y13 y14))
 | 0 => ⟨fun _ _ _ _ _ _ _ _ _ _ _ _ _ _ r h => by simp [change_Text.j0] at h, fun _ _ _ _ _ _ _ _ _ _ _ _ _ _ _ r h => by simp [change_Text.j1] at h, fun _ _ _ _ _ _ _ _ _ _ _ _ _ _ r h => by simp [change_Text.j2] at h, fun _ _ _ _ _ _ _ _ _ _ _ _ _ _ r h => by simp [change_Text.j3] at h, fun _ _ _ _ _ _ _ _ _ _ _ _ _ _ _ r h => by simp [change_Text.j4] at h⟩
 | k + 1 => by
  obtain ⟨ih0, ih1, ih2, ih3, ih4⟩ := change_Text.mono_l k
  refine ⟨?_, ?_, ?_, ?_, ?_⟩
  ·intro y0 y1 y2 y3 y4 y5 y6 y7 y8 y9 y10 y11 y12 y13
   unfold change_Text.j0
   repeat' first
   | (with_reducible exact ih0 _ _ _ _ _ _ _ _ _ _ _ _ _ _)
   | (with_reducible exact ih1 _ _ _ _ _ _ _ _ _ _ _ _ _ _ _)
   | (with_reducible exact ih2 _ _ _ _ _ _ _ _ _ _ _ _ _ _)
   | (with_reducible exact ih3 _ _ _ _ _ _ _ _ _ _ _ _ _ _)
   | (with_reducible exact ih4 _ _ _ _ _ _ _ _ _ _ _ _ _ _ _)
   | (with_reducible exact change_Check.mono _ _ _ _ _ _ _ _ _ _ _ _ _ _)
   | (with_reducible exact change_Quote.mono _ _)
   | (with_reducible exact clock_Text.mono _ _)
   | (with_reducible exact LeO.refl _)
   | (with_reducible exact LeO.none _)
   | (with_reducible refine LeO.ite ?_ ?_)
   | (with_reducible refine LeO.bind ?_ (fun _ => ?_))
   | exact ih0 _ _ _ _ _ _ _ _ _ _ _ _ _ _
   | exact ih1 _ _ _ _ _ _ _ _ _ _ _ _ _ _ _
   | exact ih2 _ _ _ _ _ _ _ _ _ _ _ _ _ _
   | exact ih3 _ _ _ _ _ _ _ _ _ _ _ _ _ _
   | exact ih4 _ _ _ _ _ _ _ _ _ _ _ _ _ _ _
   | exact change_Check.mono _ _ _ _ _ _ _ _ _ _ _ _ _ _
   | exact change_Quote.mono _ _
   | exact clock_Text.mono _ _
   | exact LeO.none _
   | refine LeO.ite ?_ ?_
   | refine LeO.bind ?_ (fun _ => ?_)
  ·intro y0 y1 y2 y3 y4 y5 y6 y7 y8 y9 y10 y11 y12 y13 y14
   unfold change_Text.j1
   repeat' first
   | (with_reducible exact ih0 _ _ _ _ _ _ _ _ _ _ _ _ _ _)
   | (with_reducible exact ih1 _ _ _ _ _ _ _ _ _ _ _ _ _ _ _)
   | (with_reducible exact ih2 _ _ _ _ _ _ _ _ _ _ _ _ _ _)
   | (with_reducible exact ih3 _ _ _ _ _ _ _ _ _ _ _ _ _ _)
   | (with_reducible exact ih4 _ _ _ _ _ _ _ _ _ _ _ _ _ _ _)
   | (with_reducible exact change_Check.mono _ _ _ _ _ _ _ _ _ _ _ _ _ _)
   | (with_reducible exact change_Quote.mono _ _)
   | (with_reducible exact clock_Text.mono _ _)
   | (with_reducible exact LeO.refl _)
   | (with_reducible exact LeO.none _)
   | (with_reducible refine LeO.ite ?_ ?_)
   | (with_reducible refine LeO.bind ?_ (fun _ => ?_))
   | exact ih0 _ _ _ _ _ _ _ _ _ _ _ _ _ _
   | exact ih1 _ _ _ _ _ _ _ _ _ _ _ _ _ _ _
   | exact ih2 _ _ _ _ _ _ _ _ _ _ _ _ _ _
   | exact ih3 _ _ _ _ _ _ _ _ _ _ _ _ _ _
   | exact ih4 _ _ _ _ _ _ _ _ _ _ _ _ _ _ _
   | exact change_Check.mono _ _ _ _ _ _ _ _ _ _ _ _ _ _
   | exact change_Quote.mono _ _
   | exact clock_Text.mono _ _
   | exact LeO.none _
   | refine LeO.ite ?_ ?_
   | refine LeO.bind ?_ (fun _ => ?_)
  ·intro y0 y1 y2 y3 y4 y5 y6 y7 y8 y9 y10 y11 y12 y13
   unfold change_Text.j2
   repeat' first
   | (with_reducible exact ih0 _ _ _ _ _ _ _ _ _ _ _ _ _ _)
   | (with_reducible exact ih1 _ _ _ _ _ _ _ _ _ _ _ _ _ _ _)
   | (with_reducible exact ih2 _ _ _ _ _ _ _ _ _ _ _ _ _ _)
   | (with_reducible exact ih3 _ _ _ _ _ _ _ _ _ _ _ _ _ _)
   | (with_reducible exact ih4 _ _ _ _ _ _ _ _ _ _ _ _ _ _ _)
   | (with_reducible exact change_Check.mono _ _ _ _ _ _ _ _ _ _ _ _ _ _)
   | (with_reducible exact change_Quote.mono _ _)
   | (with_reducible exact clock_Text.mono _ _)
   | (with_reducible exact LeO.refl _)
   | (with_reducible exact LeO.none _)
   | (with_reducible refine LeO.ite ?_ ?_)
   | (with_reducible refine LeO.bind ?_ (fun _ => ?_))
   | exact ih0 _ _ _ _ _ _ _ _ _ _ _ _ _ _
   | exact ih1 _ _ _ _ _ _ _ _ _ _ _ _ _ _ _
   | exact ih2 _ _ _ _ _ _ _ _ _ _ _ _ _ _
   | exact ih3 _ _ _ _ _ _ _ _ _ _ _ _ _ _
   | exact ih4 _ _ _ _ _ _ _ _ _ _ _ _ _ _ _
   | exact change_Check.mono _ _ _ _ _ _ _ _ _ _ _ _ _ _
   | exact change_Quote.mono _ _
   | exact clock_Text.mono _ _
   | exact LeO.none _
   | refine LeO.ite ?_ ?_
   | refine LeO.bind ?_ (fun _ => ?_)
  ·intro y0 y1 y2 y3 y4 y5 y6 y7 y8 y9 y10 y11 y12 y13
   unfold change_Text.j3
   repeat' first
   | (with_reducible exact ih0 _ _ _ _ _ _ _ _ _ _ _ _ _ _)
   | (with_reducible exact ih1 _ _ _ _ _ _ _ _ _ _ _ _ _ _ _)
   | (with_reducible exact ih2 _ _ _ _ _ _ _ _ _ _ _ _ _ _)
   | (with_reducible exact ih3 _ _ _ _ _ _ _ _ _ _ _ _ _ _)
   | (with_reducible exact ih4 _ _ _ _ _ _ _ _ _ _ _ _ _ _ _)
   | (with_reducible exact change_Check.mono _ _ _ _ _ _ _ _ _ _ _ _ _ _)
   | (with_reducible exact change_Quote.mono _ _)
   | (with_reducible exact clock_Text.mono _ _)
   | (with_reducible exact LeO.refl _)
   | (with_reducible exact LeO.none _)
   | (with_reducible refine LeO.ite ?_ ?_)
   | (with_reducible refine LeO.bind ?_ (fun _ => ?_))
   | exact ih0 _ _ _ _ _ _ _ _ _ _ _ _ _ _
   | exact ih1 _ _ _ _ _ _ _ _ _ _ _ _ _ _ _
   | exact ih2 _ _ _ _ _ _ _ _ _ _ _ _ _ _
   | exact ih3 _ _ _ _ _ _ _ _ _ _ _ _ _ _
   | exact ih4 _ _ _ _ _ _ _ _ _ _ _ _ _ _ _
   | exact change_Check.mono _ _ _ _ _ _ _ _ _ _ _ _ _ _
   | exact change_Quote.mono _ _
   | exact clock_Text.mono _ _
   | exact LeO.none _
   | refine LeO.ite ?_ ?_
   | refine LeO.bind ?_ (fun _ => ?_)
  ·intro y0 y1 y2 y3 y4 y5 y6 y7 y8 y9 y10 y11 y12 y13 y14
   unfold change_Text.j4
   repeat' first
   | (with_reducible exact ih0 _ _ _ _ _ _ _ _ _ _ _ _ _ _)
   | (with_reducible exact ih1 _ _ _ _ _ _ _ _ _ _ _ _ _ _ _)
   | (with_reducible exact ih2 _ _ _ _ _ _ _ _ _ _ _ _ _ _)
   | (with_reducible exact ih3 _ _ _ _ _ _ _ _ _ _ _ _ _ _)
   | (with_reducible exact ih4 _ _ _ _ _ _ _ _ _ _ _ _ _ _ _)
   | (with_reducible exact change_Check.mono _ _ _ _ _ _ _ _ _ _ _ _ _ _)
   | (with_reducible exact change_Quote.mono _ _)
   | (with_reducible exact clock_Text.mono _ _)
   | (with_reducible exact LeO.refl _)
   | (with_reducible exact LeO.none _)
   | (with_reducible refine LeO.ite ?_ ?_)
   | (with_reducible refine LeO.bind ?_ (fun _ => ?_))
   | exact ih0 _ _ _ _ _ _ _ _ _ _ _ _ _ _
   | exact ih1 _ _ _ _ _ _ _ _ _ _ _ _ _ _ _
   | exact ih2 _ _ _ _ _ _ _ _ _ _ _ _ _ _
   | exact ih3 _ _ _ _ _ _ _ _ _ _ _ _ _ _
   | exact ih4 _ _ _ _ _ _ _ _ _ _ _ _ _ _ _
   | exact change_Check.mono _ _ _ _ _ _ _ _ _ _ _ _ _ _
   | exact change_Quote.mono _ _
   | exact clock_Text.mono _ _
   | exact LeO.none _
   | refine LeO.ite ?_ ?_
   | refine LeO.bind ?_ (fun _ => ?_)
theorem change_Text.mono : ∀ a0 a1 a2 a3 a4 a5 a6 a7 a8 a9 a10 a11 a12 k, LeO (change_Text.f k a0 a1 a2 a3 a4 a5 a6 a7 a8 a9 a10 a11 a12) (change_Text.f (k + 1) a0 a1 a2 a3 a4 a5 a6 a7 a8 a9 a10 a11 a12) := by
 intro a0 a1 a2 a3 a4 a5 a6 a7 a8 a9 a10 a11 a12 k
 obtain ⟨ih0, ih1, ih2, ih3, ih4⟩ := change_Text.mono_l k
 unfold change_Text.f
 repeat' first
   | (with_reducible exact ih0 _ _ _ _ _ _ _ _ _ _ _ _ _ _)
   | (with_reducible exact ih1 _ _ _ _ _ _ _ _ _ _ _ _ _ _ _)
   | (with_reducible exact ih2 _ _ _ _ _ _ _ _ _ _ _ _ _ _)
   | (with_reducible exact ih3 _ _ _ _ _ _ _ _ _ _ _ _ _ _)
   | (with_reducible exact ih4 _ _ _ _ _ _ _ _ _ _ _ _ _ _ _)
   | (with_reducible exact change_Check.mono _ _ _ _ _ _ _ _ _ _ _ _ _ _)
   | (with_reducible exact change_Quote.mono _ _)
   | (with_reducible exact clock_Text.mono _ _)
   | (with_reducible exact LeO.refl _)
   | (with_reducible exact LeO.none _)
   | (with_reducible refine LeO.ite ?_ ?_)
   | (with_reducible refine LeO.bind ?_ (fun _ => ?_))
   | exact ih0 _ _ _ _ _ _ _ _ _ _ _ _ _ _
   | exact ih1 _ _ _ _ _ _ _ _ _ _ _ _ _ _ _
   | exact ih2 _ _ _ _ _ _ _ _ _ _ _ _ _ _
   | exact ih3 _ _ _ _ _ _ _ _ _ _ _ _ _ _
   | exact ih4 _ _ _ _ _ _ _ _ _ _ _ _ _ _ _
   | exact change_Check.mono _ _ _ _ _ _ _ _ _ _ _ _ _ _
   | exact change_Quote.mono _ _
   | exact clock_Text.mono _ _
   | exact LeO.none _
   | refine LeO.ite ?_ ?_
   | refine LeO.bind ?_ (fun _ => ?_)
def change_Text.T5 : Bool × List (List Nat × List Nat) := (true, [([], []), ([0], [0]), ([1], [1]), ([], []), ([3], [3]), ([4, 2], [4]), ([], []), ([6], [6]), ([7, 5], [7]), ([], []), ([2, 5, 8, 9], [2, 5, 8, 9]), ([10, 8, 0, 1, 2, 3, 4, 5, 6, 7, 8, 9, 10], [10])])
def change_Text.B5 : List Nat := [0, 1, 3, 0, 8, 31, 0, 64, 255, 0, 1023, 2047]
theorem change_Text.tab5 : rtab .any (opsOf Tryz.f14 5) = change_Text.T5 := by kernel_rfl
theorem change_Text.bits5 : waitsOk change_Text.T5.2 change_Text.B5 = true := by kernel_rfl
def change_Text.T9 : Bool × List (List Nat × List Nat) := (true, [([], []), ([], []), ([1], [1]), ([2], [2]), ([], []), ([4], [4]), ([5, 3], [5]), ([3, 6], [3, 6]), ([0, 7, 6], [0, 7]), ([8, 8, 0, 1, 2, 3, 4, 5, 6, 7, 8], [0, 8])])
def change_Text.B9 : List Nat := [0, 0, 2, 6, 0, 16, 62, 126, 255, 511]
theorem change_Text.tab9 : rtab .any (opsOf Tryz.f14 9) = change_Text.T9 := by kernel_rfl
theorem change_Text.bits9 : waitsOk change_Text.T9.2 change_Text.B9 = true := by kernel_rfl
set_option maxHeartbeats 8000000 in
set_option maxRecDepth 100000 in
theorem change_Text.calls (k : Nat) (a0_0 : Int) (a0_1 : Int) (a0_2 : Int) (A0_3 : Option Addr) (c0_3 : Nat) (l0_3 : List Int) (a0_4 : Int) (a0_5 : Int) (a0_6 : Int) (a0_7 : Int) (a0_8 : Int) (a0_9 : Int) (a0_10 : Int) (a0_11 : ByteArray) (a0_12 : ByteArray) (r1 : ByteArray) (r2 : Int) (w : World) (hr0_3 : Kd.C (Kd.int .i64) w A0_3 l0_3.length l0_3) (hc0_3 : l0_3.length ≤ c0_3) (htab : TabW_ w) (h : change_Text.f k a0_0 a0_1 a0_2 l0_3 a0_4 a0_5 a0_6 a0_7 a0_8 a0_9 a0_10 a0_11 a0_12 = some (r1, r2)) :
  Calls Tryz.prog 14 #[.agg #[.int .i64 a0_0, .int .i64 a0_1, .int .i64 a0_2, .slice A0_3 l0_3.length c0_3, .int .i64 a0_4, .int .i64 a0_5, .int .i64 a0_6, .int .i64 a0_7, .int .i64 a0_8, .int .i64 a0_9, .int .i64 a0_10, .string a0_11, .string a0_12]] w fun e w' => e = .returned (.tuple #[.string r1, .int .i64 r2]) ∧ Below w.heap.size w w' := by
 have HTAB := Aside0.mk htab
 clear htab
 have hu26 := Tryz.underlying26
 have hu23 := Tryz.underlying23
 have HR0_3 := Aside0.mk hr0_3
 have HC0_3 := Aside0.mk hc0_3
 clear hr0_3 hc0_3
 have HB := Aside0.mk (Below.refl w.heap.size w)
 have H : ((change_Check.f k a0_0 a0_1 a0_2 l0_3 a0_4 a0_5 a0_6 a0_7 a0_8 a0_9 a0_10 a0_11 a0_12).bind fun t176 => (if t176 = 0 then ((clock_Text.f k l0_3).bind fun bt177 => ((change_word.f a0_4).bind fun t179 => ((change_stamp.f a0_0 a0_1 false).bind fun t180 => ((strconv_Itoa_38.f a0_2).bind fun t181 => ((some (([t179, t180, t181, bt177.1] : List ByteArray) : List ByteArray)).bind fun y182 => (if a0_4 = 1 then (change_Text.j0 k y182 a0_0 a0_1 a0_2 l0_3 a0_4 a0_5 a0_6 a0_7 a0_8 a0_9 a0_10 a0_11 a0_12) else ((change_stamp.f a0_5 a0_6 false).bind fun t185 => (if y182.length < 8796093022208 then (change_Text.j0 k (y182 ++ [t185]) a0_0 a0_1 a0_2 l0_3 a0_4 a0_5 a0_6 a0_7 a0_8 a0_9 a0_10 a0_11 a0_12) else (none))))))))) else (some ((⟨#[]⟩ : ByteArray), t176)))) = some (r1, r2) := h
 clear h
 replace H := Option.bind_eq_some_iff.mp H
 obtain ⟨t176, A20, H⟩ := H
 have A2 := Aside0.mk A20
 clear A20
 by_cases c3 : t176 = 0
 ·rw [if_pos c3] at H
  have c3b0 : (t176 == 0) = true := beq_iff_eq.mpr c3
  have c3b1 : (t176 != 0) = false := bne_eq_false_iff_eq.mpr c3
  clear c3
  replace H := Option.bind_eq_some_iff.mp H
  obtain ⟨⟨t177, t178⟩, A40, H⟩ := H
  (try dsimp only at H)
  have A4 := Aside0.mk A40
  clear A40
  replace H := Option.bind_eq_some_iff.mp H
  obtain ⟨t179, A50, H⟩ := H
  have A5 := Aside0.mk A50
  clear A50
  replace H := Option.bind_eq_some_iff.mp H
  obtain ⟨t180, A60, H⟩ := H
  have A6 := Aside0.mk A60
  clear A60
  replace H := Option.bind_eq_some_iff.mp H
  obtain ⟨t181, A70, H⟩ := H
  have A7 := Aside0.mk A70
  clear A70
  obtain ⟨y182, hy182⟩ : ∃ y_ : List ByteArray, y_ = (([t179, t180, t181, t177] : List ByteArray)) := ⟨_, rfl⟩
  replace H : (if a0_4 = 1 then (change_Text.j0 k y182 a0_0 a0_1 a0_2 l0_3 a0_4 a0_5 a0_6 a0_7 a0_8 a0_9 a0_10 a0_11 a0_12) else ((change_stamp.f a0_5 a0_6 false).bind fun t185 => (if y182.length < 8796093022208 then (change_Text.j0 k (y182 ++ [t185]) a0_0 a0_1 a0_2 l0_3 a0_4 a0_5 a0_6 a0_7 a0_8 a0_9 a0_10 a0_11 a0_12) else (none)))) = some (r1, r2) := by first | (rw [hy182]; with_reducible exact H) | (have H2_ := (Option.bind_some _ _).symm.trans H; rw [hy182]; with_reducible exact H2_) | (have H2_ := (Option.bind_some _ _).symm.trans H; with_reducible exact H2_) | with_reducible exact H | (rw [hy182]; exact H) | exact H
  have Ny182 := Aside0.mk hy182
  clear hy182
  have HC8 := Aside0.mk H
  clear H
  go_enter Tryz.func14, Tryz.ntmps14
  try go_wp2_with (first | ((with_reducible refine gate_dst (N := 1) rfl ?_); refine box_event ?hg (N := 1) ?hd (cs := #[.int .i64 a0_0, .int .i64 a0_1, .int .i64 a0_2, .slice A0_3 l0_3.length c0_3, .int .i64 a0_4, .int .i64 a0_5, .int .i64 a0_6, .int .i64 a0_7, .int .i64 a0_8, .int .i64 a0_9, .int .i64 a0_10, .string a0_11, .string a0_12]) (t := 26) ?hr ?_; (case hd => rfl); (case hg => rfl); (case hr => first | (go_simp; done) | (go_simp; rfl)); intro gb175 hg w9 hbox hb; have BK175 := Aside0.mk (hbox); have GW175 := Aside0.mk ((zq7_ : w.heap.size ≤ gb175)); have GE175 := Aside0.mk ((zq7_ : w.heap.size ≤ gb175)); replace HB := Aside0.mk (below_step zq0_ hb); clear hb hbox hg; obtain ⟨hcz10_0, hfz10_0, hcz10_1, hfz10_1, hcz10_2, hfz10_2, hcz10_3, hfz10_3, hcz10_4, hfz10_4, hcz10_5, hfz10_5, hcz10_6, hfz10_6, hcz10_7, hfz10_7, hcz10_8, hfz10_8, hcz10_9, hfz10_9, hcz10_10, hfz10_10, hcz10_11, hfz10_11, hcz10_12, hfz10_12⟩ := zqC13_ BK175.out) | ((with_reducible refine gate_callee (f := 8) rfl ?_); refine zqG_ (some 9) rfl Tryz.func8 #[.agg #[.int .i64 a0_0, .int .i64 a0_1, .int .i64 a0_2, .slice A0_3 l0_3.length c0_3, .int .i64 a0_4, .int .i64 a0_5, .int .i64 a0_6, .int .i64 a0_7, .int .i64 a0_8, .int .i64 a0_9, .int .i64 a0_10, .string a0_11, .string a0_12]] rfl ?_; (with_reducible refine (change_Check.calls k a0_0 a0_1 a0_2 _ _ l0_3 a0_4 a0_5 a0_6 a0_7 a0_8 a0_9 a0_10 a0_11 a0_12 t176 _ ?side1 ?side2 A2.out).mono ?_); (case side1 => repeat (first | exact (Kd.C_below HR0_3.out HB.out) | (with_reducible refine Kd.C_alloc ?_ _) | (with_reducible refine Kd.C_drewN ?_ _) | (with_reducible refine Kd.C_drew ?_))); (case side2 => exact HC0_3.out); rintro e w11 ⟨rfl, hb⟩; refine ⟨_, rfl, ?_⟩; replace BK175 := Aside0.mk (blk_below (zqK_ BK175.out) hb); replace HB := Aside0.mk (below_step (zqB1_ GE175.out) hb); (try clear hb); (try clear hb2); (try clear hk); (try clear hi); obtain ⟨hcz12_0, hfz12_0, hcz12_1, hfz12_1, hcz12_2, hfz12_2, hcz12_3, hfz12_3, hcz12_4, hfz12_4, hcz12_5, hfz12_5, hcz12_6, hfz12_6, hcz12_7, hfz12_7, hcz12_8, hfz12_8, hcz12_9, hfz12_9, hcz12_10, hfz12_10, hcz12_11, hfz12_11, hcz12_12, hfz12_12⟩ := zqC13_ BK175.out) | ((with_reducible refine gate_callee (f := 35) rfl ?_); refine zqG_ (some 16) rfl Tryz.func35 #[.slice A0_3 l0_3.length c0_3] rfl ?_; (with_reducible refine (clock_Text.calls k _ _ l0_3 t177 t178 _ ?side1 ?side2 (tabW_below_ HTAB.out (zqB1_ GE175.out)) A4.out).mono ?_); (case side1 => repeat (first | exact (Kd.C_below HR0_3.out HB.out) | (with_reducible refine Kd.C_alloc ?_ _) | (with_reducible refine Kd.C_drewN ?_ _) | (with_reducible refine Kd.C_drew ?_))); (case side2 => exact HC0_3.out); rintro e w13 ⟨rfl, hb⟩; refine ⟨_, rfl, ?_⟩; replace BK175 := Aside0.mk (blk_below (zqK_ BK175.out) hb); replace HB := Aside0.mk (below_step (zqB1_ GE175.out) hb); (try clear hb); (try clear hb2); (try clear hk); (try clear hi)))
  replace BK175 := Aside0.mk (blk_drew BK175.out)
  replace HB := Aside0.mk (below_drew1 HB.out)
  refine start_ (n := 12) (S := fun w' => w'.cell? ⟨gb175, 0, none⟩ = some (.int .i64 a0_0) ∧ w'.cell? ⟨gb175, 1, none⟩ = some (.int .i64 a0_1) ∧ w'.cell? ⟨gb175, 2, none⟩ = some (.int .i64 a0_2) ∧ w'.cell? ⟨gb175, 3, none⟩ = some (.slice A0_3 l0_3.length c0_3) ∧ w'.cell? ⟨gb175, 4, none⟩ = some (.int .i64 a0_4) ∧ w'.cell? ⟨gb175, 5, none⟩ = some (.int .i64 a0_5) ∧ w'.cell? ⟨gb175, 6, none⟩ = some (.int .i64 a0_6) ∧ w'.cell? ⟨gb175, 7, none⟩ = some (.int .i64 a0_7) ∧ w'.cell? ⟨gb175, 8, none⟩ = some (.int .i64 a0_8) ∧ w'.cell? ⟨gb175, 9, none⟩ = some (.int .i64 a0_9) ∧ w'.cell? ⟨gb175, 10, none⟩ = some (.int .i64 a0_10) ∧ w'.cell? ⟨gb175, 11, none⟩ = some (.string a0_11) ∧ w'.cell? ⟨gb175, 12, none⟩ = some (.string a0_12)) (ds := []) #[false, false, false, false, false, false, false, false, false, false, false, false] (by kernel_rfl) rfl rfl ⟨(blk_cell BK175.out 0).trans rfl, (blk_cell BK175.out 1).trans rfl, (blk_cell BK175.out 2).trans rfl, (blk_cell BK175.out 3).trans rfl, (blk_cell BK175.out 4).trans rfl, (blk_cell BK175.out 5).trans rfl, (blk_cell BK175.out 6).trans rfl, (blk_cell BK175.out 7).trans rfl, (blk_cell BK175.out 8).trans rfl, (blk_cell BK175.out 9).trans rfl, (blk_cell BK175.out 10).trans rfl, (blk_cell BK175.out 11).trans rfl, (blk_cell BK175.out 12).trans rfl⟩ (fun hHeld => ?_); refine with_tabW change_Text.tab5 change_Text.bits5 (fun HT_ HW_ => ?_)
  generalize w13.drew = w14 at BK175 HB hHeld ⊢
  refine zqp_ 0 19 HT_ ?_
  refine zqp_ 3 22 HT_ ?_
  refine zqp_ 6 25 HT_ ?_
  refine zqp_ 9 28 HT_ ?_
  refine zqt13_ 1 20 HT_ HW_ hHeld ?_
  refine zqt13_ 4 23 HT_ HW_ hHeld ?_
  refine zqt13_ 7 26 HT_ HW_ hHeld ?_
  refine zqo_ 2 21 HT_ (fun K hK => ?_)
  refine goes_ Tryz.func36 (by kernel_rfl) rfl #[.int .i64 a0_4] (by rfl) rfl rfl zq3_ ?_
  with_reducible refine (change_word.calls a0_4 t179 _ A5.out).mono ?_
  rintro e w' ⟨rfl, ⟨nd, rfl⟩⟩
  refine ⟨_, rfl, ?_⟩
  refine hK.out _ _ ⟨(blk_cell BK175.out 0).trans rfl, (blk_cell BK175.out 1).trans rfl, (blk_cell BK175.out 2).trans rfl, (blk_cell BK175.out 3).trans rfl, (blk_cell BK175.out 4).trans rfl, (blk_cell BK175.out 5).trans rfl, (blk_cell BK175.out 6).trans rfl, (blk_cell BK175.out 7).trans rfl, (blk_cell BK175.out 8).trans rfl, (blk_cell BK175.out 9).trans rfl, (blk_cell BK175.out 10).trans rfl, (blk_cell BK175.out 11).trans rfl, (blk_cell BK175.out 12).trans rfl⟩ (fun hHeld => ?_)
  clear hK K
  refine norm_ (a' := ?_) ?_ ?_
  rotate_left
  ·show Act.put _ (some 21) _ = _
   simp only [Act.put, List.setIfInBounds_toArray, List.set_cons_zero, List.set_cons_succ, i64_w, i32_w]
   rfl
  refine zqo_ 5 24 HT_ (fun K hK => ?_)
  refine goes_ Tryz.func37 (by kernel_rfl) rfl #[.agg #[.int .i64 a0_0, .int .i64 a0_1], .bool false] (by rfl) rfl rfl zq3_ ?_
  with_reducible refine (change_stamp.calls a0_0 a0_1 false t180 _ (tabW_below_ HTAB.out zq0_) A6.out).mono ?_
  rintro e w15 ⟨rfl, hb⟩
  refine ⟨_, rfl, ?_⟩
  replace BK175 := Aside0.mk (blk_below (zqK_ BK175.out) hb)
  replace HB := Aside0.mk (below_step (zqB1_ GE175.out) hb)
  (try clear hb)
  (try clear hb2)
  (try clear hk)
  (try clear hi)
  refine hK.out _ _ ⟨(blk_cell BK175.out 0).trans rfl, (blk_cell BK175.out 1).trans rfl, (blk_cell BK175.out 2).trans rfl, (blk_cell BK175.out 3).trans rfl, (blk_cell BK175.out 4).trans rfl, (blk_cell BK175.out 5).trans rfl, (blk_cell BK175.out 6).trans rfl, (blk_cell BK175.out 7).trans rfl, (blk_cell BK175.out 8).trans rfl, (blk_cell BK175.out 9).trans rfl, (blk_cell BK175.out 10).trans rfl, (blk_cell BK175.out 11).trans rfl, (blk_cell BK175.out 12).trans rfl⟩ (fun hHeld => ?_)
  clear hK K
  refine norm_ (a' := ?_) ?_ ?_
  rotate_left
  ·show Act.put _ (some 24) _ = _
   simp only [Act.put, List.setIfInBounds_toArray, List.set_cons_zero, List.set_cons_succ, i64_w, i32_w]
   rfl
  refine zqo_ 8 27 HT_ (fun K hK => ?_)
  refine goes_ Tryz.func38 (by kernel_rfl) rfl #[.int .i64 a0_2] (by rfl) rfl rfl zq3_ ?_
  with_reducible refine (strconv_Itoa_38.calls a0_2 t181 _ (tabW_below_ HTAB.out zq0_) A7.out).mono ?_
  rintro e w16 ⟨rfl, hb⟩
  refine ⟨_, rfl, ?_⟩
  replace BK175 := Aside0.mk (blk_below (zqK_ BK175.out) hb)
  replace HB := Aside0.mk (below_step (zqB1_ GE175.out) hb)
  (try clear hb)
  (try clear hb2)
  (try clear hk)
  (try clear hi)
  refine hK.out _ _ ⟨(blk_cell BK175.out 0).trans rfl, (blk_cell BK175.out 1).trans rfl, (blk_cell BK175.out 2).trans rfl, (blk_cell BK175.out 3).trans rfl, (blk_cell BK175.out 4).trans rfl, (blk_cell BK175.out 5).trans rfl, (blk_cell BK175.out 6).trans rfl, (blk_cell BK175.out 7).trans rfl, (blk_cell BK175.out 8).trans rfl, (blk_cell BK175.out 9).trans rfl, (blk_cell BK175.out 10).trans rfl, (blk_cell BK175.out 11).trans rfl, (blk_cell BK175.out 12).trans rfl⟩ (fun hHeld => ?_)
  clear hK K
  refine norm_ (a' := ?_) ?_ ?_
  rotate_left
  ·show Act.put _ (some 27) _ = _
   simp only [Act.put, List.setIfInBounds_toArray, List.set_cons_zero, List.set_cons_succ, i64_w, i32_w]
   rfl
  refine zqo_ 10 29 HT_ (fun K hK => ?_)
  refine Kd.R_lit_step Kd.string _ 9 ?hg (N := 29) ?hd (xs := ([t179, t180, t181, t177] : List ByteArray)) (inner := [.string t179, .string t180, .string t181, .string t177]) (ok := fun _ => True) (okp := fun _ => True) ?hr ?hp (fun _ hk => hk) trivial (Below.refl _ _) (Nat.le_refl _) (by simp) ?_; (case hd => rfl); (case hg => rfl); (case hr => first | (go_simp; done) | (go_simp; rfl)); (case hp => exact (Reps.one (show Kd.M Kd.string _ _ _ t179 [.string t179] from rfl) (Reps.one (show Kd.M Kd.string _ _ _ t180 [.string t180] from rfl) (Reps.one (show Kd.M Kd.string _ _ _ t181 [.string t181] from rfl) (Reps.one (show Kd.M Kd.string _ _ _ t177 [.string t177] from rfl) (Reps.none _ _))))))
  intro v183 w17 ho18 hb hg_ hnew_
  clear hg_ hnew_
  (first | rw [← Ny182.out] at ho18 | (simp only [Int.reduceToNat] at ho18; rw [← Ny182.out] at ho18))
  have HO184 := Aside0.mk (Kd.R_lower ho18 (below_size (zqB1_ GE175.out)))
  replace BK175 := Aside0.mk (blk_below (zqK_ BK175.out) hb)
  replace HB := Aside0.mk (below_step (zqB1_ GE175.out) hb)
  clear hb ho18
  refine hK.out _ _ ⟨(blk_cell BK175.out 0).trans rfl, (blk_cell BK175.out 1).trans rfl, (blk_cell BK175.out 2).trans rfl, (blk_cell BK175.out 3).trans rfl, (blk_cell BK175.out 4).trans rfl, (blk_cell BK175.out 5).trans rfl, (blk_cell BK175.out 6).trans rfl, (blk_cell BK175.out 7).trans rfl, (blk_cell BK175.out 8).trans rfl, (blk_cell BK175.out 9).trans rfl, (blk_cell BK175.out 10).trans rfl, (blk_cell BK175.out 11).trans rfl, (blk_cell BK175.out 12).trans rfl⟩ (fun hHeld => ?_)
  clear hK K
  refine norm_ (a' := ?_) ?_ ?_
  rotate_left
  ·show Act.put _ (some 29) _ = _
   simp only [Act.put, List.setIfInBounds_toArray, List.set_cons_zero, List.set_cons_succ, i64_w, i32_w]
   rfl
  refine zqp_ 11 7 HT_ ?_
  refine done_ (done_of HT_.out (by kernel_rfl)) ?_
  obtain ⟨hcz19_0, hfz19_0, hcz19_1, hfz19_1, hcz19_2, hfz19_2, hcz19_3, hfz19_3, hcz19_4, hfz19_4, hcz19_5, hfz19_5, hcz19_6, hfz19_6, hcz19_7, hfz19_7, hcz19_8, hfz19_8, hcz19_9, hfz19_9, hcz19_10, hfz19_10, hcz19_11, hfz19_11, hcz19_12, hfz19_12⟩ := zqC13_ BK175.out
  go_upto_if 32 with (fail)
  go_cut [7] (fun v7 wc => ∃ (kq : Nat) (x7_7 : List ByteArray), Aside0 (change_Text.j0 kq x7_7 a0_0 a0_1 a0_2 l0_3 a0_4 a0_5 a0_6 a0_7 a0_8 a0_9 a0_10 a0_11 a0_12 = some (r1, r2)) ∧ Aside0 (kq ≤ k) ∧ Aside0 (Kd.R Kd.string 9 wc w.heap.size (fun _ => True) v7 x7_7) ∧ Aside0 (wc.heap[gb175]? = some (.cells #[.int .i64 a0_0, .int .i64 a0_1, .int .i64 a0_2, (.slice A0_3 l0_3.length c0_3), .int .i64 a0_4, .int .i64 a0_5, .int .i64 a0_6, .int .i64 a0_7, .int .i64 a0_8, .int .i64 a0_9, .int .i64 a0_10, .string a0_11, .string a0_12] 26 (0, 0))) ∧ Aside0 (Below w.heap.size w wc))
  case first =>
   have H := HC8.out
   clear HC8
   by_cases c20 : a0_4 = 1
   ·rw [if_pos c20] at H
    have c20b0 : (a0_4 == 1) = true := beq_iff_eq.mpr c20
    have c20b1 : (a0_4 != 1) = false := bne_eq_false_iff_eq.mpr c20
    clear c20
    (first | rw [c20b0] | (simp only [i64_w, i32_w]; rw [c20b0]) | skip)
    have H' := Aside0.mk H
    clear H
    go_wp2
    go_meet
    case rel => exact ⟨_, (y182), H', ⟨by first | omega | exact Nat.le_refl _⟩, ⟨by (with_reducible repeat (first | apply Kd.R_alloc | apply Kd.R_drewN | apply Kd.R_drew)); exact HO184.out⟩, ⟨by (with_reducible repeat (first | refine blk_drewN ?_ _ | refine blk_drew ?_ | refine blk_alloc ?_ _)); exact BK175.out⟩, ⟨by repeat (first | (with_reducible first | exact HB.out | apply below_alloc | apply pw_below_drewN | apply below_drew1 | refine below_set ?_ GE175.out) | exact HB.out)⟩⟩
   ·rw [if_neg c20] at H
    have c20b0 : (a0_4 == 1) = false := beq_eq_false_iff_ne.mpr c20
    have c20b1 : (a0_4 != 1) = true := bne_iff_ne.mpr c20
    (first | rw [c20b0] | (simp only [i64_w, i32_w]; rw [c20b0]) | skip)
    replace H := Option.bind_eq_some_iff.mp H
    obtain ⟨t185, A210, H⟩ := H
    have A21 := Aside0.mk A210
    clear A210
    by_cases c22 : y182.length < 8796093022208
    ·rw [if_pos c22] at H
     have LMc22 := Aside0.mk c22
     clear c22
     obtain ⟨y186, hy186⟩ : ∃ y_ : List ByteArray, y_ = (y182 ++ [t185]) := ⟨_, rfl⟩
     replace H : (change_Text.j0 k y186 a0_0 a0_1 a0_2 l0_3 a0_4 a0_5 a0_6 a0_7 a0_8 a0_9 a0_10 a0_11 a0_12) = some (r1, r2) := by first | (rw [hy186]; with_reducible exact H) | (have H2_ := (Option.bind_some _ _).symm.trans H; rw [hy186]; with_reducible exact H2_) | (have H2_ := (Option.bind_some _ _).symm.trans H; with_reducible exact H2_) | with_reducible exact H | (rw [hy186]; exact H) | exact H
     have Ny186 := Aside0.mk hy186
     clear hy186
     have H' := Aside0.mk H
     clear H
     obtain ⟨hcz23_0, hfz23_0, hcz23_1, hfz23_1, hcz23_2, hfz23_2, hcz23_3, hfz23_3, hcz23_4, hfz23_4, hcz23_5, hfz23_5, hcz23_6, hfz23_6, hcz23_7, hfz23_7, hcz23_8, hfz23_8, hcz23_9, hfz23_9, hcz23_10, hfz23_10, hcz23_11, hfz23_11, hcz23_12, hfz23_12⟩ := zqC13_ BK175.out
     go_wp2_with (first | ((with_reducible refine gate_callee (f := 37) rfl ?_); refine zqG_ (some 36) rfl Tryz.func37 #[.agg #[.int .i64 a0_5, .int .i64 a0_6], .bool false] rfl ?_; (with_reducible refine (change_stamp.calls a0_5 a0_6 false t185 _ (tabW_below_ HTAB.out (zqB1_ GE175.out)) A21.out).mono ?_); rintro e w24 ⟨rfl, hb⟩; refine ⟨_, rfl, ?_⟩; replace HO184 := Aside0.mk (Kd.R_below (by (with_reducible repeat (first | apply Kd.R_alloc | apply Kd.R_drewN | apply Kd.R_drew)); exact HO184.out) hb); replace BK175 := Aside0.mk (blk_below (zqK_ BK175.out) hb); replace HB := Aside0.mk (below_step (zqB1_ GE175.out) hb); (try clear hb); (try clear hb2); (try clear hk); (try clear hi)) | ((with_reducible refine gate_builtin (b := .append) (xs := #[.tmp 33, .tmp 37]) rfl ?_); at_builtin; refine Kd.R_append Kd.string (w0 := w) w.heap.size rfl (.tmp 33) (.tmp 37) 50 9 (.string ⟨#[]⟩) 16 rfl Tryz.underlying50 info9 rfl (by decide) (by omega) v183 y182 t185 [.string t185] (fun _ => True) (fun _ => False) rfl rfl ?aP (fun _ hk => hk.elim) ?aF ?aO ?aB ?aS ?aL ?_; (case aP => exact rfl); (case aB => exact (zqB1_ GE175.out)); (case aF => exact (fun _ _ => trivial)); (case aO => exact (by (with_reducible repeat (first | apply Kd.R_alloc | apply Kd.R_drewN | apply Kd.R_drew)); exact HO184.out)); (case aS => exact (below_size (zqB1_ GE175.out))); (case aL => have := LMc22.out; omega); intro v187 w25 ho hb hg hat; rw [← Ny186.out] at ho; replace BK175 := Aside0.mk (blk_grown (zqK_ BK175.out) hg (Kd.R_ne HO184.out BK175.out (by decide))); replace HB := Aside0.mk (hb); have HO188 := Aside0.mk (ho); clear HO184; clear ho hb hg hat))
     go_meet
     case rel => exact ⟨_, (y186), H', ⟨by first | omega | exact Nat.le_refl _⟩, ⟨by (with_reducible repeat (first | apply Kd.R_alloc | apply Kd.R_drewN | apply Kd.R_drew)); exact HO188.out⟩, ⟨by (with_reducible repeat (first | refine blk_drewN ?_ _ | refine blk_drew ?_ | refine blk_alloc ?_ _)); exact BK175.out⟩, ⟨by repeat (first | (with_reducible first | exact HB.out | apply below_alloc | apply pw_below_drewN | apply below_drew1 | refine below_set ?_ GE175.out) | exact HB.out)⟩⟩
    ·rw [if_neg c22] at H
     exact absurd H (by simp)
  case rest =>
   clear HC8
   try clear c1
   try clear c2
   try clear p2
   try clear c3
   try clear c3b0
   try clear c3b1
   try clear c8
   try clear c14
   try clear c20
   try clear c20b0
   try clear c20b1
   try clear c22
   try clear hcz10_0 hcz10_1 hcz10_10 hcz10_11 hcz10_12 hcz10_2 hcz10_3 hcz10_4 hcz10_5 hcz10_6 hcz10_7 hcz10_8 hcz10_9 hfz10_0 hfz10_1 hfz10_10 hfz10_11 hfz10_12 hfz10_2 hfz10_3 hfz10_4 hfz10_5 hfz10_6 hfz10_7 hfz10_8 hfz10_9
   try clear hcz12_0 hcz12_1 hcz12_10 hcz12_11 hcz12_12 hcz12_2 hcz12_3 hcz12_4 hcz12_5 hcz12_6 hcz12_7 hcz12_8 hcz12_9 hfz12_0 hfz12_1 hfz12_10 hfz12_11 hfz12_12 hfz12_2 hfz12_3 hfz12_4 hfz12_5 hfz12_6 hfz12_7 hfz12_8 hfz12_9
   try clear hcz19_0 hcz19_1 hcz19_10 hcz19_11 hcz19_12 hcz19_2 hcz19_3 hcz19_4 hcz19_5 hcz19_6 hcz19_7 hcz19_8 hcz19_9 hfz19_0 hfz19_1 hfz19_10 hfz19_11 hfz19_12 hfz19_2 hfz19_3 hfz19_4 hfz19_5 hfz19_6 hfz19_7 hfz19_8 hfz19_9
   try clear hcz23_0 hcz23_1 hcz23_10 hcz23_11 hcz23_12 hcz23_2 hcz23_3 hcz23_4 hcz23_5 hcz23_6 hcz23_7 hcz23_8 hcz23_9 hfz23_0 hfz23_1 hfz23_10 hfz23_11 hfz23_12 hfz23_2 hfz23_3 hfz23_4 hfz23_5 hfz23_6 hfz23_7 hfz23_8 hfz23_9
   obtain ⟨kq, x7_7, HA, HJ7, HO_7, BK175, HB⟩ := hcut
   cases kq with
   | zero => exact absurd HA.out (by simp [change_Text.j0])
   | succ kj7 =>
    have H := HA.out
    clear HA
    simp only [change_Text.j0] at H
    have HC26 := Aside0.mk H
    clear H
    go_upto_region 8 with (fail)
    go_cut [46] (fun v46 wc => ∃ (kq : Nat) (x46_25 : Bool), v46 = .bool x46_25 ∧ Aside0 (change_Text.j1 kq x7_7 x46_25 a0_0 a0_1 a0_2 l0_3 a0_4 a0_5 a0_6 a0_7 a0_8 a0_9 a0_10 a0_11 a0_12 = some (r1, r2)) ∧ Aside0 (kq ≤ kj7) ∧ Aside0 (Kd.R Kd.string 9 wc w.heap.size (fun _ => True) u7 x7_7) ∧ Aside0 (wc.heap[gb175]? = some (.cells #[.int .i64 a0_0, .int .i64 a0_1, .int .i64 a0_2, (.slice A0_3 l0_3.length c0_3), .int .i64 a0_4, .int .i64 a0_5, .int .i64 a0_6, .int .i64 a0_7, .int .i64 a0_8, .int .i64 a0_9, .int .i64 a0_10, .string a0_11, .string a0_12] 26 (0, 0))) ∧ Aside0 (Below w.heap.size w wc))
    case first =>
     have H := HC26.out
     clear HC26
     by_cases c27 : a0_4 = 1
     ·rw [if_pos c27] at H
      have c27b0 : (a0_4 == 1) = true := beq_iff_eq.mpr c27
      have c27b1 : (a0_4 != 1) = false := bne_eq_false_iff_eq.mpr c27
      clear c27
      (first | rw [c27b0] | (simp only [i64_w, i32_w]; rw [c27b0]) | skip)
      have H' := Aside0.mk H
      clear H
      obtain ⟨hcz28_0, hfz28_0, hcz28_1, hfz28_1, hcz28_2, hfz28_2, hcz28_3, hfz28_3, hcz28_4, hfz28_4, hcz28_5, hfz28_5, hcz28_6, hfz28_6, hcz28_7, hfz28_7, hcz28_8, hfz28_8, hcz28_9, hfz28_9, hcz28_10, hfz28_10, hcz28_11, hfz28_11, hcz28_12, hfz28_12⟩ := zqC13_ BK175.out
      go_wp2
      go_meet
      case rel => exact ⟨_, (true), zq8_, H', ⟨by have := HJ7.out; first | omega | exact Nat.le_refl _⟩, ⟨by (with_reducible repeat (first | apply Kd.R_alloc | apply Kd.R_drewN | apply Kd.R_drew)); exact HO_7.out⟩, ⟨by (with_reducible repeat (first | refine blk_drewN ?_ _ | refine blk_drew ?_ | refine blk_alloc ?_ _)); exact BK175.out⟩, ⟨by repeat (first | (with_reducible first | exact HB.out | apply below_alloc | apply pw_below_drewN | apply below_drew1 | refine below_set ?_ GE175.out) | exact HB.out)⟩⟩
     ·rw [if_neg c27] at H
      have c27b0 : (a0_4 == 1) = false := beq_eq_false_iff_ne.mpr c27
      have c27b1 : (a0_4 != 1) = true := bne_iff_ne.mpr c27
      (first | rw [c27b0] | (simp only [i64_w, i32_w]; rw [c27b0]) | skip)
      have H' := Aside0.mk H
      clear H
      obtain ⟨hcz29_0, hfz29_0, hcz29_1, hfz29_1, hcz29_2, hfz29_2, hcz29_3, hfz29_3, hcz29_4, hfz29_4, hcz29_5, hfz29_5, hcz29_6, hfz29_6, hcz29_7, hfz29_7, hcz29_8, hfz29_8, hcz29_9, hfz29_9, hcz29_10, hfz29_10, hcz29_11, hfz29_11, hcz29_12, hfz29_12⟩ := zqC13_ BK175.out
      go_wp2
      go_meet
      case rel => exact ⟨_, ((a0_4 == 2)), zq8_, H', ⟨by have := HJ7.out; first | omega | exact Nat.le_refl _⟩, ⟨by (with_reducible repeat (first | apply Kd.R_alloc | apply Kd.R_drewN | apply Kd.R_drew)); exact HO_7.out⟩, ⟨by (with_reducible repeat (first | refine blk_drewN ?_ _ | refine blk_drew ?_ | refine blk_alloc ?_ _)); exact BK175.out⟩, ⟨by repeat (first | (with_reducible first | exact HB.out | apply below_alloc | apply pw_below_drewN | apply below_drew1 | refine below_set ?_ GE175.out) | exact HB.out)⟩⟩
    case rest =>
     clear HC26
     try clear c1
     try clear c2
     try clear p2
     try clear c3
     try clear c3b0
     try clear c3b1
     try clear c8
     try clear c14
     try clear c20
     try clear c20b0
     try clear c20b1
     try clear c22
     try clear c27
     try clear c27b0
     try clear c27b1
     try clear hcz10_0 hcz10_1 hcz10_10 hcz10_11 hcz10_12 hcz10_2 hcz10_3 hcz10_4 hcz10_5 hcz10_6 hcz10_7 hcz10_8 hcz10_9 hfz10_0 hfz10_1 hfz10_10 hfz10_11 hfz10_12 hfz10_2 hfz10_3 hfz10_4 hfz10_5 hfz10_6 hfz10_7 hfz10_8 hfz10_9
     try clear hcz12_0 hcz12_1 hcz12_10 hcz12_11 hcz12_12 hcz12_2 hcz12_3 hcz12_4 hcz12_5 hcz12_6 hcz12_7 hcz12_8 hcz12_9 hfz12_0 hfz12_1 hfz12_10 hfz12_11 hfz12_12 hfz12_2 hfz12_3 hfz12_4 hfz12_5 hfz12_6 hfz12_7 hfz12_8 hfz12_9
     try clear hcz19_0 hcz19_1 hcz19_10 hcz19_11 hcz19_12 hcz19_2 hcz19_3 hcz19_4 hcz19_5 hcz19_6 hcz19_7 hcz19_8 hcz19_9 hfz19_0 hfz19_1 hfz19_10 hfz19_11 hfz19_12 hfz19_2 hfz19_3 hfz19_4 hfz19_5 hfz19_6 hfz19_7 hfz19_8 hfz19_9
     try clear hcz23_0 hcz23_1 hcz23_10 hcz23_11 hcz23_12 hcz23_2 hcz23_3 hcz23_4 hcz23_5 hcz23_6 hcz23_7 hcz23_8 hcz23_9 hfz23_0 hfz23_1 hfz23_10 hfz23_11 hfz23_12 hfz23_2 hfz23_3 hfz23_4 hfz23_5 hfz23_6 hfz23_7 hfz23_8 hfz23_9
     try clear hcz28_0 hcz28_1 hcz28_10 hcz28_11 hcz28_12 hcz28_2 hcz28_3 hcz28_4 hcz28_5 hcz28_6 hcz28_7 hcz28_8 hcz28_9 hfz28_0 hfz28_1 hfz28_10 hfz28_11 hfz28_12 hfz28_2 hfz28_3 hfz28_4 hfz28_5 hfz28_6 hfz28_7 hfz28_8 hfz28_9
     try clear hcz29_0 hcz29_1 hcz29_10 hcz29_11 hcz29_12 hcz29_2 hcz29_3 hcz29_4 hcz29_5 hcz29_6 hcz29_7 hcz29_8 hcz29_9 hfz29_0 hfz29_1 hfz29_10 hfz29_11 hfz29_12 hfz29_2 hfz29_3 hfz29_4 hfz29_5 hfz29_6 hfz29_7 hfz29_8 hfz29_9
     try clear p2
     obtain ⟨kq, x46_25, rfl, HA, HJ25, HO_7, BK175, HB⟩ := hcut
     cases kq with
     | zero => exact absurd HA.out (by simp [change_Text.j1])
     | succ kj25 =>
      have H := HA.out
      clear HA
      simp only [change_Text.j1] at H
      have HC30 := Aside0.mk H
      clear H
      go_upto_if 46 with (fail)
      go_cut [7] (fun v7 wc => ∃ (kq : Nat) (x7_29 : List ByteArray), Aside0 (change_Text.j2 kq x7_29 a0_0 a0_1 a0_2 l0_3 a0_4 a0_5 a0_6 a0_7 a0_8 a0_9 a0_10 a0_11 a0_12 = some (r1, r2)) ∧ Aside0 (kq ≤ kj25) ∧ Aside0 (Kd.R Kd.string 9 wc w.heap.size (fun _ => True) v7 x7_29) ∧ Aside0 (wc.heap[gb175]? = some (.cells #[.int .i64 a0_0, .int .i64 a0_1, .int .i64 a0_2, (.slice A0_3 l0_3.length c0_3), .int .i64 a0_4, .int .i64 a0_5, .int .i64 a0_6, .int .i64 a0_7, .int .i64 a0_8, .int .i64 a0_9, .int .i64 a0_10, .string a0_11, .string a0_12] 26 (0, 0))) ∧ Aside0 (Below w.heap.size w wc))
      case first =>
       have H := HC30.out
       clear HC30
       by_cases c31 : x46_25 = true
       ·subst c31
        have H1 : ((change_stamp.f a0_7 a0_8 false).bind fun t189 => ((change_stamp.f a0_9 a0_10 true).bind fun t190 => ((some (([t189, t190] : List ByteArray) : List ByteArray)).bind fun y191 => (if x7_7.length + y191.length < 8796093022208 then (change_Text.j2 kj25 (x7_7 ++ y191) a0_0 a0_1 a0_2 l0_3 a0_4 a0_5 a0_6 a0_7 a0_8 a0_9 a0_10 a0_11 a0_12) else (none))))) = some (r1, r2) := by rw [if_pos rfl] at H; exact H
        clear H
        have H := H1
        clear H1
        replace H := Option.bind_eq_some_iff.mp H
        obtain ⟨t189, A320, H⟩ := H
        have A32 := Aside0.mk A320
        clear A320
        replace H := Option.bind_eq_some_iff.mp H
        obtain ⟨t190, A330, H⟩ := H
        have A33 := Aside0.mk A330
        clear A330
        obtain ⟨y191, hy191⟩ : ∃ y_ : List ByteArray, y_ = (([t189, t190] : List ByteArray)) := ⟨_, rfl⟩
        replace H : (if x7_7.length + y191.length < 8796093022208 then (change_Text.j2 kj25 (x7_7 ++ y191) a0_0 a0_1 a0_2 l0_3 a0_4 a0_5 a0_6 a0_7 a0_8 a0_9 a0_10 a0_11 a0_12) else (none)) = some (r1, r2) := by first | (rw [hy191]; with_reducible exact H) | (have H2_ := (Option.bind_some _ _).symm.trans H; rw [hy191]; with_reducible exact H2_) | (have H2_ := (Option.bind_some _ _).symm.trans H; with_reducible exact H2_) | with_reducible exact H | (rw [hy191]; exact H) | exact H
        have Ny191 := Aside0.mk hy191
        clear hy191
        by_cases c34 : x7_7.length + y191.length < 8796093022208
        ·rw [if_pos c34] at H
         have LMc34 := Aside0.mk c34
         clear c34
         obtain ⟨y194, hy194⟩ : ∃ y_ : List ByteArray, y_ = (x7_7 ++ y191) := ⟨_, rfl⟩
         replace H : (change_Text.j2 kj25 y194 a0_0 a0_1 a0_2 l0_3 a0_4 a0_5 a0_6 a0_7 a0_8 a0_9 a0_10 a0_11 a0_12) = some (r1, r2) := by first | (rw [hy194]; with_reducible exact H) | (have H2_ := (Option.bind_some _ _).symm.trans H; rw [hy194]; with_reducible exact H2_) | (have H2_ := (Option.bind_some _ _).symm.trans H; with_reducible exact H2_) | with_reducible exact H | (rw [hy194]; exact H) | exact H
         have Ny194 := Aside0.mk hy194
         clear hy194
         have H' := Aside0.mk H
         clear H
         try go_wp2
         replace HO_7 := Aside0.mk (Kd.R_drew HO_7.out)
         replace BK175 := Aside0.mk (blk_drew BK175.out)
         replace HB := Aside0.mk (below_drew1 HB.out)
         refine start_ (n := 10) (S := fun w' => w'.cell? ⟨gb175, 0, none⟩ = some (.int .i64 a0_0) ∧ w'.cell? ⟨gb175, 1, none⟩ = some (.int .i64 a0_1) ∧ w'.cell? ⟨gb175, 2, none⟩ = some (.int .i64 a0_2) ∧ w'.cell? ⟨gb175, 3, none⟩ = some (.slice A0_3 l0_3.length c0_3) ∧ w'.cell? ⟨gb175, 4, none⟩ = some (.int .i64 a0_4) ∧ w'.cell? ⟨gb175, 5, none⟩ = some (.int .i64 a0_5) ∧ w'.cell? ⟨gb175, 6, none⟩ = some (.int .i64 a0_6) ∧ w'.cell? ⟨gb175, 7, none⟩ = some (.int .i64 a0_7) ∧ w'.cell? ⟨gb175, 8, none⟩ = some (.int .i64 a0_8) ∧ w'.cell? ⟨gb175, 9, none⟩ = some (.int .i64 a0_9) ∧ w'.cell? ⟨gb175, 10, none⟩ = some (.int .i64 a0_10) ∧ w'.cell? ⟨gb175, 11, none⟩ = some (.string a0_11) ∧ w'.cell? ⟨gb175, 12, none⟩ = some (.string a0_12)) (ds := []) #[false, false, false, false, false, false, false, false, false, false] (by kernel_rfl) rfl rfl ⟨(blk_cell BK175.out 0).trans rfl, (blk_cell BK175.out 1).trans rfl, (blk_cell BK175.out 2).trans rfl, (blk_cell BK175.out 3).trans rfl, (blk_cell BK175.out 4).trans rfl, (blk_cell BK175.out 5).trans rfl, (blk_cell BK175.out 6).trans rfl, (blk_cell BK175.out 7).trans rfl, (blk_cell BK175.out 8).trans rfl, (blk_cell BK175.out 9).trans rfl, (blk_cell BK175.out 10).trans rfl, (blk_cell BK175.out 11).trans rfl, (blk_cell BK175.out 12).trans rfl⟩ (fun hHeld => ?_); refine with_tabW change_Text.tab9 change_Text.bits9 (fun HT_ HW_ => ?_)
         generalize wc.drew = w35 at HO_7 BK175 HB hHeld ⊢
         refine zqp_ 0 47 HT_ ?_
         refine zqp_ 1 48 HT_ ?_
         refine zqp_ 4 51 HT_ ?_
         refine zqt13_ 2 49 HT_ HW_ hHeld ?_
         refine zqt13_ 5 52 HT_ HW_ hHeld ?_
         refine zqo_ 3 50 HT_ (fun K hK => ?_)
         refine goes_ Tryz.func37 (by kernel_rfl) rfl #[.agg #[.int .i64 a0_7, .int .i64 a0_8], .bool false] (by rfl) rfl rfl zq3_ ?_
         with_reducible refine (change_stamp.calls a0_7 a0_8 false t189 _ (tabW_below_ HTAB.out zq0_) A32.out).mono ?_
         rintro e w36 ⟨rfl, hb⟩
         refine ⟨_, rfl, ?_⟩
         replace HO_7 := Aside0.mk (Kd.R_below zq32_ hb)
         replace BK175 := Aside0.mk (blk_below (zqK_ BK175.out) hb)
         replace HB := Aside0.mk (below_step (zqB1_ GE175.out) hb)
         (try clear hb)
         (try clear hb2)
         (try clear hk)
         (try clear hi)
         refine hK.out _ _ ⟨(blk_cell BK175.out 0).trans rfl, (blk_cell BK175.out 1).trans rfl, (blk_cell BK175.out 2).trans rfl, (blk_cell BK175.out 3).trans rfl, (blk_cell BK175.out 4).trans rfl, (blk_cell BK175.out 5).trans rfl, (blk_cell BK175.out 6).trans rfl, (blk_cell BK175.out 7).trans rfl, (blk_cell BK175.out 8).trans rfl, (blk_cell BK175.out 9).trans rfl, (blk_cell BK175.out 10).trans rfl, (blk_cell BK175.out 11).trans rfl, (blk_cell BK175.out 12).trans rfl⟩ (fun hHeld => ?_)
         clear hK K
         refine norm_ (a' := ?_) ?_ ?_
         rotate_left
         ·show Act.put _ (some 50) _ = _
          simp only [Act.put, List.setIfInBounds_toArray, List.set_cons_zero, List.set_cons_succ, i64_w, i32_w]
          rfl
         refine zqo_ 6 53 HT_ (fun K hK => ?_)
         refine goes_ Tryz.func37 (by kernel_rfl) rfl #[.agg #[.int .i64 a0_9, .int .i64 a0_10], .bool true] (by rfl) rfl rfl zq3_ ?_
         with_reducible refine (change_stamp.calls a0_9 a0_10 true t190 _ (tabW_below_ HTAB.out zq0_) A33.out).mono ?_
         rintro e w37 ⟨rfl, hb⟩
         refine ⟨_, rfl, ?_⟩
         replace HO_7 := Aside0.mk (Kd.R_below zq32_ hb)
         replace BK175 := Aside0.mk (blk_below (zqK_ BK175.out) hb)
         replace HB := Aside0.mk (below_step (zqB1_ GE175.out) hb)
         (try clear hb)
         (try clear hb2)
         (try clear hk)
         (try clear hi)
         refine hK.out _ _ ⟨(blk_cell BK175.out 0).trans rfl, (blk_cell BK175.out 1).trans rfl, (blk_cell BK175.out 2).trans rfl, (blk_cell BK175.out 3).trans rfl, (blk_cell BK175.out 4).trans rfl, (blk_cell BK175.out 5).trans rfl, (blk_cell BK175.out 6).trans rfl, (blk_cell BK175.out 7).trans rfl, (blk_cell BK175.out 8).trans rfl, (blk_cell BK175.out 9).trans rfl, (blk_cell BK175.out 10).trans rfl, (blk_cell BK175.out 11).trans rfl, (blk_cell BK175.out 12).trans rfl⟩ (fun hHeld => ?_)
         clear hK K
         refine norm_ (a' := ?_) ?_ ?_
         rotate_left
         ·show Act.put _ (some 53) _ = _
          simp only [Act.put, List.setIfInBounds_toArray, List.set_cons_zero, List.set_cons_succ, i64_w, i32_w]
          rfl
         refine zqo_ 7 54 HT_ (fun K hK => ?_)
         refine Kd.R_lit_step Kd.string _ 9 ?hg (N := 54) ?hd (xs := ([t189, t190] : List ByteArray)) (inner := [.string t189, .string t190]) (ok := fun _ => True) (okp := fun _ => True) ?hr ?hp (fun _ hk => hk) trivial (Below.refl _ _) (Nat.le_refl _) (by simp) ?_; (case hd => rfl); (case hg => rfl); (case hr => first | (go_simp; done) | (go_simp; rfl)); (case hp => exact (Reps.one (show Kd.M Kd.string _ _ _ t189 [.string t189] from rfl) (Reps.one (show Kd.M Kd.string _ _ _ t190 [.string t190] from rfl) (Reps.none _ _))))
         intro v192 w38 ho39 hb hg_ hnew_
         clear hg_ hnew_
         (first | rw [← Ny191.out] at ho39 | (simp only [Int.reduceToNat] at ho39; rw [← Ny191.out] at ho39))
         have HO193 := Aside0.mk (Kd.R_lower (Kd.R_new' ho39 (Kd.R_lt zq32_)) (below_size (zqB1_ GE175.out)))
         replace HO_7 := Aside0.mk (Kd.R_elder' zq32_ (Kd.R_base ho39) hb)
         replace BK175 := Aside0.mk (blk_below (zqK_ BK175.out) hb)
         replace HB := Aside0.mk (below_step (zqB1_ GE175.out) hb)
         clear hb ho39
         obtain ⟨Ao41, co41, eo41⟩ := Kd.R_slice HO193.out
         (first | subst eo41 | (injection eo41 with f1_ f2_ f3_; have f4_ := f1_.symm; have f5_ := f3_.symm; clear f1_ f2_ f3_; subst f4_; subst f5_))
         refine hK.out _ _ ⟨(blk_cell BK175.out 0).trans rfl, (blk_cell BK175.out 1).trans rfl, (blk_cell BK175.out 2).trans rfl, (blk_cell BK175.out 3).trans rfl, (blk_cell BK175.out 4).trans rfl, (blk_cell BK175.out 5).trans rfl, (blk_cell BK175.out 6).trans rfl, (blk_cell BK175.out 7).trans rfl, (blk_cell BK175.out 8).trans rfl, (blk_cell BK175.out 9).trans rfl, (blk_cell BK175.out 10).trans rfl, (blk_cell BK175.out 11).trans rfl, (blk_cell BK175.out 12).trans rfl⟩ (fun hHeld => ?_)
         clear hK K
         refine norm_ (a' := ?_) ?_ ?_
         rotate_left
         ·show Act.put _ (some 54) _ = _
          simp only [Act.put, List.setIfInBounds_toArray, List.set_cons_zero, List.set_cons_succ, i64_w, i32_w]
          rfl
         refine zqo_ 8 55 HT_ (fun K hK => ?_)
         refine Kd.R_append_rows_step Kd.string (w0 := w) w.heap.size (by rfl) (.tmp 47) (.tmp 54) 50 9 (.string ⟨#[]⟩) 16 rfl Tryz.underlying50 info9 rfl (by decide) (by omega) u7 x7_7 y191 _ _ _ (fun k_ => some k_ ≠ (.slice Ao41 y191.length co41 : Value).ownBlock) (fun _ => False) rfl rfl ?aO ?aR (fun _ _ h => h) (fun _ h => h.elim) ?aF ?aB ?aS ?aL ?_
         (case aR => repeat (first | exact (Kd.R_reads' HO193.out).2.2 | (with_reducible refine Kd.C_alloc ?_ _) | (with_reducible refine Kd.C_drewN ?_ _) | (with_reducible refine Kd.C_drew ?_)))
         (case aB => exact (zqB1_ GE175.out))
         (case aF => exact (fun k_ hk => Kd.fresh' (Kd.R_lt (by (with_reducible repeat (first | apply Kd.R_alloc | apply Kd.R_drewN | apply Kd.R_drew)); exact HO193.out)) k_ hk))
         (case aO => exact (by (with_reducible repeat (first | apply Kd.R_alloc | apply Kd.R_drewN | apply Kd.R_drew)); exact Kd.R_mono HO_7.out (fun _ hk => hk.2)))
         (case aS => exact (below_size (zqB1_ GE175.out)))
         (case aL => have := LMc34.out; omega)
         intro v195 w40 ho hb hg hat
         rw [← Ny194.out] at ho
         replace BK175 := Aside0.mk (blk_grown (zqK_ BK175.out) hg (Kd.R_ne HO_7.out BK175.out (by decide)))
         replace HO193 := Aside0.mk (Kd.R_after (ok := (fun _ => True)) (by (with_reducible repeat (first | apply Kd.R_alloc | apply Kd.R_drewN | apply Kd.R_drew)); exact HO193.out) hg hat)
         replace HB := Aside0.mk (hb)
         have HO196 := Aside0.mk (ho)
         clear HO_7
         clear ho hb hg hat
         refine hK.out _ _ ⟨(blk_cell BK175.out 0).trans rfl, (blk_cell BK175.out 1).trans rfl, (blk_cell BK175.out 2).trans rfl, (blk_cell BK175.out 3).trans rfl, (blk_cell BK175.out 4).trans rfl, (blk_cell BK175.out 5).trans rfl, (blk_cell BK175.out 6).trans rfl, (blk_cell BK175.out 7).trans rfl, (blk_cell BK175.out 8).trans rfl, (blk_cell BK175.out 9).trans rfl, (blk_cell BK175.out 10).trans rfl, (blk_cell BK175.out 11).trans rfl, (blk_cell BK175.out 12).trans rfl⟩ (fun hHeld => ?_)
         clear hK K
         refine norm_ (a' := ?_) ?_ ?_
         rotate_left
         ·show Act.put _ (some 55) _ = _
          simp only [Act.put, List.setIfInBounds_toArray, List.set_cons_zero, List.set_cons_succ, i64_w, i32_w]
          rfl
         refine zqp_ 9 7 HT_ ?_
         refine done_ (done_of HT_.out (by kernel_rfl)) ?_
         try go_wp2
         go_meet
         case rel => exact ⟨_, (y194), H', ⟨by have := HJ7.out; have := HJ25.out; first | omega | exact Nat.le_refl _⟩, ⟨by (with_reducible repeat (first | apply Kd.R_alloc | apply Kd.R_drewN | apply Kd.R_drew)); exact Kd.R_mono HO196.out (fun _ hk => trivial)⟩, ⟨by (with_reducible repeat (first | refine blk_drewN ?_ _ | refine blk_drew ?_ | refine blk_alloc ?_ _)); exact BK175.out⟩, ⟨by repeat (first | (with_reducible first | exact HB.out | apply below_alloc | apply pw_below_drewN | apply below_drew1 | refine below_set ?_ GE175.out) | exact HB.out)⟩⟩
        ·rw [if_neg c34] at H
         exact absurd H (by simp)
       ·replace c31 := Bool.eq_false_iff.mpr c31
        subst c31
        have H1 : (change_Text.j2 kj25 x7_7 a0_0 a0_1 a0_2 l0_3 a0_4 a0_5 a0_6 a0_7 a0_8 a0_9 a0_10 a0_11 a0_12) = some (r1, r2) := by rw [if_neg (show ¬ (false = true) by decide)] at H; exact H
        clear H
        have H := H1
        clear H1
        have H' := Aside0.mk H
        clear H
        go_wp2
        go_meet
        case rel => exact ⟨_, (x7_7), H', ⟨by have := HJ7.out; have := HJ25.out; first | omega | exact Nat.le_refl _⟩, ⟨by (with_reducible repeat (first | apply Kd.R_alloc | apply Kd.R_drewN | apply Kd.R_drew)); exact HO_7.out⟩, ⟨by (with_reducible repeat (first | refine blk_drewN ?_ _ | refine blk_drew ?_ | refine blk_alloc ?_ _)); exact BK175.out⟩, ⟨by repeat (first | (with_reducible first | exact HB.out | apply below_alloc | apply pw_below_drewN | apply below_drew1 | refine below_set ?_ GE175.out) | exact HB.out)⟩⟩
      case rest =>
       clear HC30
       try clear c1
       try clear c2
       try clear p2
       try clear c3
       try clear c3b0
       try clear c3b1
       try clear c8
       try clear c14
       try clear c20
       try clear c20b0
       try clear c20b1
       try clear c22
       try clear c27
       try clear c27b0
       try clear c27b1
       try clear c31
       try clear c34
       try clear c37
       try clear hcz10_0 hcz10_1 hcz10_10 hcz10_11 hcz10_12 hcz10_2 hcz10_3 hcz10_4 hcz10_5 hcz10_6 hcz10_7 hcz10_8 hcz10_9 hfz10_0 hfz10_1 hfz10_10 hfz10_11 hfz10_12 hfz10_2 hfz10_3 hfz10_4 hfz10_5 hfz10_6 hfz10_7 hfz10_8 hfz10_9
       try clear hcz12_0 hcz12_1 hcz12_10 hcz12_11 hcz12_12 hcz12_2 hcz12_3 hcz12_4 hcz12_5 hcz12_6 hcz12_7 hcz12_8 hcz12_9 hfz12_0 hfz12_1 hfz12_10 hfz12_11 hfz12_12 hfz12_2 hfz12_3 hfz12_4 hfz12_5 hfz12_6 hfz12_7 hfz12_8 hfz12_9
       try clear hcz19_0 hcz19_1 hcz19_10 hcz19_11 hcz19_12 hcz19_2 hcz19_3 hcz19_4 hcz19_5 hcz19_6 hcz19_7 hcz19_8 hcz19_9 hfz19_0 hfz19_1 hfz19_10 hfz19_11 hfz19_12 hfz19_2 hfz19_3 hfz19_4 hfz19_5 hfz19_6 hfz19_7 hfz19_8 hfz19_9
       try clear hcz23_0 hcz23_1 hcz23_10 hcz23_11 hcz23_12 hcz23_2 hcz23_3 hcz23_4 hcz23_5 hcz23_6 hcz23_7 hcz23_8 hcz23_9 hfz23_0 hfz23_1 hfz23_10 hfz23_11 hfz23_12 hfz23_2 hfz23_3 hfz23_4 hfz23_5 hfz23_6 hfz23_7 hfz23_8 hfz23_9
       try clear hcz28_0 hcz28_1 hcz28_10 hcz28_11 hcz28_12 hcz28_2 hcz28_3 hcz28_4 hcz28_5 hcz28_6 hcz28_7 hcz28_8 hcz28_9 hfz28_0 hfz28_1 hfz28_10 hfz28_11 hfz28_12 hfz28_2 hfz28_3 hfz28_4 hfz28_5 hfz28_6 hfz28_7 hfz28_8 hfz28_9
       try clear hcz29_0 hcz29_1 hcz29_10 hcz29_11 hcz29_12 hcz29_2 hcz29_3 hcz29_4 hcz29_5 hcz29_6 hcz29_7 hcz29_8 hcz29_9 hfz29_0 hfz29_1 hfz29_10 hfz29_11 hfz29_12 hfz29_2 hfz29_3 hfz29_4 hfz29_5 hfz29_6 hfz29_7 hfz29_8 hfz29_9
       try clear p2
       obtain ⟨kq, x7_29, HA, HJ29, HO_7, BK175, HB⟩ := hcut
       cases kq with
       | zero => exact absurd HA.out (by simp [change_Text.j2])
       | succ kj29 =>
        have H := HA.out
        clear HA
        simp only [change_Text.j2] at H
        have HC42 := Aside0.mk H
        clear H
        obtain ⟨hcz43_0, hfz43_0, hcz43_1, hfz43_1, hcz43_2, hfz43_2, hcz43_3, hfz43_3, hcz43_4, hfz43_4, hcz43_5, hfz43_5, hcz43_6, hfz43_6, hcz43_7, hfz43_7, hcz43_8, hfz43_8, hcz43_9, hfz43_9, hcz43_10, hfz43_10, hcz43_11, hfz43_11, hcz43_12, hfz43_12⟩ := zqC13_ BK175.out
        go_upto_if 58 with (fail)
        go_cut [7] (fun v7 wc => ∃ (kq : Nat) (x7_41 : List ByteArray), Aside0 (change_Text.j3 kq x7_41 a0_0 a0_1 a0_2 l0_3 a0_4 a0_5 a0_6 a0_7 a0_8 a0_9 a0_10 a0_11 a0_12 = some (r1, r2)) ∧ Aside0 (kq ≤ kj29) ∧ Aside0 (Kd.R Kd.string 9 wc w.heap.size (fun _ => True) v7 x7_41) ∧ Aside0 (wc.heap[gb175]? = some (.cells #[.int .i64 a0_0, .int .i64 a0_1, .int .i64 a0_2, (.slice A0_3 l0_3.length c0_3), .int .i64 a0_4, .int .i64 a0_5, .int .i64 a0_6, .int .i64 a0_7, .int .i64 a0_8, .int .i64 a0_9, .int .i64 a0_10, .string a0_11, .string a0_12] 26 (0, 0))) ∧ Aside0 (Below w.heap.size w wc))
        case first =>
         have H := HC42.out
         clear HC42
         by_cases c44 : a0_11.toList = ([] : List UInt8)
         ·rw [if_pos c44] at H
          have c44b0 : (a0_11.toList == ([] : List UInt8)) = true := beq_iff_eq.mpr c44
          have c44b4 : a0_11.toList.isEmpty = true := List.isEmpty_iff.2 c44
          have c44b5 : (!a0_11.toList.isEmpty) = false := by rw [c44b4]; rfl
          have c44b1 : (a0_11.toList != ([] : List UInt8)) = false := bne_eq_false_iff_eq.mpr c44
          clear c44
          (first | rw [c44b0] | rw [c44b5] | rw [c44b4] | (simp only [i64_w, i32_w]; rw [c44b0]) | skip)
          have H' := Aside0.mk H
          clear H
          go_wp2
          go_meet
          case rel => exact ⟨_, (x7_29), H', ⟨by have := HJ7.out; have := HJ25.out; have := HJ29.out; first | omega | exact Nat.le_refl _⟩, ⟨by (with_reducible repeat (first | apply Kd.R_alloc | apply Kd.R_drewN | apply Kd.R_drew)); exact HO_7.out⟩, ⟨by (with_reducible repeat (first | refine blk_drewN ?_ _ | refine blk_drew ?_ | refine blk_alloc ?_ _)); exact BK175.out⟩, ⟨by repeat (first | (with_reducible first | exact HB.out | apply below_alloc | apply pw_below_drewN | apply below_drew1 | refine below_set ?_ GE175.out) | exact HB.out)⟩⟩
         ·rw [if_neg c44] at H
          have c44b0 : (a0_11.toList == ([] : List UInt8)) = false := beq_eq_false_iff_ne.mpr c44
          have c44b4 : a0_11.toList.isEmpty = false := by rw [Bool.eq_false_iff]; intro h_; exact c44 (List.isEmpty_iff.1 h_)
          have c44b5 : (!a0_11.toList.isEmpty) = true := by rw [c44b4]; rfl
          have c44b1 : (a0_11.toList != ([] : List UInt8)) = true := bne_iff_ne.mpr c44
          (first | rw [c44b0] | rw [c44b5] | rw [c44b4] | (simp only [i64_w, i32_w]; rw [c44b0]) | skip)
          by_cases c45 : x7_29.length < 8796093022208
          ·rw [if_pos c45] at H
           have LMc45 := Aside0.mk c45
           clear c45
           obtain ⟨y197, hy197⟩ : ∃ y_ : List ByteArray, y_ = (x7_29 ++ [a0_11]) := ⟨_, rfl⟩
           replace H : (change_Text.j3 kj29 y197 a0_0 a0_1 a0_2 l0_3 a0_4 a0_5 a0_6 a0_7 a0_8 a0_9 a0_10 a0_11 a0_12) = some (r1, r2) := by first | (rw [hy197]; with_reducible exact H) | (have H2_ := (Option.bind_some _ _).symm.trans H; rw [hy197]; with_reducible exact H2_) | (have H2_ := (Option.bind_some _ _).symm.trans H; with_reducible exact H2_) | with_reducible exact H | (rw [hy197]; exact H) | exact H
           have Ny197 := Aside0.mk hy197
           clear hy197
           have H' := Aside0.mk H
           clear H
           obtain ⟨hcz46_0, hfz46_0, hcz46_1, hfz46_1, hcz46_2, hfz46_2, hcz46_3, hfz46_3, hcz46_4, hfz46_4, hcz46_5, hfz46_5, hcz46_6, hfz46_6, hcz46_7, hfz46_7, hcz46_8, hfz46_8, hcz46_9, hfz46_9, hcz46_10, hfz46_10, hcz46_11, hfz46_11, hcz46_12, hfz46_12⟩ := zqC13_ BK175.out
           go_wp2_with (first | ((with_reducible refine gate_builtin (b := .append) (xs := #[.tmp 59, .tmp 62]) rfl ?_); at_builtin; refine Kd.R_append Kd.string (w0 := w) w.heap.size rfl (.tmp 59) (.tmp 62) 50 9 (.string ⟨#[]⟩) 16 rfl Tryz.underlying50 info9 rfl (by decide) (by omega) u7 x7_29 a0_11 [.string a0_11] (fun _ => True) (fun _ => False) rfl rfl ?aP (fun _ hk => hk.elim) ?aF ?aO ?aB ?aS ?aL ?_; (case aP => exact rfl); (case aB => exact (zqB1_ GE175.out)); (case aF => exact (fun _ _ => trivial)); (case aO => exact zq32_); (case aS => exact (below_size (zqB1_ GE175.out))); (case aL => have := LMc45.out; omega); intro v198 w47 ho hb hg hat; rw [← Ny197.out] at ho; replace BK175 := Aside0.mk (blk_grown (zqK_ BK175.out) hg (Kd.R_ne HO_7.out BK175.out (by decide))); replace HB := Aside0.mk (hb); have HO199 := Aside0.mk (ho); clear HO_7; clear ho hb hg hat))
           go_meet
           case rel => exact ⟨_, (y197), H', ⟨by have := HJ7.out; have := HJ25.out; have := HJ29.out; first | omega | exact Nat.le_refl _⟩, ⟨by (with_reducible repeat (first | apply Kd.R_alloc | apply Kd.R_drewN | apply Kd.R_drew)); exact HO199.out⟩, ⟨by (with_reducible repeat (first | refine blk_drewN ?_ _ | refine blk_drew ?_ | refine blk_alloc ?_ _)); exact BK175.out⟩, ⟨by repeat (first | (with_reducible first | exact HB.out | apply below_alloc | apply pw_below_drewN | apply below_drew1 | refine below_set ?_ GE175.out) | exact HB.out)⟩⟩
          ·rw [if_neg c45] at H
           exact absurd H (by simp)
        case rest =>
         clear HC42
         try clear c1
         try clear c2
         try clear p2
         try clear c3
         try clear c3b0
         try clear c3b1
         try clear c4
         try clear c8
         try clear c14
         try clear c20
         try clear c20b0
         try clear c20b1
         try clear c22
         try clear c27
         try clear c27b0
         try clear c27b1
         try clear c31
         try clear c34
         try clear c37
         try clear c44
         try clear c44b0
         try clear c44b1
         try clear c45
         try clear hcz10_0 hcz10_1 hcz10_10 hcz10_11 hcz10_12 hcz10_2 hcz10_3 hcz10_4 hcz10_5 hcz10_6 hcz10_7 hcz10_8 hcz10_9 hfz10_0 hfz10_1 hfz10_10 hfz10_11 hfz10_12 hfz10_2 hfz10_3 hfz10_4 hfz10_5 hfz10_6 hfz10_7 hfz10_8 hfz10_9
         try clear hcz12_0 hcz12_1 hcz12_10 hcz12_11 hcz12_12 hcz12_2 hcz12_3 hcz12_4 hcz12_5 hcz12_6 hcz12_7 hcz12_8 hcz12_9 hfz12_0 hfz12_1 hfz12_10 hfz12_11 hfz12_12 hfz12_2 hfz12_3 hfz12_4 hfz12_5 hfz12_6 hfz12_7 hfz12_8 hfz12_9
         try clear hcz19_0 hcz19_1 hcz19_10 hcz19_11 hcz19_12 hcz19_2 hcz19_3 hcz19_4 hcz19_5 hcz19_6 hcz19_7 hcz19_8 hcz19_9 hfz19_0 hfz19_1 hfz19_10 hfz19_11 hfz19_12 hfz19_2 hfz19_3 hfz19_4 hfz19_5 hfz19_6 hfz19_7 hfz19_8 hfz19_9
         try clear hcz23_0 hcz23_1 hcz23_10 hcz23_11 hcz23_12 hcz23_2 hcz23_3 hcz23_4 hcz23_5 hcz23_6 hcz23_7 hcz23_8 hcz23_9 hfz23_0 hfz23_1 hfz23_10 hfz23_11 hfz23_12 hfz23_2 hfz23_3 hfz23_4 hfz23_5 hfz23_6 hfz23_7 hfz23_8 hfz23_9
         try clear hcz28_0 hcz28_1 hcz28_10 hcz28_11 hcz28_12 hcz28_2 hcz28_3 hcz28_4 hcz28_5 hcz28_6 hcz28_7 hcz28_8 hcz28_9 hfz28_0 hfz28_1 hfz28_10 hfz28_11 hfz28_12 hfz28_2 hfz28_3 hfz28_4 hfz28_5 hfz28_6 hfz28_7 hfz28_8 hfz28_9
         try clear hcz29_0 hcz29_1 hcz29_10 hcz29_11 hcz29_12 hcz29_2 hcz29_3 hcz29_4 hcz29_5 hcz29_6 hcz29_7 hcz29_8 hcz29_9 hfz29_0 hfz29_1 hfz29_10 hfz29_11 hfz29_12 hfz29_2 hfz29_3 hfz29_4 hfz29_5 hfz29_6 hfz29_7 hfz29_8 hfz29_9
         try clear hcz43_0 hcz43_1 hcz43_10 hcz43_11 hcz43_12 hcz43_2 hcz43_3 hcz43_4 hcz43_5 hcz43_6 hcz43_7 hcz43_8 hcz43_9 hfz43_0 hfz43_1 hfz43_10 hfz43_11 hfz43_12 hfz43_2 hfz43_3 hfz43_4 hfz43_5 hfz43_6 hfz43_7 hfz43_8 hfz43_9
         try clear hcz46_0 hcz46_1 hcz46_10 hcz46_11 hcz46_12 hcz46_2 hcz46_3 hcz46_4 hcz46_5 hcz46_6 hcz46_7 hcz46_8 hcz46_9 hfz46_0 hfz46_1 hfz46_10 hfz46_11 hfz46_12 hfz46_2 hfz46_3 hfz46_4 hfz46_5 hfz46_6 hfz46_7 hfz46_8 hfz46_9
         try clear p2
         obtain ⟨kq, x7_41, HA, HJ41, HO_7, BK175, HB⟩ := hcut
         cases kq with
         | zero => exact absurd HA.out (by simp [change_Text.j3])
         | succ kj41 =>
          have H := HA.out
          clear HA
          simp only [change_Text.j3] at H
          have HC48 := Aside0.mk H
          clear H
          go_upto_region 12 with (fail)
          go_cut [71] (fun v71 wc => ∃ (kq : Nat) (x71_47 : Bool), v71 = .bool x71_47 ∧ Aside0 (change_Text.j4 kq x7_41 x71_47 a0_0 a0_1 a0_2 l0_3 a0_4 a0_5 a0_6 a0_7 a0_8 a0_9 a0_10 a0_11 a0_12 = some (r1, r2)) ∧ Aside0 (kq ≤ kj41) ∧ Aside0 (Kd.R Kd.string 9 wc w.heap.size (fun _ => True) u7 x7_41) ∧ Aside0 (wc.heap[gb175]? = some (.cells #[.int .i64 a0_0, .int .i64 a0_1, .int .i64 a0_2, (.slice A0_3 l0_3.length c0_3), .int .i64 a0_4, .int .i64 a0_5, .int .i64 a0_6, .int .i64 a0_7, .int .i64 a0_8, .int .i64 a0_9, .int .i64 a0_10, .string a0_11, .string a0_12] 26 (0, 0))) ∧ Aside0 (Below w.heap.size w wc))
          case first =>
           have H := HC48.out
           clear HC48
           by_cases c49 : a0_4 = 3
           ·rw [if_pos c49] at H
            have c49b0 : (a0_4 == 3) = true := beq_iff_eq.mpr c49
            have c49b1 : (a0_4 != 3) = false := bne_eq_false_iff_eq.mpr c49
            clear c49
            (first | rw [c49b0] | (simp only [i64_w, i32_w]; rw [c49b0]) | skip)
            have H' := Aside0.mk H
            clear H
            obtain ⟨hcz50_0, hfz50_0, hcz50_1, hfz50_1, hcz50_2, hfz50_2, hcz50_3, hfz50_3, hcz50_4, hfz50_4, hcz50_5, hfz50_5, hcz50_6, hfz50_6, hcz50_7, hfz50_7, hcz50_8, hfz50_8, hcz50_9, hfz50_9, hcz50_10, hfz50_10, hcz50_11, hfz50_11, hcz50_12, hfz50_12⟩ := zqC13_ BK175.out
            go_wp2
            go_meet
            case rel => exact ⟨_, (true), zq8_, H', ⟨by have := HJ7.out; have := HJ25.out; have := HJ29.out; have := HJ41.out; first | omega | exact Nat.le_refl _⟩, ⟨by (with_reducible repeat (first | apply Kd.R_alloc | apply Kd.R_drewN | apply Kd.R_drew)); exact HO_7.out⟩, ⟨by (with_reducible repeat (first | refine blk_drewN ?_ _ | refine blk_drew ?_ | refine blk_alloc ?_ _)); exact BK175.out⟩, ⟨by repeat (first | (with_reducible first | exact HB.out | apply below_alloc | apply pw_below_drewN | apply below_drew1 | refine below_set ?_ GE175.out) | exact HB.out)⟩⟩
           ·rw [if_neg c49] at H
            have c49b0 : (a0_4 == 3) = false := beq_eq_false_iff_ne.mpr c49
            have c49b1 : (a0_4 != 3) = true := bne_iff_ne.mpr c49
            (first | rw [c49b0] | (simp only [i64_w, i32_w]; rw [c49b0]) | skip)
            have H' := Aside0.mk H
            clear H
            obtain ⟨hcz51_0, hfz51_0, hcz51_1, hfz51_1, hcz51_2, hfz51_2, hcz51_3, hfz51_3, hcz51_4, hfz51_4, hcz51_5, hfz51_5, hcz51_6, hfz51_6, hcz51_7, hfz51_7, hcz51_8, hfz51_8, hcz51_9, hfz51_9, hcz51_10, hfz51_10, hcz51_11, hfz51_11, hcz51_12, hfz51_12⟩ := zqC13_ BK175.out
            go_wp2
            go_meet
            case rel => exact ⟨_, ((a0_4 == 5)), zq8_, H', ⟨by have := HJ7.out; have := HJ25.out; have := HJ29.out; have := HJ41.out; first | omega | exact Nat.le_refl _⟩, ⟨by (with_reducible repeat (first | apply Kd.R_alloc | apply Kd.R_drewN | apply Kd.R_drew)); exact HO_7.out⟩, ⟨by (with_reducible repeat (first | refine blk_drewN ?_ _ | refine blk_drew ?_ | refine blk_alloc ?_ _)); exact BK175.out⟩, ⟨by repeat (first | (with_reducible first | exact HB.out | apply below_alloc | apply pw_below_drewN | apply below_drew1 | refine below_set ?_ GE175.out) | exact HB.out)⟩⟩
          case rest =>
           clear HC48
           try clear c1
           try clear c2
           try clear p2
           try clear c3
           try clear c3b0
           try clear c3b1
           try clear c4
           try clear c8
           try clear c14
           try clear c20
           try clear c20b0
           try clear c20b1
           try clear c22
           try clear c27
           try clear c27b0
           try clear c27b1
           try clear c31
           try clear c34
           try clear c37
           try clear c44
           try clear c44b0
           try clear c44b1
           try clear c45
           try clear c49
           try clear c49b0
           try clear c49b1
           try clear hcz10_0 hcz10_1 hcz10_10 hcz10_11 hcz10_12 hcz10_2 hcz10_3 hcz10_4 hcz10_5 hcz10_6 hcz10_7 hcz10_8 hcz10_9 hfz10_0 hfz10_1 hfz10_10 hfz10_11 hfz10_12 hfz10_2 hfz10_3 hfz10_4 hfz10_5 hfz10_6 hfz10_7 hfz10_8 hfz10_9
           try clear hcz12_0 hcz12_1 hcz12_10 hcz12_11 hcz12_12 hcz12_2 hcz12_3 hcz12_4 hcz12_5 hcz12_6 hcz12_7 hcz12_8 hcz12_9 hfz12_0 hfz12_1 hfz12_10 hfz12_11 hfz12_12 hfz12_2 hfz12_3 hfz12_4 hfz12_5 hfz12_6 hfz12_7 hfz12_8 hfz12_9
           try clear hcz19_0 hcz19_1 hcz19_10 hcz19_11 hcz19_12 hcz19_2 hcz19_3 hcz19_4 hcz19_5 hcz19_6 hcz19_7 hcz19_8 hcz19_9 hfz19_0 hfz19_1 hfz19_10 hfz19_11 hfz19_12 hfz19_2 hfz19_3 hfz19_4 hfz19_5 hfz19_6 hfz19_7 hfz19_8 hfz19_9
           try clear hcz23_0 hcz23_1 hcz23_10 hcz23_11 hcz23_12 hcz23_2 hcz23_3 hcz23_4 hcz23_5 hcz23_6 hcz23_7 hcz23_8 hcz23_9 hfz23_0 hfz23_1 hfz23_10 hfz23_11 hfz23_12 hfz23_2 hfz23_3 hfz23_4 hfz23_5 hfz23_6 hfz23_7 hfz23_8 hfz23_9
           try clear hcz28_0 hcz28_1 hcz28_10 hcz28_11 hcz28_12 hcz28_2 hcz28_3 hcz28_4 hcz28_5 hcz28_6 hcz28_7 hcz28_8 hcz28_9 hfz28_0 hfz28_1 hfz28_10 hfz28_11 hfz28_12 hfz28_2 hfz28_3 hfz28_4 hfz28_5 hfz28_6 hfz28_7 hfz28_8 hfz28_9
           try clear hcz29_0 hcz29_1 hcz29_10 hcz29_11 hcz29_12 hcz29_2 hcz29_3 hcz29_4 hcz29_5 hcz29_6 hcz29_7 hcz29_8 hcz29_9 hfz29_0 hfz29_1 hfz29_10 hfz29_11 hfz29_12 hfz29_2 hfz29_3 hfz29_4 hfz29_5 hfz29_6 hfz29_7 hfz29_8 hfz29_9
           try clear hcz43_0 hcz43_1 hcz43_10 hcz43_11 hcz43_12 hcz43_2 hcz43_3 hcz43_4 hcz43_5 hcz43_6 hcz43_7 hcz43_8 hcz43_9 hfz43_0 hfz43_1 hfz43_10 hfz43_11 hfz43_12 hfz43_2 hfz43_3 hfz43_4 hfz43_5 hfz43_6 hfz43_7 hfz43_8 hfz43_9
           try clear hcz46_0 hcz46_1 hcz46_10 hcz46_11 hcz46_12 hcz46_2 hcz46_3 hcz46_4 hcz46_5 hcz46_6 hcz46_7 hcz46_8 hcz46_9 hfz46_0 hfz46_1 hfz46_10 hfz46_11 hfz46_12 hfz46_2 hfz46_3 hfz46_4 hfz46_5 hfz46_6 hfz46_7 hfz46_8 hfz46_9
           try clear hcz50_0 hcz50_1 hcz50_10 hcz50_11 hcz50_12 hcz50_2 hcz50_3 hcz50_4 hcz50_5 hcz50_6 hcz50_7 hcz50_8 hcz50_9 hfz50_0 hfz50_1 hfz50_10 hfz50_11 hfz50_12 hfz50_2 hfz50_3 hfz50_4 hfz50_5 hfz50_6 hfz50_7 hfz50_8 hfz50_9
           try clear hcz51_0 hcz51_1 hcz51_10 hcz51_11 hcz51_12 hcz51_2 hcz51_3 hcz51_4 hcz51_5 hcz51_6 hcz51_7 hcz51_8 hcz51_9 hfz51_0 hfz51_1 hfz51_10 hfz51_11 hfz51_12 hfz51_2 hfz51_3 hfz51_4 hfz51_5 hfz51_6 hfz51_7 hfz51_8 hfz51_9
           try clear p2
           obtain ⟨kq, x71_47, rfl, HA, HJ47, HO_7, BK175, HB⟩ := hcut
           cases kq with
           | zero => exact absurd HA.out (by simp [change_Text.j4])
           | succ kj47 =>
            have H := HA.out
            clear HA
            simp only [change_Text.j4] at H
            by_cases c52 : x71_47 = true
            ·subst c52
             have H1 : ((change_Quote.f kj47 a0_12).bind fun t200 => (if x7_41.length < 8796093022208 then ((strings_Join.f (x7_41 ++ [t200]) (⟨#[32]⟩ : ByteArray)).bind fun t204 => (some (t204, 0))) else (none))) = some (r1, r2) := by rw [if_pos rfl] at H; exact H
             clear H
             have H := H1
             clear H1
             replace H := Option.bind_eq_some_iff.mp H
             obtain ⟨t200, A530, H⟩ := H
             have A53 := Aside0.mk A530
             clear A530
             by_cases c54 : x7_41.length < 8796093022208
             ·rw [if_pos c54] at H
              have LMc54 := Aside0.mk c54
              clear c54
              obtain ⟨y201, hy201⟩ : ∃ y_ : List ByteArray, y_ = (x7_41 ++ [t200]) := ⟨_, rfl⟩
              replace H : ((strings_Join.f y201 (⟨#[32]⟩ : ByteArray)).bind fun t204 => (some (t204, 0))) = some (r1, r2) := by first | (rw [hy201]; with_reducible exact H) | (have H2_ := (Option.bind_some _ _).symm.trans H; rw [hy201]; with_reducible exact H2_) | (have H2_ := (Option.bind_some _ _).symm.trans H; with_reducible exact H2_) | with_reducible exact H | (rw [hy201]; exact H) | exact H
              have Ny201 := Aside0.mk hy201
              clear hy201
              replace H := Option.bind_eq_some_iff.mp H
              obtain ⟨t204, A550, H⟩ := H
              replace H : (some (t204, 0)) = some (r1, r2) := H
              have A55 := Aside0.mk A550
              clear A550
              simp only [Option.some.injEq, Prod.mk.injEq] at H
              obtain ⟨rfl, rfl⟩ := H
              obtain ⟨hcz56_0, hfz56_0, hcz56_1, hfz56_1, hcz56_2, hfz56_2, hcz56_3, hfz56_3, hcz56_4, hfz56_4, hcz56_5, hfz56_5, hcz56_6, hfz56_6, hcz56_7, hfz56_7, hcz56_8, hfz56_8, hcz56_9, hfz56_9, hcz56_10, hfz56_10, hcz56_11, hfz56_11, hcz56_12, hfz56_12⟩ := zqC13_ BK175.out
              go_wp2_with (first | ((with_reducible refine gate_callee (f := 39) rfl ?_); refine zqG_ (some 75) rfl Tryz.func39 #[.string a0_12] rfl ?_; (with_reducible refine (change_Quote.calls kj47 a0_12 t200 _ A53.out).mono ?_); rintro e w57 ⟨rfl, hb⟩; refine ⟨_, rfl, ?_⟩; replace HO_7 := Aside0.mk (Kd.R_below zq32_ hb); replace BK175 := Aside0.mk (blk_below (zqK_ BK175.out) hb); replace HB := Aside0.mk (below_step (zqB1_ GE175.out) hb); (try clear hb); (try clear hb2); (try clear hk); (try clear hi)) | ((with_reducible refine gate_builtin (b := .append) (xs := #[.tmp 72, .tmp 76]) rfl ?_); at_builtin; refine Kd.R_append Kd.string (w0 := w) w.heap.size rfl (.tmp 72) (.tmp 76) 50 9 (.string ⟨#[]⟩) 16 rfl Tryz.underlying50 info9 rfl (by decide) (by omega) u7 x7_41 t200 [.string t200] (fun _ => True) (fun _ => False) rfl rfl ?aP (fun _ hk => hk.elim) ?aF ?aO ?aB ?aS ?aL ?_; (case aP => exact rfl); (case aB => exact (zqB1_ GE175.out)); (case aF => exact (fun _ _ => trivial)); (case aO => exact zq32_); (case aS => exact (below_size (zqB1_ GE175.out))); (case aL => have := LMc54.out; omega); intro v202 w58 ho hb hg hat; rw [← Ny201.out] at ho; replace BK175 := Aside0.mk (blk_grown (zqK_ BK175.out) hg (Kd.R_ne HO_7.out BK175.out (by decide))); replace HB := Aside0.mk (hb); have HO203 := Aside0.mk (ho); clear HO_7; clear ho hb hg hat; obtain ⟨Ao59, co59, eo59⟩ := Kd.R_slice HO203.out; subst eo59) | ((with_reducible refine gate_callee (f := 40) rfl ?_); refine zqG_ (some 79) rfl Tryz.func40 #[.slice Ao59 y201.length co59, .string (⟨#[32]⟩ : ByteArray)] rfl ?_; (with_reducible refine (strings_Join.calls _ _ y201 (⟨#[32]⟩ : ByteArray) t204 _ ?side1 ?side2 A55.out).mono ?_); (case side1 => repeat (first | exact (Kd.R_reads' HO203.out).2.2 | (with_reducible refine Kd.C_alloc ?_ _) | (with_reducible refine Kd.C_drewN ?_ _) | (with_reducible refine Kd.C_drew ?_))); (case side2 => exact (Kd.R_reads' HO203.out).2.1); rintro e w60 ⟨rfl, hb⟩; refine ⟨_, rfl, ?_⟩; replace HO203 := Aside0.mk (Kd.R_below (by (with_reducible repeat (first | apply Kd.R_alloc | apply Kd.R_drewN | apply Kd.R_drew)); exact HO203.out) hb); replace BK175 := Aside0.mk (blk_below (zqK_ BK175.out) hb); replace HB := Aside0.mk (below_step (zqB1_ GE175.out) hb); (try clear hb); (try clear hb2); (try clear hk); (try clear hi)))
              go_ret2
              exact ⟨by first | rfl | (simp [errW_none, errW_some] <;> rfl) | (simp [*, errW_none, errW_some] <;> rfl), by repeat (first | (with_reducible first | exact HB.out | apply below_alloc | apply pw_below_drewN | apply below_drew1 | refine below_set ?_ GE175.out) | exact HB.out)⟩
             ·rw [if_neg c54] at H
              exact absurd H (by simp)
            ·replace c52 := Bool.eq_false_iff.mpr c52
             subst c52
             have H1 : ((strings_Join.f x7_41 (⟨#[32]⟩ : ByteArray)).bind fun t205 => (some (t205, 0))) = some (r1, r2) := by rw [if_neg (show ¬ (false = true) by decide)] at H; exact H
             clear H
             have H := H1
             clear H1
             replace H := Option.bind_eq_some_iff.mp H
             obtain ⟨t205, A610, H⟩ := H
             replace H : (some (t205, 0)) = some (r1, r2) := H
             have A61 := Aside0.mk A610
             clear A610
             simp only [Option.some.injEq, Prod.mk.injEq] at H
             obtain ⟨rfl, rfl⟩ := H
             obtain ⟨Ao62, co62, eo62⟩ := Kd.R_slice HO_7.out
             subst eo62
             go_wp2_with (first | ((with_reducible refine gate_callee (f := 40) rfl ?_); refine zqG_ (some 79) rfl Tryz.func40 #[.slice Ao62 x7_41.length co62, .string (⟨#[32]⟩ : ByteArray)] rfl ?_; (with_reducible refine (strings_Join.calls _ _ x7_41 (⟨#[32]⟩ : ByteArray) t205 _ ?side1 ?side2 A61.out).mono ?_); (case side1 => repeat (first | exact (Kd.R_reads' HO_7.out).2.2 | (with_reducible refine Kd.C_alloc ?_ _) | (with_reducible refine Kd.C_drewN ?_ _) | (with_reducible refine Kd.C_drew ?_))); (case side2 => exact (Kd.R_reads' HO_7.out).2.1); rintro e w63 ⟨rfl, hb⟩; refine ⟨_, rfl, ?_⟩; replace HO_7 := Aside0.mk (Kd.R_below zq32_ hb); replace BK175 := Aside0.mk (blk_below (zqK_ BK175.out) hb); replace HB := Aside0.mk (below_step (zqB1_ GE175.out) hb); (try clear hb); (try clear hb2); (try clear hk); (try clear hi)))
             go_ret2
             exact ⟨by first | rfl | (simp [errW_none, errW_some] <;> rfl) | (simp [*, errW_none, errW_some] <;> rfl), by repeat (first | (with_reducible first | exact HB.out | apply below_alloc | apply pw_below_drewN | apply below_drew1 | refine below_set ?_ GE175.out) | exact HB.out)⟩
 ·rw [if_neg c3] at H
  have c3b0 : (t176 == 0) = false := beq_eq_false_iff_ne.mpr c3
  have c3b1 : (t176 != 0) = true := bne_iff_ne.mpr c3
  simp only [Option.some.injEq, Prod.mk.injEq] at H
  obtain ⟨rfl, rfl⟩ := H
  go_enter Tryz.func14, Tryz.ntmps14
  go_wp2_with (first | ((with_reducible refine gate_dst (N := 1) rfl ?_); refine box_event ?hg (N := 1) ?hd (cs := #[.int .i64 a0_0, .int .i64 a0_1, .int .i64 a0_2, .slice A0_3 l0_3.length c0_3, .int .i64 a0_4, .int .i64 a0_5, .int .i64 a0_6, .int .i64 a0_7, .int .i64 a0_8, .int .i64 a0_9, .int .i64 a0_10, .string a0_11, .string a0_12]) (t := 26) ?hr ?_; (case hd => rfl); (case hg => rfl); (case hr => first | (go_simp; done) | (go_simp; rfl)); intro gb175 hg w64 hbox hb; have BK175 := Aside0.mk (hbox); have GW175 := Aside0.mk ((zq7_ : w.heap.size ≤ gb175)); have GE175 := Aside0.mk ((zq7_ : w.heap.size ≤ gb175)); replace HB := Aside0.mk (below_step zq0_ hb); clear hb hbox hg; obtain ⟨hcz65_0, hfz65_0, hcz65_1, hfz65_1, hcz65_2, hfz65_2, hcz65_3, hfz65_3, hcz65_4, hfz65_4, hcz65_5, hfz65_5, hcz65_6, hfz65_6, hcz65_7, hfz65_7, hcz65_8, hfz65_8, hcz65_9, hfz65_9, hcz65_10, hfz65_10, hcz65_11, hfz65_11, hcz65_12, hfz65_12⟩ := zqC13_ BK175.out) | ((with_reducible refine gate_callee (f := 8) rfl ?_); refine zqG_ (some 9) rfl Tryz.func8 #[.agg #[.int .i64 a0_0, .int .i64 a0_1, .int .i64 a0_2, .slice A0_3 l0_3.length c0_3, .int .i64 a0_4, .int .i64 a0_5, .int .i64 a0_6, .int .i64 a0_7, .int .i64 a0_8, .int .i64 a0_9, .int .i64 a0_10, .string a0_11, .string a0_12]] rfl ?_; (with_reducible refine (change_Check.calls k a0_0 a0_1 a0_2 _ _ l0_3 a0_4 a0_5 a0_6 a0_7 a0_8 a0_9 a0_10 a0_11 a0_12 t176 _ ?side1 ?side2 A2.out).mono ?_); (case side1 => repeat (first | exact (Kd.C_below HR0_3.out HB.out) | (with_reducible refine Kd.C_alloc ?_ _) | (with_reducible refine Kd.C_drewN ?_ _) | (with_reducible refine Kd.C_drew ?_))); (case side2 => exact HC0_3.out); rintro e w66 ⟨rfl, hb⟩; refine ⟨_, rfl, ?_⟩; replace BK175 := Aside0.mk (blk_below (zqK_ BK175.out) hb); replace HB := Aside0.mk (below_step (zqB1_ GE175.out) hb); (try clear hb); (try clear hb2); (try clear hk); (try clear hi)))
  go_ret2
  exact ⟨by first | rfl | (simp [errW_none, errW_some] <;> rfl) | (simp [*, errW_none, errW_some] <;> rfl), by repeat (first | (with_reducible first | exact HB.out | apply below_alloc | apply pw_below_drewN | apply below_drew1 | refine below_set ?_ GE175.out) | exact HB.out)⟩

end Go.Proofs.YtgoolgmcbnikkaaGreatDoor.QChangeSames
