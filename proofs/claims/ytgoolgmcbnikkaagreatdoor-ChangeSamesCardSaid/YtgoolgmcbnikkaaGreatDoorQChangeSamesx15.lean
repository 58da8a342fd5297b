-- Own text of this seat, laid by the session's program ownprint.py (wip/tools). Lean checks it.
import Derived.Test.YtgoolgmcbnikkaaGreatDoorQChangeSamesx0
import Derived.Test.YtgoolgmcbnikkaaGreatDoorQChangeSamesx2
import Derived.Test.YtgoolgmcbnikkaaGreatDoorQChangeSamesx5
import Derived.Test.YtgoolgmcbnikkaaGreatDoorQChangeSamesx10
import Derived.Test.YtgoolgmcbnikkaaGreatDoorQChangeSamesx12
import Derived.Test.YtgoolgmcbnikkaaGreatDoorQChangeSamesx14
namespace Go.Proofs.YtgoolgmcbnikkaaGreatDoor.QChangeSames
open Go.RowKit Go.Proofs.YtgoolgmcbnikkaaGreatDoorW.PrintWords Go.Proofs.YtgoolgmcbnikkaaGreatDoorW.PrintLast Go.Proofs.YtgoolgmcbnikkaaGreatDoorW.PrintMore
attribute [local go_sem] max2_int min2_int max_two min_two max_three min_three max_four min_four   -- for this text's walks alone
set_option linter.unusedVariables false
set_option linter.unusedSimpArgs false

/-! ### topiarylaw05_ChangeSames: function 7 -/
def topiarylaw05_ChangeSames.f (k : Nat) (a0_0 : Int) (a0_1 : Int) (a0_2 : Int) (l0_3 : List Int) (a0_4 : Int) (a0_5 : Int) (a0_6 : Int) (a0_7 : Int) (a0_8 : Int) (a0_9 : Int) (a0_10 : Int) (a0_11 : ByteArray) (a0_12 : ByteArray) (a1_0 : Int) (a1_1 : Int) (a1_2 : Int) (l1_3 : List Int) (a1_4 : Int) (a1_5 : Int) (a1_6 : Int) (a1_7 : Int) (a1_8 : Int) (a1_9 : Int) (a1_10 : Int) (a1_11 : ByteArray) (a1_12 : ByteArray) : Option (Bool) := (change_Same.f k a0_0 a0_1 a0_2 l0_3 a0_4 a0_5 a0_6 a0_7 a0_8 a0_9 a0_10 a0_11 a0_12 a1_0 a1_1 a1_2 l1_3 a1_4 a1_5 a1_6 a1_7 a1_8 a1_9 a1_10 a1_11 a1_12).bind fun t373 => ((topiaryref05_Same.f k a0_0 a0_1 a0_2 l0_3 a0_4 a0_5 a0_6 a0_7 a0_8 a0_9 a0_10 a0_11 a0_12 a1_0 a1_1 a1_2 l1_3 a1_4 a1_5 a1_6 a1_7 a1_8 a1_9 a1_10 a1_11 a1_12).bind fun t374 => (if (t373 == t374) = true then ((topiaryref05_Copy.f a0_0 a0_1 a0_2 l0_3 a0_4 a0_5 a0_6 a0_7 a0_8 a0_9 a0_10 a0_11 a0_12).bind fun bt375 => ((change_Same.f k a0_0 a0_1 a0_2 l0_3 a0_4 a0_5 a0_6 a0_7 a0_8 a0_9 a0_10 a0_11 a0_12 bt375.1 bt375.2.1 bt375.2.2.1 bt375.2.2.2.1 bt375.2.2.2.2.1 bt375.2.2.2.2.2.1 bt375.2.2.2.2.2.2.1 bt375.2.2.2.2.2.2.2.1 bt375.2.2.2.2.2.2.2.2.1 bt375.2.2.2.2.2.2.2.2.2.1 bt375.2.2.2.2.2.2.2.2.2.2.1 bt375.2.2.2.2.2.2.2.2.2.2.2.1 bt375.2.2.2.2.2.2.2.2.2.2.2.2).bind fun t390 => (if t390 = true then ((change_Less.f a0_0 a0_1 a0_2 l0_3 a0_4 a0_5 a0_6 a0_7 a0_8 a0_9 a0_10 a0_11 a0_12 a1_0 a1_1 a1_2 l1_3 a1_4 a1_5 a1_6 a1_7 a1_8 a1_9 a1_10 a1_11 a1_12).bind fun t391 => ((topiaryref01_Less.f a0_0 a0_1 a1_0 a1_1).bind fun t392 => (if (t391 == t392) = true then ((change_Names.f k a0_0 a0_1 a0_2 l0_3 a0_4 a0_5 a0_6 a0_7 a0_8 a0_9 a0_10 a0_11 a0_12).bind fun t393 => ((topiaryref05_Names.f k a0_0 a0_1 a0_2 l0_3 a0_4 a0_5 a0_6 a0_7 a0_8 a0_9 a0_10 a0_11 a0_12).bind fun t396 => ((topiaryref01_Same.f k t393 t396).bind fun t399 => (if t399 = true then ((topiarylaw05_awake.f k).bind fun t400 => (some t400)) else (some false))))) else (some false)))) else (some false)))) else (some false)))
theorem topiarylaw05_ChangeSames.mono : ∀ a0 a1 a2 a3 a4 a5 a6 a7 a8 a9 a10 a11 a12 a13 a14 a15 a16 a17 a18 a19 a20 a21 a22 a23 a24 a25 k, LeO (topiarylaw05_ChangeSames.f k a0 a1 a2 a3 a4 a5 a6 a7 a8 a9 a10 a11 a12 a13 a14 a15 a16 a17 a18 a19 a20 a21 a22 a23 a24 a25) (topiarylaw05_ChangeSames.f (k + 1) a0 a1 a2 a3 a4 a5 a6 a7 a8 a9 a10 a11 a12 a13 a14 a15 a16 a17 a18 a19 a20 a21 a22 a23 a24 a25) := by
 intro a0 a1 a2 a3 a4 a5 a6 a7 a8 a9 a10 a11 a12 a13 a14 a15 a16 a17 a18 a19 a20 a21 a22 a23 a24 a25 k
 unfold topiarylaw05_ChangeSames.f
 repeat' first
   | (with_reducible exact change_Names.mono _ _ _ _ _ _ _ _ _ _ _ _ _ _)
   | (with_reducible exact change_Same.mono _ _ _ _ _ _ _ _ _ _ _ _ _ _ _ _ _ _ _ _ _ _ _ _ _ _ _)
   | (with_reducible exact topiarylaw05_awake.mono _)
   | (with_reducible exact topiaryref01_Same.mono _ _ _)
   | (with_reducible exact topiaryref05_Names.mono _ _ _ _ _ _ _ _ _ _ _ _ _ _)
   | (with_reducible exact topiaryref05_Same.mono _ _ _ _ _ _ _ _ _ _ _ _ _ _ _ _ _ _ _ _ _ _ _ _ _ _ _)
   | (with_reducible exact LeO.refl _)
   | (with_reducible exact LeO.none _)
   | (with_reducible refine LeO.ite ?_ ?_)
   | (with_reducible refine LeO.bind ?_ (fun _ => ?_))
   | exact change_Names.mono _ _ _ _ _ _ _ _ _ _ _ _ _ _
   | exact change_Same.mono _ _ _ _ _ _ _ _ _ _ _ _ _ _ _ _ _ _ _ _ _ _ _ _ _ _ _
   | exact topiarylaw05_awake.mono _
   | exact topiaryref01_Same.mono _ _ _
   | exact topiaryref05_Names.mono _ _ _ _ _ _ _ _ _ _ _ _ _ _
   | exact topiaryref05_Same.mono _ _ _ _ _ _ _ _ _ _ _ _ _ _ _ _ _ _ _ _ _ _ _ _ _ _ _
   | exact LeO.none _
   | refine LeO.ite ?_ ?_
   | refine LeO.bind ?_ (fun _ => ?_)
def topiarylaw05_ChangeSames.T1 : Bool × List (List Nat × List Nat) := (true, [([], []), ([], []), ([0, 1], [0, 1]), ([], []), ([], []), ([3, 4, 2], [3, 4]), ([2, 5], [2, 5]), ([6, 5], [6]), ([7], [7]), ([7], [7]), ([9, 7, 7], [7, 9]), ([8, 10, 10, 7], [7, 8, 10]), ([7, 11], [7, 11]), ([12, 11], [12]), ([13], [13]), ([13], [13]), ([14, 15, 13, 13], [13, 14, 15]), ([13], [13]), ([17, 13], [13, 17]), ([13], [13]), ([19, 13], [13, 19]), ([18, 20, 16, 13], [13, 18, 20]), ([16, 21, 13], [13, 16, 21]), ([13, 22], [13, 22]), ([23, 21], [23]), ([24], [24]), ([25, 24, 24], [24, 25]), ([24], [24]), ([27, 26, 24], [24, 27]), ([26, 28, 28, 24], [24, 26, 28]), ([24, 29], [24, 29]), ([30, 29], [30]), ([31, 31], [31]), ([31, 32], [31, 32]), ([33, 32, 0, 1, 2, 3, 4, 5, 6, 7, 8, 9, 10, 11, 12, 13, 14, 15, 16, 17, 18, 19, 20, 21, 22, 23, 24, 25, 26, 27, 28, 29, 30, 31, 32, 33], [33])])
def topiarylaw05_ChangeSames.B1 : List Nat := [0, 0, 3, 0, 0, 31, 63, 127, 255, 255, 767, 2047, 4095, 8191, 16383, 16383, 65535, 16383, 147455, 16383, 540671, 2097151, 4194303, 8388607, 16777215, 33554431, 67108863, 33554431, 268435455, 536870911, 1073741823, 2147483647, 4294967295, 8589934591, 17179869183]
theorem topiarylaw05_ChangeSames.tab1 : rtab .any (opsOf Tryz.f7 1) = topiarylaw05_ChangeSames.T1 := by kernel_rfl
theorem topiarylaw05_ChangeSames.bits1 : waitsOk topiarylaw05_ChangeSames.T1.2 topiarylaw05_ChangeSames.B1 = true := by kernel_rfl
set_option maxHeartbeats 8000000 in
set_option maxRecDepth 100000 in
theorem topiarylaw05_ChangeSames.calls (k : Nat) (a0_0 : Int) (a0_1 : Int) (a0_2 : Int) (A0_3 : Option Addr) (c0_3 : Nat) (l0_3 : List Int) (a0_4 : Int) (a0_5 : Int) (a0_6 : Int) (a0_7 : Int) (a0_8 : Int) (a0_9 : Int) (a0_10 : Int) (a0_11 : ByteArray) (a0_12 : ByteArray) (a1_0 : Int) (a1_1 : Int) (a1_2 : Int) (A1_3 : Option Addr) (c1_3 : Nat) (l1_3 : List Int) (a1_4 : Int) (a1_5 : Int) (a1_6 : Int) (a1_7 : Int) (a1_8 : Int) (a1_9 : Int) (a1_10 : Int) (a1_11 : ByteArray) (a1_12 : ByteArray) (w : World) (hr0_3 : Kd.C (Kd.int .i64) w A0_3 l0_3.length l0_3) (hc0_3 : l0_3.length ≤ c0_3) (hr1_3 : Kd.C (Kd.int .i64) w A1_3 l1_3.length l1_3) (hc1_3 : l1_3.length ≤ c1_3) (htab : TabW_ w) (h : topiarylaw05_ChangeSames.f k a0_0 a0_1 a0_2 l0_3 a0_4 a0_5 a0_6 a0_7 a0_8 a0_9 a0_10 a0_11 a0_12 a1_0 a1_1 a1_2 l1_3 a1_4 a1_5 a1_6 a1_7 a1_8 a1_9 a1_10 a1_11 a1_12 = some true) :
  Calls Tryz.prog 7 #[.agg #[.int .i64 a0_0, .int .i64 a0_1, .int .i64 a0_2, .slice A0_3 l0_3.length c0_3, .int .i64 a0_4, .int .i64 a0_5, .int .i64 a0_6, .int .i64 a0_7, .int .i64 a0_8, .int .i64 a0_9, .int .i64 a0_10, .string a0_11, .string a0_12], .agg #[.int .i64 a1_0, .int .i64 a1_1, .int .i64 a1_2, .slice A1_3 l1_3.length c1_3, .int .i64 a1_4, .int .i64 a1_5, .int .i64 a1_6, .int .i64 a1_7, .int .i64 a1_8, .int .i64 a1_9, .int .i64 a1_10, .string a1_11, .string a1_12]] w fun e w' => e = .returned (.bool true) ∧ Below w.heap.size w w' := by
 have HTAB := Aside0.mk htab
 clear htab
 have hu26 := Tryz.underlying26
 have hu23 := Tryz.underlying23
 have HR0_3 := Aside0.mk hr0_3
 have HC0_3 := Aside0.mk hc0_3
 clear hr0_3 hc0_3
 have HR1_3 := Aside0.mk hr1_3
 have HC1_3 := Aside0.mk hc1_3
 clear hr1_3 hc1_3
 have HB := Aside0.mk (Below.refl w.heap.size w)
 have H : ((change_Same.f k a0_0 a0_1 a0_2 l0_3 a0_4 a0_5 a0_6 a0_7 a0_8 a0_9 a0_10 a0_11 a0_12 a1_0 a1_1 a1_2 l1_3 a1_4 a1_5 a1_6 a1_7 a1_8 a1_9 a1_10 a1_11 a1_12).bind fun t373 => ((topiaryref05_Same.f k a0_0 a0_1 a0_2 l0_3 a0_4 a0_5 a0_6 a0_7 a0_8 a0_9 a0_10 a0_11 a0_12 a1_0 a1_1 a1_2 l1_3 a1_4 a1_5 a1_6 a1_7 a1_8 a1_9 a1_10 a1_11 a1_12).bind fun t374 => (if (t373 == t374) = true then ((topiaryref05_Copy.f a0_0 a0_1 a0_2 l0_3 a0_4 a0_5 a0_6 a0_7 a0_8 a0_9 a0_10 a0_11 a0_12).bind fun bt375 => ((change_Same.f k a0_0 a0_1 a0_2 l0_3 a0_4 a0_5 a0_6 a0_7 a0_8 a0_9 a0_10 a0_11 a0_12 bt375.1 bt375.2.1 bt375.2.2.1 bt375.2.2.2.1 bt375.2.2.2.2.1 bt375.2.2.2.2.2.1 bt375.2.2.2.2.2.2.1 bt375.2.2.2.2.2.2.2.1 bt375.2.2.2.2.2.2.2.2.1 bt375.2.2.2.2.2.2.2.2.2.1 bt375.2.2.2.2.2.2.2.2.2.2.1 bt375.2.2.2.2.2.2.2.2.2.2.2.1 bt375.2.2.2.2.2.2.2.2.2.2.2.2).bind fun t390 => (if t390 = true then ((change_Less.f a0_0 a0_1 a0_2 l0_3 a0_4 a0_5 a0_6 a0_7 a0_8 a0_9 a0_10 a0_11 a0_12 a1_0 a1_1 a1_2 l1_3 a1_4 a1_5 a1_6 a1_7 a1_8 a1_9 a1_10 a1_11 a1_12).bind fun t391 => ((topiaryref01_Less.f a0_0 a0_1 a1_0 a1_1).bind fun t392 => (if (t391 == t392) = true then ((change_Names.f k a0_0 a0_1 a0_2 l0_3 a0_4 a0_5 a0_6 a0_7 a0_8 a0_9 a0_10 a0_11 a0_12).bind fun t393 => ((topiaryref05_Names.f k a0_0 a0_1 a0_2 l0_3 a0_4 a0_5 a0_6 a0_7 a0_8 a0_9 a0_10 a0_11 a0_12).bind fun t396 => ((topiaryref01_Same.f k t393 t396).bind fun t399 => (if t399 = true then ((topiarylaw05_awake.f k).bind fun t400 => (some t400)) else (some false))))) else (some false)))) else (some false)))) else (some false)))) = some true := h
 clear h
 replace H := Option.bind_eq_some_iff.mp H
 obtain ⟨t373, A30, H⟩ := H
 have A3 := Aside0.mk A30
 clear A30
 replace H := Option.bind_eq_some_iff.mp H
 obtain ⟨t374, A40, H⟩ := H
 have A4 := Aside0.mk A40
 clear A40
 by_cases c5 : (t373 == t374) = true
 ·rw [if_pos c5] at H
  have c5b0 : (t373 == t374) = true := c5
  (try (have c5b1 : decide (t373 = t374) = true := by simpa using c5))
  (try (have c5b2 : (t373 == t374) = true := by simpa using c5))
  clear c5
  replace H := Option.bind_eq_some_iff.mp H
  obtain ⟨⟨t375, t376, t377, t378, t381, t382, t383, t384, t385, t386, t387, t388, t389⟩, A60, H⟩ := H
  (try dsimp only at H)
  have A6 := Aside0.mk A60
  clear A60
  replace H := Option.bind_eq_some_iff.mp H
  obtain ⟨t390, A70, H⟩ := H
  have A7 := Aside0.mk A70
  clear A70
  by_cases c8 : t390 = true
  ·subst c8
   have H1 : ((change_Less.f a0_0 a0_1 a0_2 l0_3 a0_4 a0_5 a0_6 a0_7 a0_8 a0_9 a0_10 a0_11 a0_12 a1_0 a1_1 a1_2 l1_3 a1_4 a1_5 a1_6 a1_7 a1_8 a1_9 a1_10 a1_11 a1_12).bind fun t391 => ((topiaryref01_Less.f a0_0 a0_1 a1_0 a1_1).bind fun t392 => (if (t391 == t392) = true then ((change_Names.f k a0_0 a0_1 a0_2 l0_3 a0_4 a0_5 a0_6 a0_7 a0_8 a0_9 a0_10 a0_11 a0_12).bind fun t393 => ((topiaryref05_Names.f k a0_0 a0_1 a0_2 l0_3 a0_4 a0_5 a0_6 a0_7 a0_8 a0_9 a0_10 a0_11 a0_12).bind fun t396 => ((topiaryref01_Same.f k t393 t396).bind fun t399 => (if t399 = true then ((topiarylaw05_awake.f k).bind fun t400 => (some t400)) else (some false))))) else (some false)))) = some true := by rw [if_pos rfl] at H; exact H
   clear H
   have H := H1
   clear H1
   replace H := Option.bind_eq_some_iff.mp H
   obtain ⟨t391, A90, H⟩ := H
   have A9 := Aside0.mk A90
   clear A90
   replace H := Option.bind_eq_some_iff.mp H
   obtain ⟨t392, A100, H⟩ := H
   have A10 := Aside0.mk A100
   clear A100
   by_cases c11 : (t391 == t392) = true
   ·rw [if_pos c11] at H
    have c11b0 : (t391 == t392) = true := c11
    (try (have c11b1 : decide (t391 = t392) = true := by simpa using c11))
    (try (have c11b2 : (t391 == t392) = true := by simpa using c11))
    clear c11
    replace H := Option.bind_eq_some_iff.mp H
    obtain ⟨t393, A120, H⟩ := H
    have A12 := Aside0.mk A120
    clear A120
    replace H := Option.bind_eq_some_iff.mp H
    obtain ⟨t396, A130, H⟩ := H
    have A13 := Aside0.mk A130
    clear A130
    replace H := Option.bind_eq_some_iff.mp H
    obtain ⟨t399, A140, H⟩ := H
    have A14 := Aside0.mk A140
    clear A140
    by_cases c15 : t399 = true
    ·subst c15
     have H1 : ((topiarylaw05_awake.f k).bind fun t400 => (some t400)) = some true := by rw [if_pos rfl] at H; exact H
     clear H
     have H := H1
     clear H1
     replace H := Option.bind_eq_some_iff.mp H
     obtain ⟨t400, A160, H⟩ := H
     replace H : (some t400) = some true := H
     have A16 := Aside0.mk A160
     clear A160
     obtain rfl := Option.some.inj H
     go_enter Tryz.func7, Tryz.ntmps7
     try go_wp2_with (first | ((with_reducible refine gate_dst (N := 2) rfl ?_); refine box_event ?hg (N := 2) ?hd (cs := #[.int .i64 a0_0, .int .i64 a0_1, .int .i64 a0_2, .slice A0_3 l0_3.length c0_3, .int .i64 a0_4, .int .i64 a0_5, .int .i64 a0_6, .int .i64 a0_7, .int .i64 a0_8, .int .i64 a0_9, .int .i64 a0_10, .string a0_11, .string a0_12]) (t := 26) ?hr ?_; (case hd => rfl); (case hg => rfl); (case hr => first | (go_simp; done) | (go_simp; rfl)); intro gb371 hg w17 hbox hb; have BK371 := Aside0.mk (hbox); have GW371 := Aside0.mk ((zq7_ : w.heap.size ≤ gb371)); have GE371 := Aside0.mk ((zq7_ : w.heap.size ≤ gb371)); replace HB := Aside0.mk (below_step zq0_ hb); clear hb hbox hg) | ((with_reducible refine gate_dst (N := 3) rfl ?_); refine box_event ?hg (N := 3) ?hd (cs := #[.int .i64 a1_0, .int .i64 a1_1, .int .i64 a1_2, .slice A1_3 l1_3.length c1_3, .int .i64 a1_4, .int .i64 a1_5, .int .i64 a1_6, .int .i64 a1_7, .int .i64 a1_8, .int .i64 a1_9, .int .i64 a1_10, .string a1_11, .string a1_12]) (t := 26) ?hr ?_; (case hd => rfl); (case hg => rfl); (case hr => first | (go_simp; done) | (go_simp; rfl)); intro gb372 hg w18 hbox hb; have BK372 := Aside0.mk (hbox); have GW372 := Aside0.mk ((zq46_ : w.heap.size ≤ gb372)); have GE372 := Aside0.mk ((zq46_ : w.heap.size ≤ gb372)); replace HB := Aside0.mk (below_step (zqB1_ GE371.out) hb); have NB371_372 := Aside0.mk (((by rw [hg]; exact Nat.ne_of_lt (blk_lt (zqK_ BK371.out))) : gb371 ≠ gb372)); have NB372_371 := Aside0.mk (((by rw [hg]; exact Nat.ne_of_gt (blk_lt (zqK_ BK371.out))) : gb372 ≠ gb371)); replace BK371 := Aside0.mk (blk_below (zqK_ BK371.out) hb); clear hb hbox hg))
     replace BK371 := Aside0.mk (blk_drew BK371.out)
     replace BK372 := Aside0.mk (blk_drew BK372.out)
     replace HB := Aside0.mk (below_drew1 HB.out)
     refine start_ (n := 35) (S := fun w' => w'.cell? ⟨gb371, 0, none⟩ = some (.int .i64 a0_0) ∧ w'.cell? ⟨gb371, 1, none⟩ = some (.int .i64 a0_1) ∧ w'.cell? ⟨gb371, 2, none⟩ = some (.int .i64 a0_2) ∧ w'.cell? ⟨gb371, 3, none⟩ = some (.slice A0_3 l0_3.length c0_3) ∧ w'.cell? ⟨gb371, 4, none⟩ = some (.int .i64 a0_4) ∧ w'.cell? ⟨gb371, 5, none⟩ = some (.int .i64 a0_5) ∧ w'.cell? ⟨gb371, 6, none⟩ = some (.int .i64 a0_6) ∧ w'.cell? ⟨gb371, 7, none⟩ = some (.int .i64 a0_7) ∧ w'.cell? ⟨gb371, 8, none⟩ = some (.int .i64 a0_8) ∧ w'.cell? ⟨gb371, 9, none⟩ = some (.int .i64 a0_9) ∧ w'.cell? ⟨gb371, 10, none⟩ = some (.int .i64 a0_10) ∧ w'.cell? ⟨gb371, 11, none⟩ = some (.string a0_11) ∧ w'.cell? ⟨gb371, 12, none⟩ = some (.string a0_12) ∧ w'.cell? ⟨gb372, 0, none⟩ = some (.int .i64 a1_0) ∧ w'.cell? ⟨gb372, 1, none⟩ = some (.int .i64 a1_1) ∧ w'.cell? ⟨gb372, 2, none⟩ = some (.int .i64 a1_2) ∧ w'.cell? ⟨gb372, 3, none⟩ = some (.slice A1_3 l1_3.length c1_3) ∧ w'.cell? ⟨gb372, 4, none⟩ = some (.int .i64 a1_4) ∧ w'.cell? ⟨gb372, 5, none⟩ = some (.int .i64 a1_5) ∧ w'.cell? ⟨gb372, 6, none⟩ = some (.int .i64 a1_6) ∧ w'.cell? ⟨gb372, 7, none⟩ = some (.int .i64 a1_7) ∧ w'.cell? ⟨gb372, 8, none⟩ = some (.int .i64 a1_8) ∧ w'.cell? ⟨gb372, 9, none⟩ = some (.int .i64 a1_9) ∧ w'.cell? ⟨gb372, 10, none⟩ = some (.int .i64 a1_10) ∧ w'.cell? ⟨gb372, 11, none⟩ = some (.string a1_11) ∧ w'.cell? ⟨gb372, 12, none⟩ = some (.string a1_12)) (ds := []) #[false, false, false, false, false, false, false, false, false, false, false, false, false, false, false, false, false, false, false, false, false, false, false, false, false, false, false, false, false, false, false, false, false, false, false] (by kernel_rfl) rfl rfl ⟨(blk_cell BK371.out 0).trans rfl, (blk_cell BK371.out 1).trans rfl, (blk_cell BK371.out 2).trans rfl, (blk_cell BK371.out 3).trans rfl, (blk_cell BK371.out 4).trans rfl, (blk_cell BK371.out 5).trans rfl, (blk_cell BK371.out 6).trans rfl, (blk_cell BK371.out 7).trans rfl, (blk_cell BK371.out 8).trans rfl, (blk_cell BK371.out 9).trans rfl, (blk_cell BK371.out 10).trans rfl, (blk_cell BK371.out 11).trans rfl, (blk_cell BK371.out 12).trans rfl, (blk_cell BK372.out 0).trans rfl, (blk_cell BK372.out 1).trans rfl, (blk_cell BK372.out 2).trans rfl, (blk_cell BK372.out 3).trans rfl, (blk_cell BK372.out 4).trans rfl, (blk_cell BK372.out 5).trans rfl, (blk_cell BK372.out 6).trans rfl, (blk_cell BK372.out 7).trans rfl, (blk_cell BK372.out 8).trans rfl, (blk_cell BK372.out 9).trans rfl, (blk_cell BK372.out 10).trans rfl, (blk_cell BK372.out 11).trans rfl, (blk_cell BK372.out 12).trans rfl⟩ (fun hHeld => ?_); refine with_tabW topiarylaw05_ChangeSames.tab1 topiarylaw05_ChangeSames.bits1 (fun HT_ HW_ => ?_)
     generalize w18.drew = w19 at BK371 BK372 HB hHeld ⊢
     refine zqt26_ 0 5 HT_ HW_ hHeld ?_
     refine zqt26_ 1 6 HT_ HW_ hHeld ?_
     refine zqt26_ 3 8 HT_ HW_ hHeld ?_
     refine zqt26_ 4 9 HT_ HW_ hHeld ?_
     refine zqo_ 2 7 HT_ (fun K hK => ?_)
     refine goes_ Tryz.func21 (by kernel_rfl) rfl #[.agg #[.int .i64 a0_0, .int .i64 a0_1, .int .i64 a0_2, .slice A0_3 l0_3.length c0_3, .int .i64 a0_4, .int .i64 a0_5, .int .i64 a0_6, .int .i64 a0_7, .int .i64 a0_8, .int .i64 a0_9, .int .i64 a0_10, .string a0_11, .string a0_12], .agg #[.int .i64 a1_0, .int .i64 a1_1, .int .i64 a1_2, .slice A1_3 l1_3.length c1_3, .int .i64 a1_4, .int .i64 a1_5, .int .i64 a1_6, .int .i64 a1_7, .int .i64 a1_8, .int .i64 a1_9, .int .i64 a1_10, .string a1_11, .string a1_12]] (by rfl) rfl rfl zq3_ ?_
     with_reducible refine (change_Same.calls k a0_0 a0_1 a0_2 _ _ l0_3 a0_4 a0_5 a0_6 a0_7 a0_8 a0_9 a0_10 a0_11 a0_12 a1_0 a1_1 a1_2 _ _ l1_3 a1_4 a1_5 a1_6 a1_7 a1_8 a1_9 a1_10 a1_11 a1_12 t373 _ ?side1 ?side2 ?side3 ?side4 A3.out).mono ?_
     (case side1 => repeat (first | exact (Kd.C_below HR0_3.out HB.out) | (with_reducible refine Kd.C_alloc ?_ _) | (with_reducible refine Kd.C_drewN ?_ _) | (with_reducible refine Kd.C_drew ?_)))
     (case side2 => exact HC0_3.out)
     (case side3 => repeat (first | exact (Kd.C_below HR1_3.out HB.out) | (with_reducible refine Kd.C_alloc ?_ _) | (with_reducible refine Kd.C_drewN ?_ _) | (with_reducible refine Kd.C_drew ?_)))
     (case side4 => exact HC1_3.out)
     rintro e w20 ⟨rfl, hb⟩
     refine ⟨_, rfl, ?_⟩
     replace BK371 := Aside0.mk (blk_below (zqK_ BK371.out) hb)
     replace BK372 := Aside0.mk (blk_below (zqK_ BK372.out) hb)
     replace HB := Aside0.mk (below_step (zqB2_ GE371.out GE372.out) hb)
     (try clear hb)
     (try clear hb2)
     (try clear hk)
     (try clear hi)
     refine hK.out _ _ ⟨(blk_cell BK371.out 0).trans rfl, (blk_cell BK371.out 1).trans rfl, (blk_cell BK371.out 2).trans rfl, (blk_cell BK371.out 3).trans rfl, (blk_cell BK371.out 4).trans rfl, (blk_cell BK371.out 5).trans rfl, (blk_cell BK371.out 6).trans rfl, (blk_cell BK371.out 7).trans rfl, (blk_cell BK371.out 8).trans rfl, (blk_cell BK371.out 9).trans rfl, (blk_cell BK371.out 10).trans rfl, (blk_cell BK371.out 11).trans rfl, (blk_cell BK371.out 12).trans rfl, (blk_cell BK372.out 0).trans rfl, (blk_cell BK372.out 1).trans rfl, (blk_cell BK372.out 2).trans rfl, (blk_cell BK372.out 3).trans rfl, (blk_cell BK372.out 4).trans rfl, (blk_cell BK372.out 5).trans rfl, (blk_cell BK372.out 6).trans rfl, (blk_cell BK372.out 7).trans rfl, (blk_cell BK372.out 8).trans rfl, (blk_cell BK372.out 9).trans rfl, (blk_cell BK372.out 10).trans rfl, (blk_cell BK372.out 11).trans rfl, (blk_cell BK372.out 12).trans rfl⟩ (fun hHeld => ?_)
     clear hK K
     refine norm_ (a' := ?_) ?_ ?_
     rotate_left
     ·show Act.put _ (some 7) _ = _
      simp only [Act.put, List.setIfInBounds_toArray, List.set_cons_zero, List.set_cons_succ, i64_w, i32_w]
      rfl
     refine zqo_ 5 10 HT_ (fun K hK => ?_)
     refine goes_ Tryz.func18 (by kernel_rfl) rfl #[.agg #[.int .i64 a0_0, .int .i64 a0_1, .int .i64 a0_2, .slice A0_3 l0_3.length c0_3, .int .i64 a0_4, .int .i64 a0_5, .int .i64 a0_6, .int .i64 a0_7, .int .i64 a0_8, .int .i64 a0_9, .int .i64 a0_10, .string a0_11, .string a0_12], .agg #[.int .i64 a1_0, .int .i64 a1_1, .int .i64 a1_2, .slice A1_3 l1_3.length c1_3, .int .i64 a1_4, .int .i64 a1_5, .int .i64 a1_6, .int .i64 a1_7, .int .i64 a1_8, .int .i64 a1_9, .int .i64 a1_10, .string a1_11, .string a1_12]] (by rfl) rfl rfl zq3_ ?_
     with_reducible refine (topiaryref05_Same.calls k a0_0 a0_1 a0_2 _ _ l0_3 a0_4 a0_5 a0_6 a0_7 a0_8 a0_9 a0_10 a0_11 a0_12 a1_0 a1_1 a1_2 _ _ l1_3 a1_4 a1_5 a1_6 a1_7 a1_8 a1_9 a1_10 a1_11 a1_12 t374 _ ?side1 ?side2 ?side3 ?side4 A4.out).mono ?_
     (case side1 => repeat (first | exact (Kd.C_below HR0_3.out HB.out) | (with_reducible refine Kd.C_alloc ?_ _) | (with_reducible refine Kd.C_drewN ?_ _) | (with_reducible refine Kd.C_drew ?_)))
     (case side2 => exact HC0_3.out)
     (case side3 => repeat (first | exact (Kd.C_below HR1_3.out HB.out) | (with_reducible refine Kd.C_alloc ?_ _) | (with_reducible refine Kd.C_drewN ?_ _) | (with_reducible refine Kd.C_drew ?_)))
     (case side4 => exact HC1_3.out)
     rintro e w21 ⟨rfl, hb⟩
     refine ⟨_, rfl, ?_⟩
     replace BK371 := Aside0.mk (blk_below (zqK_ BK371.out) hb)
     replace BK372 := Aside0.mk (blk_below (zqK_ BK372.out) hb)
     replace HB := Aside0.mk (below_step (zqB2_ GE371.out GE372.out) hb)
     (try clear hb)
     (try clear hb2)
     (try clear hk)
     (try clear hi)
     refine hK.out _ _ ⟨(blk_cell BK371.out 0).trans rfl, (blk_cell BK371.out 1).trans rfl, (blk_cell BK371.out 2).trans rfl, (blk_cell BK371.out 3).trans rfl, (blk_cell BK371.out 4).trans rfl, (blk_cell BK371.out 5).trans rfl, (blk_cell BK371.out 6).trans rfl, (blk_cell BK371.out 7).trans rfl, (blk_cell BK371.out 8).trans rfl, (blk_cell BK371.out 9).trans rfl, (blk_cell BK371.out 10).trans rfl, (blk_cell BK371.out 11).trans rfl, (blk_cell BK371.out 12).trans rfl, (blk_cell BK372.out 0).trans rfl, (blk_cell BK372.out 1).trans rfl, (blk_cell BK372.out 2).trans rfl, (blk_cell BK372.out 3).trans rfl, (blk_cell BK372.out 4).trans rfl, (blk_cell BK372.out 5).trans rfl, (blk_cell BK372.out 6).trans rfl, (blk_cell BK372.out 7).trans rfl, (blk_cell BK372.out 8).trans rfl, (blk_cell BK372.out 9).trans rfl, (blk_cell BK372.out 10).trans rfl, (blk_cell BK372.out 11).trans rfl, (blk_cell BK372.out 12).trans rfl⟩ (fun hHeld => ?_)
     clear hK K
     refine norm_ (a' := ?_) ?_ ?_
     rotate_left
     ·show Act.put _ (some 10) _ = _
      simp only [Act.put, List.setIfInBounds_toArray, List.set_cons_zero, List.set_cons_succ, i64_w, i32_w]
      rfl
     refine zqp_ 6 11 HT_ ?_
     refine zqp_ 7 12 HT_ ?_
     refine zqt26_ 8 13 HT_ HW_ hHeld ?_
     refine zqt26_ 9 14 HT_ HW_ hHeld ?_
     refine zqo_ 10 15 HT_ (fun K hK => ?_)
     refine goes_ Tryz.func9 (by kernel_rfl) rfl #[.agg #[.int .i64 a0_0, .int .i64 a0_1, .int .i64 a0_2, .slice A0_3 l0_3.length c0_3, .int .i64 a0_4, .int .i64 a0_5, .int .i64 a0_6, .int .i64 a0_7, .int .i64 a0_8, .int .i64 a0_9, .int .i64 a0_10, .string a0_11, .string a0_12]] (by rfl) rfl rfl zq3_ ?_
     with_reducible refine (topiaryref05_Copy.calls a0_0 a0_1 a0_2 _ _ l0_3 a0_4 a0_5 a0_6 a0_7 a0_8 a0_9 a0_10 a0_11 a0_12 t375 t376 t377 t378 t381 t382 t383 t384 t385 t386 t387 t388 t389 _ ?side1 ?side2 A6.out).mono ?_
     (case side1 => repeat (first | exact (Kd.C_below HR0_3.out HB.out) | (with_reducible refine Kd.C_alloc ?_ _) | (with_reducible refine Kd.C_drewN ?_ _) | (with_reducible refine Kd.C_drew ?_)))
     (case side2 => exact HC0_3.out)
     rintro e w22 ⟨v379, rfl, ho0, hb⟩
     refine ⟨_, rfl, ?_⟩
     have HO380 := Aside0.mk (Kd.R_lower ho0 (below_size (zqB2_ GE371.out GE372.out)))
     replace BK371 := Aside0.mk (blk_below (zqK_ BK371.out) hb)
     replace BK372 := Aside0.mk (blk_below (zqK_ BK372.out) hb)
     replace HB := Aside0.mk (below_step (zqB2_ GE371.out GE372.out) hb)
     (try clear hb)
     (try clear hb2)
     (try clear hk)
     (try clear hi)
     (try clear ho0)
     obtain ⟨Ao23, co23, eo23⟩ := Kd.R_slice HO380.out
     (first | subst eo23 | (injection eo23 with f1_ f2_ f3_; have f4_ := f1_.symm; have f5_ := f3_.symm; clear f1_ f2_ f3_; subst f4_; subst f5_))
     refine hK.out _ _ ⟨(blk_cell BK371.out 0).trans rfl, (blk_cell BK371.out 1).trans rfl, (blk_cell BK371.out 2).trans rfl, (blk_cell BK371.out 3).trans rfl, (blk_cell BK371.out 4).trans rfl, (blk_cell BK371.out 5).trans rfl, (blk_cell BK371.out 6).trans rfl, (blk_cell BK371.out 7).trans rfl, (blk_cell BK371.out 8).trans rfl, (blk_cell BK371.out 9).trans rfl, (blk_cell BK371.out 10).trans rfl, (blk_cell BK371.out 11).trans rfl, (blk_cell BK371.out 12).trans rfl, (blk_cell BK372.out 0).trans rfl, (blk_cell BK372.out 1).trans rfl, (blk_cell BK372.out 2).trans rfl, (blk_cell BK372.out 3).trans rfl, (blk_cell BK372.out 4).trans rfl, (blk_cell BK372.out 5).trans rfl, (blk_cell BK372.out 6).trans rfl, (blk_cell BK372.out 7).trans rfl, (blk_cell BK372.out 8).trans rfl, (blk_cell BK372.out 9).trans rfl, (blk_cell BK372.out 10).trans rfl, (blk_cell BK372.out 11).trans rfl, (blk_cell BK372.out 12).trans rfl⟩ (fun hHeld => ?_)
     clear hK K
     refine norm_ (a' := ?_) ?_ ?_
     rotate_left
     ·show Act.put _ (some 15) _ = _
      simp only [Act.put, List.setIfInBounds_toArray, List.set_cons_zero, List.set_cons_succ, i64_w, i32_w]
      rfl
     refine zqo_ 11 16 HT_ (fun K hK => ?_)
     refine goes_ Tryz.func21 (by kernel_rfl) rfl #[.agg #[.int .i64 a0_0, .int .i64 a0_1, .int .i64 a0_2, .slice A0_3 l0_3.length c0_3, .int .i64 a0_4, .int .i64 a0_5, .int .i64 a0_6, .int .i64 a0_7, .int .i64 a0_8, .int .i64 a0_9, .int .i64 a0_10, .string a0_11, .string a0_12], .agg #[.int .i64 t375, .int .i64 t376, .int .i64 t377, .slice Ao23 t378.length co23, .int .i64 t381, .int .i64 t382, .int .i64 t383, .int .i64 t384, .int .i64 t385, .int .i64 t386, .int .i64 t387, .string t388, .string t389]] (by rfl) rfl rfl zq3_ ?_
     with_reducible refine (change_Same.calls k a0_0 a0_1 a0_2 _ _ l0_3 a0_4 a0_5 a0_6 a0_7 a0_8 a0_9 a0_10 a0_11 a0_12 t375 t376 t377 _ _ t378 t381 t382 t383 t384 t385 t386 t387 t388 t389 true _ ?side1 ?side2 ?side3 ?side4 A7.out).mono ?_
     (case side1 => repeat (first | exact (Kd.C_below HR0_3.out HB.out) | (with_reducible refine Kd.C_alloc ?_ _) | (with_reducible refine Kd.C_drewN ?_ _) | (with_reducible refine Kd.C_drew ?_)))
     (case side2 => exact HC0_3.out)
     (case side3 => repeat (first | exact (Kd.R_reads' HO380.out).2.2 | (with_reducible refine Kd.C_alloc ?_ _) | (with_reducible refine Kd.C_drewN ?_ _) | (with_reducible refine Kd.C_drew ?_)))
     (case side4 => exact (Kd.R_reads' HO380.out).2.1)
     rintro e w24 ⟨rfl, hb⟩
     refine ⟨_, rfl, ?_⟩
     replace HO380 := Aside0.mk (Kd.R_below zq15_ hb)
     replace BK371 := Aside0.mk (blk_below (zqK_ BK371.out) hb)
     replace BK372 := Aside0.mk (blk_below (zqK_ BK372.out) hb)
     replace HB := Aside0.mk (below_step (zqB2_ GE371.out GE372.out) hb)
     (try clear hb)
     (try clear hb2)
     (try clear hk)
     (try clear hi)
     refine hK.out _ _ ⟨(blk_cell BK371.out 0).trans rfl, (blk_cell BK371.out 1).trans rfl, (blk_cell BK371.out 2).trans rfl, (blk_cell BK371.out 3).trans rfl, (blk_cell BK371.out 4).trans rfl, (blk_cell BK371.out 5).trans rfl, (blk_cell BK371.out 6).trans rfl, (blk_cell BK371.out 7).trans rfl, (blk_cell BK371.out 8).trans rfl, (blk_cell BK371.out 9).trans rfl, (blk_cell BK371.out 10).trans rfl, (blk_cell BK371.out 11).trans rfl, (blk_cell BK371.out 12).trans rfl, (blk_cell BK372.out 0).trans rfl, (blk_cell BK372.out 1).trans rfl, (blk_cell BK372.out 2).trans rfl, (blk_cell BK372.out 3).trans rfl, (blk_cell BK372.out 4).trans rfl, (blk_cell BK372.out 5).trans rfl, (blk_cell BK372.out 6).trans rfl, (blk_cell BK372.out 7).trans rfl, (blk_cell BK372.out 8).trans rfl, (blk_cell BK372.out 9).trans rfl, (blk_cell BK372.out 10).trans rfl, (blk_cell BK372.out 11).trans rfl, (blk_cell BK372.out 12).trans rfl⟩ (fun hHeld => ?_)
     clear hK K
     refine norm_ (a' := ?_) ?_ ?_
     rotate_left
     ·show Act.put _ (some 16) _ = _
      simp only [Act.put, List.setIfInBounds_toArray, List.set_cons_zero, List.set_cons_succ, i64_w, i32_w]
      rfl
     refine zqp_ 12 17 HT_ ?_
     refine zqp_ 13 18 HT_ ?_
     refine zqp_ 17 22 HT_ ?_
     refine zqp_ 19 24 HT_ ?_
     refine zqt26_ 14 19 HT_ HW_ hHeld ?_
     refine zqt26_ 15 20 HT_ HW_ hHeld ?_
     refine zqt26_ 18 23 HT_ HW_ hHeld ?_
     refine zqt26_ 20 25 HT_ HW_ hHeld ?_
     refine zqo_ 16 21 HT_ (fun K hK => ?_)
     refine goes_ Tryz.func22 (by kernel_rfl) rfl #[.agg #[.int .i64 a0_0, .int .i64 a0_1, .int .i64 a0_2, .slice A0_3 l0_3.length c0_3, .int .i64 a0_4, .int .i64 a0_5, .int .i64 a0_6, .int .i64 a0_7, .int .i64 a0_8, .int .i64 a0_9, .int .i64 a0_10, .string a0_11, .string a0_12], .agg #[.int .i64 a1_0, .int .i64 a1_1, .int .i64 a1_2, .slice A1_3 l1_3.length c1_3, .int .i64 a1_4, .int .i64 a1_5, .int .i64 a1_6, .int .i64 a1_7, .int .i64 a1_8, .int .i64 a1_9, .int .i64 a1_10, .string a1_11, .string a1_12]] (by rfl) rfl rfl zq3_ ?_
     with_reducible refine (change_Less.calls a0_0 a0_1 a0_2 _ _ l0_3 a0_4 a0_5 a0_6 a0_7 a0_8 a0_9 a0_10 a0_11 a0_12 a1_0 a1_1 a1_2 _ _ l1_3 a1_4 a1_5 a1_6 a1_7 a1_8 a1_9 a1_10 a1_11 a1_12 t391 _ ?side1 ?side2 ?side3 ?side4 A9.out).mono ?_
     (case side1 => repeat (first | exact (Kd.C_below HR0_3.out HB.out) | (with_reducible refine Kd.C_alloc ?_ _) | (with_reducible refine Kd.C_drewN ?_ _) | (with_reducible refine Kd.C_drew ?_)))
     (case side2 => exact HC0_3.out)
     (case side3 => repeat (first | exact (Kd.C_below HR1_3.out HB.out) | (with_reducible refine Kd.C_alloc ?_ _) | (with_reducible refine Kd.C_drewN ?_ _) | (with_reducible refine Kd.C_drew ?_)))
     (case side4 => exact HC1_3.out)
     rintro e w25 ⟨rfl, hb⟩
     refine ⟨_, rfl, ?_⟩
     replace HO380 := Aside0.mk (Kd.R_below zq15_ hb)
     replace BK371 := Aside0.mk (blk_below (zqK_ BK371.out) hb)
     replace BK372 := Aside0.mk (blk_below (zqK_ BK372.out) hb)
     replace HB := Aside0.mk (below_step (zqB2_ GE371.out GE372.out) hb)
     (try clear hb)
     (try clear hb2)
     (try clear hk)
     (try clear hi)
     refine hK.out _ _ ⟨(blk_cell BK371.out 0).trans rfl, (blk_cell BK371.out 1).trans rfl, (blk_cell BK371.out 2).trans rfl, (blk_cell BK371.out 3).trans rfl, (blk_cell BK371.out 4).trans rfl, (blk_cell BK371.out 5).trans rfl, (blk_cell BK371.out 6).trans rfl, (blk_cell BK371.out 7).trans rfl, (blk_cell BK371.out 8).trans rfl, (blk_cell BK371.out 9).trans rfl, (blk_cell BK371.out 10).trans rfl, (blk_cell BK371.out 11).trans rfl, (blk_cell BK371.out 12).trans rfl, (blk_cell BK372.out 0).trans rfl, (blk_cell BK372.out 1).trans rfl, (blk_cell BK372.out 2).trans rfl, (blk_cell BK372.out 3).trans rfl, (blk_cell BK372.out 4).trans rfl, (blk_cell BK372.out 5).trans rfl, (blk_cell BK372.out 6).trans rfl, (blk_cell BK372.out 7).trans rfl, (blk_cell BK372.out 8).trans rfl, (blk_cell BK372.out 9).trans rfl, (blk_cell BK372.out 10).trans rfl, (blk_cell BK372.out 11).trans rfl, (blk_cell BK372.out 12).trans rfl⟩ (fun hHeld => ?_)
     clear hK K
     refine norm_ (a' := ?_) ?_ ?_
     rotate_left
     ·show Act.put _ (some 21) _ = _
      simp only [Act.put, List.setIfInBounds_toArray, List.set_cons_zero, List.set_cons_succ, i64_w, i32_w]
      rfl
     refine zqo_ 21 26 HT_ (fun K hK => ?_)
     refine goes_ Tryz.func20 (by kernel_rfl) rfl #[.agg #[.int .i64 a0_0, .int .i64 a0_1], .agg #[.int .i64 a1_0, .int .i64 a1_1]] (by rfl) rfl rfl zq3_ ?_
     with_reducible refine (topiaryref01_Less.calls a0_0 a0_1 a1_0 a1_1 t392 _ A10.out).mono ?_
     rintro e w26 ⟨rfl, hb⟩
     refine ⟨_, rfl, ?_⟩
     replace HO380 := Aside0.mk (Kd.R_below zq15_ hb)
     replace BK371 := Aside0.mk (blk_below (zqK_ BK371.out) hb)
     replace BK372 := Aside0.mk (blk_below (zqK_ BK372.out) hb)
     replace HB := Aside0.mk (below_step (zqB2_ GE371.out GE372.out) hb)
     (try clear hb)
     (try clear hb2)
     (try clear hk)
     (try clear hi)
     refine hK.out _ _ ⟨(blk_cell BK371.out 0).trans rfl, (blk_cell BK371.out 1).trans rfl, (blk_cell BK371.out 2).trans rfl, (blk_cell BK371.out 3).trans rfl, (blk_cell BK371.out 4).trans rfl, (blk_cell BK371.out 5).trans rfl, (blk_cell BK371.out 6).trans rfl, (blk_cell BK371.out 7).trans rfl, (blk_cell BK371.out 8).trans rfl, (blk_cell BK371.out 9).trans rfl, (blk_cell BK371.out 10).trans rfl, (blk_cell BK371.out 11).trans rfl, (blk_cell BK371.out 12).trans rfl, (blk_cell BK372.out 0).trans rfl, (blk_cell BK372.out 1).trans rfl, (blk_cell BK372.out 2).trans rfl, (blk_cell BK372.out 3).trans rfl, (blk_cell BK372.out 4).trans rfl, (blk_cell BK372.out 5).trans rfl, (blk_cell BK372.out 6).trans rfl, (blk_cell BK372.out 7).trans rfl, (blk_cell BK372.out 8).trans rfl, (blk_cell BK372.out 9).trans rfl, (blk_cell BK372.out 10).trans rfl, (blk_cell BK372.out 11).trans rfl, (blk_cell BK372.out 12).trans rfl⟩ (fun hHeld => ?_)
     clear hK K
     refine norm_ (a' := ?_) ?_ ?_
     rotate_left
     ·show Act.put _ (some 26) _ = _
      simp only [Act.put, List.setIfInBounds_toArray, List.set_cons_zero, List.set_cons_succ, i64_w, i32_w]
      rfl
     refine zqp_ 22 27 HT_ ?_
     refine zqp_ 23 28 HT_ ?_
     refine zqp_ 24 29 HT_ ?_
     refine zqt26_ 25 30 HT_ HW_ hHeld ?_
     refine zqt26_ 27 32 HT_ HW_ hHeld ?_
     refine zqo_ 26 31 HT_ (fun K hK => ?_)
     refine goes_ Tryz.func19 (by kernel_rfl) rfl #[.agg #[.int .i64 a0_0, .int .i64 a0_1, .int .i64 a0_2, .slice A0_3 l0_3.length c0_3, .int .i64 a0_4, .int .i64 a0_5, .int .i64 a0_6, .int .i64 a0_7, .int .i64 a0_8, .int .i64 a0_9, .int .i64 a0_10, .string a0_11, .string a0_12]] (by rfl) rfl rfl zq3_ ?_
     with_reducible refine (change_Names.calls k a0_0 a0_1 a0_2 _ _ l0_3 a0_4 a0_5 a0_6 a0_7 a0_8 a0_9 a0_10 a0_11 a0_12 t393 _ ?side1 ?side2 A12.out).mono ?_
     (case side1 => repeat (first | exact (Kd.C_below HR0_3.out HB.out) | (with_reducible refine Kd.C_alloc ?_ _) | (with_reducible refine Kd.C_drewN ?_ _) | (with_reducible refine Kd.C_drew ?_)))
     (case side2 => exact HC0_3.out)
     rintro e w27 ⟨v394, rfl, ho0, hb⟩
     refine ⟨_, rfl, ?_⟩
     replace HO380 := Aside0.mk (Kd.R_below zq15_ hb)
     have HO395 := Aside0.mk (Kd.R_lower ho0 (below_size (zqB2_ GE371.out GE372.out)))
     replace BK371 := Aside0.mk (blk_below (zqK_ BK371.out) hb)
     replace BK372 := Aside0.mk (blk_below (zqK_ BK372.out) hb)
     replace HB := Aside0.mk (below_step (zqB2_ GE371.out GE372.out) hb)
     (try clear hb)
     (try clear hb2)
     (try clear hk)
     (try clear hi)
     (try clear ho0)
     refine hK.out _ _ ⟨(blk_cell BK371.out 0).trans rfl, (blk_cell BK371.out 1).trans rfl, (blk_cell BK371.out 2).trans rfl, (blk_cell BK371.out 3).trans rfl, (blk_cell BK371.out 4).trans rfl, (blk_cell BK371.out 5).trans rfl, (blk_cell BK371.out 6).trans rfl, (blk_cell BK371.out 7).trans rfl, (blk_cell BK371.out 8).trans rfl, (blk_cell BK371.out 9).trans rfl, (blk_cell BK371.out 10).trans rfl, (blk_cell BK371.out 11).trans rfl, (blk_cell BK371.out 12).trans rfl, (blk_cell BK372.out 0).trans rfl, (blk_cell BK372.out 1).trans rfl, (blk_cell BK372.out 2).trans rfl, (blk_cell BK372.out 3).trans rfl, (blk_cell BK372.out 4).trans rfl, (blk_cell BK372.out 5).trans rfl, (blk_cell BK372.out 6).trans rfl, (blk_cell BK372.out 7).trans rfl, (blk_cell BK372.out 8).trans rfl, (blk_cell BK372.out 9).trans rfl, (blk_cell BK372.out 10).trans rfl, (blk_cell BK372.out 11).trans rfl, (blk_cell BK372.out 12).trans rfl⟩ (fun hHeld => ?_)
     clear hK K
     refine norm_ (a' := ?_) ?_ ?_
     rotate_left
     ·show Act.put _ (some 31) _ = _
      simp only [Act.put, List.setIfInBounds_toArray, List.set_cons_zero, List.set_cons_succ, i64_w, i32_w]
      rfl
     refine zqo_ 28 33 HT_ (fun K hK => ?_)
     refine goes_ Tryz.func24 (by kernel_rfl) rfl #[.agg #[.int .i64 a0_0, .int .i64 a0_1, .int .i64 a0_2, .slice A0_3 l0_3.length c0_3, .int .i64 a0_4, .int .i64 a0_5, .int .i64 a0_6, .int .i64 a0_7, .int .i64 a0_8, .int .i64 a0_9, .int .i64 a0_10, .string a0_11, .string a0_12]] (by rfl) rfl rfl zq3_ ?_
     with_reducible refine (topiaryref05_Names.calls k a0_0 a0_1 a0_2 _ _ l0_3 a0_4 a0_5 a0_6 a0_7 a0_8 a0_9 a0_10 a0_11 a0_12 t396 _ ?side1 ?side2 A13.out).mono ?_
     (case side1 => repeat (first | exact (Kd.C_below HR0_3.out HB.out) | (with_reducible refine Kd.C_alloc ?_ _) | (with_reducible refine Kd.C_drewN ?_ _) | (with_reducible refine Kd.C_drew ?_)))
     (case side2 => exact HC0_3.out)
     rintro e w28 ⟨v397, rfl, ho0, hb⟩
     refine ⟨_, rfl, ?_⟩
     replace HO380 := Aside0.mk (Kd.R_below zq15_ hb)
     have HO398 := Aside0.mk (Kd.R_lower (Kd.R_new' ho0 (Kd.R_lt zq43_)) (below_size (zqB2_ GE371.out GE372.out)))
     replace HO395 := Aside0.mk (Kd.R_elder' zq43_ (Kd.R_base ho0) hb)
     replace BK371 := Aside0.mk (blk_below (zqK_ BK371.out) hb)
     replace BK372 := Aside0.mk (blk_below (zqK_ BK372.out) hb)
     replace HB := Aside0.mk (below_step (zqB2_ GE371.out GE372.out) hb)
     (try clear hb)
     (try clear hb2)
     (try clear hk)
     (try clear hi)
     (try clear ho0)
     obtain ⟨Ao29, co29, eo29⟩ := Kd.R_slice HO395.out
     (first | subst eo29 | (injection eo29 with f1_ f2_ f3_; have f4_ := f1_.symm; have f5_ := f3_.symm; clear f1_ f2_ f3_; subst f4_; subst f5_))
     obtain ⟨Ao30, co30, eo30⟩ := Kd.R_slice HO398.out
     (first | subst eo30 | (injection eo30 with f1_ f2_ f3_; have f4_ := f1_.symm; have f5_ := f3_.symm; clear f1_ f2_ f3_; subst f4_; subst f5_))
     refine hK.out _ _ ⟨(blk_cell BK371.out 0).trans rfl, (blk_cell BK371.out 1).trans rfl, (blk_cell BK371.out 2).trans rfl, (blk_cell BK371.out 3).trans rfl, (blk_cell BK371.out 4).trans rfl, (blk_cell BK371.out 5).trans rfl, (blk_cell BK371.out 6).trans rfl, (blk_cell BK371.out 7).trans rfl, (blk_cell BK371.out 8).trans rfl, (blk_cell BK371.out 9).trans rfl, (blk_cell BK371.out 10).trans rfl, (blk_cell BK371.out 11).trans rfl, (blk_cell BK371.out 12).trans rfl, (blk_cell BK372.out 0).trans rfl, (blk_cell BK372.out 1).trans rfl, (blk_cell BK372.out 2).trans rfl, (blk_cell BK372.out 3).trans rfl, (blk_cell BK372.out 4).trans rfl, (blk_cell BK372.out 5).trans rfl, (blk_cell BK372.out 6).trans rfl, (blk_cell BK372.out 7).trans rfl, (blk_cell BK372.out 8).trans rfl, (blk_cell BK372.out 9).trans rfl, (blk_cell BK372.out 10).trans rfl, (blk_cell BK372.out 11).trans rfl, (blk_cell BK372.out 12).trans rfl⟩ (fun hHeld => ?_)
     clear hK K
     refine norm_ (a' := ?_) ?_ ?_
     rotate_left
     ·show Act.put _ (some 33) _ = _
      simp only [Act.put, List.setIfInBounds_toArray, List.set_cons_zero, List.set_cons_succ, i64_w, i32_w]
      rfl
     refine zqo_ 29 34 HT_ (fun K hK => ?_)
     refine goes_ Tryz.func23 (by kernel_rfl) rfl #[.slice Ao29 t393.length co29, .slice Ao30 t396.length co30] (by rfl) rfl rfl zq3_ ?_
     with_reducible refine (topiaryref01_Same.calls k _ _ t393 _ _ t396 true _ ?side1 ?side2 ?side3 ?side4 A14.out).mono ?_
     (case side1 => repeat (first | exact (Kd.R_reads' HO395.out).2.2 | (with_reducible refine Kd.C_alloc ?_ _) | (with_reducible refine Kd.C_drewN ?_ _) | (with_reducible refine Kd.C_drew ?_)))
     (case side2 => exact (Kd.R_reads' HO395.out).2.1)
     (case side3 => repeat (first | exact (Kd.R_reads' HO398.out).2.2 | (with_reducible refine Kd.C_alloc ?_ _) | (with_reducible refine Kd.C_drewN ?_ _) | (with_reducible refine Kd.C_drew ?_)))
     (case side4 => exact (Kd.R_reads' HO398.out).2.1)
     rintro e w' ⟨rfl, ⟨nd, rfl⟩⟩
     refine ⟨_, rfl, ?_⟩
     refine hK.out _ _ ⟨(blk_cell BK371.out 0).trans rfl, (blk_cell BK371.out 1).trans rfl, (blk_cell BK371.out 2).trans rfl, (blk_cell BK371.out 3).trans rfl, (blk_cell BK371.out 4).trans rfl, (blk_cell BK371.out 5).trans rfl, (blk_cell BK371.out 6).trans rfl, (blk_cell BK371.out 7).trans rfl, (blk_cell BK371.out 8).trans rfl, (blk_cell BK371.out 9).trans rfl, (blk_cell BK371.out 10).trans rfl, (blk_cell BK371.out 11).trans rfl, (blk_cell BK371.out 12).trans rfl, (blk_cell BK372.out 0).trans rfl, (blk_cell BK372.out 1).trans rfl, (blk_cell BK372.out 2).trans rfl, (blk_cell BK372.out 3).trans rfl, (blk_cell BK372.out 4).trans rfl, (blk_cell BK372.out 5).trans rfl, (blk_cell BK372.out 6).trans rfl, (blk_cell BK372.out 7).trans rfl, (blk_cell BK372.out 8).trans rfl, (blk_cell BK372.out 9).trans rfl, (blk_cell BK372.out 10).trans rfl, (blk_cell BK372.out 11).trans rfl, (blk_cell BK372.out 12).trans rfl⟩ (fun hHeld => ?_)
     clear hK K
     refine norm_ (a' := ?_) ?_ ?_
     rotate_left
     ·show Act.put _ (some 34) _ = _
      simp only [Act.put, List.setIfInBounds_toArray, List.set_cons_zero, List.set_cons_succ, i64_w, i32_w]
      rfl
     refine zqp_ 30 35 HT_ ?_
     refine zqp_ 31 36 HT_ ?_
     refine zqo_ 32 37 HT_ (fun K hK => ?_)
     refine goes_ Tryz.func13 (by kernel_rfl) rfl #[] (by rfl) rfl rfl zq3_ ?_
     with_reducible refine (topiarylaw05_awake.calls k  true _ (tabW_below_ HTAB.out zq0_) A16.out).mono ?_
     rintro e w31 ⟨rfl, hb⟩
     refine ⟨_, rfl, ?_⟩
     replace HO380 := Aside0.mk (Kd.R_below zq15_ hb)
     replace HO395 := Aside0.mk (Kd.R_below zq43_ hb)
     replace HO398 := Aside0.mk (Kd.R_below (by (with_reducible repeat (first | apply Kd.R_alloc | apply Kd.R_drewN | apply Kd.R_drew)); exact HO398.out) hb)
     replace BK371 := Aside0.mk (blk_below (zqK_ BK371.out) hb)
     replace BK372 := Aside0.mk (blk_below (zqK_ BK372.out) hb)
     replace HB := Aside0.mk (below_step (zqB2_ GE371.out GE372.out) hb)
     (try clear hb)
     (try clear hb2)
     (try clear hk)
     (try clear hi)
     refine hK.out _ _ ⟨(blk_cell BK371.out 0).trans rfl, (blk_cell BK371.out 1).trans rfl, (blk_cell BK371.out 2).trans rfl, (blk_cell BK371.out 3).trans rfl, (blk_cell BK371.out 4).trans rfl, (blk_cell BK371.out 5).trans rfl, (blk_cell BK371.out 6).trans rfl, (blk_cell BK371.out 7).trans rfl, (blk_cell BK371.out 8).trans rfl, (blk_cell BK371.out 9).trans rfl, (blk_cell BK371.out 10).trans rfl, (blk_cell BK371.out 11).trans rfl, (blk_cell BK371.out 12).trans rfl, (blk_cell BK372.out 0).trans rfl, (blk_cell BK372.out 1).trans rfl, (blk_cell BK372.out 2).trans rfl, (blk_cell BK372.out 3).trans rfl, (blk_cell BK372.out 4).trans rfl, (blk_cell BK372.out 5).trans rfl, (blk_cell BK372.out 6).trans rfl, (blk_cell BK372.out 7).trans rfl, (blk_cell BK372.out 8).trans rfl, (blk_cell BK372.out 9).trans rfl, (blk_cell BK372.out 10).trans rfl, (blk_cell BK372.out 11).trans rfl, (blk_cell BK372.out 12).trans rfl⟩ (fun hHeld => ?_)
     clear hK K
     refine norm_ (a' := ?_) ?_ ?_
     rotate_left
     ·show Act.put _ (some 37) _ = _
      simp only [Act.put, List.setIfInBounds_toArray, List.set_cons_zero, List.set_cons_succ, i64_w, i32_w]
      rfl
     refine zqp_ 33 38 HT_ ?_
     refine zqp_ 34 4 HT_ ?_
     refine done_ (done_of HT_.out (by kernel_rfl)) ?_
     try go_wp2
     go_ret
     exact ⟨by first | rfl | (simp [errW_none, errW_some] <;> rfl) | (simp [*, errW_none, errW_some] <;> rfl), by repeat (first | (with_reducible first | exact HB.out | apply below_alloc | apply pw_below_drewN | apply below_drew1 | refine below_set ?_ GE371.out | refine below_set ?_ GE372.out) | exact HB.out)⟩
    ·replace c15 := Bool.eq_false_iff.mpr c15
     subst c15
     have H1 : (some false) = some true := by rw [if_neg (show ¬ (false = true) by decide)] at H; exact H
     clear H
     have H := H1
     clear H1
     exact absurd (Option.some.inj H) (by decide)
   ·rw [if_neg c11] at H
    have c11b0 : (t391 == t392) = false := by simpa using c11
    (try (have c11b1 : decide (t391 = t392) = false := by simpa using c11))
    (try (have c11b2 : (t391 == t392) = false := by simpa using c11))
    (try (have c11b3 : ¬ (t391 = t392) := by simpa using c11))
    clear c11
    exact absurd (Option.some.inj H) (by decide)
  ·replace c8 := Bool.eq_false_iff.mpr c8
   subst c8
   have H1 : (some false) = some true := by rw [if_neg (show ¬ (false = true) by decide)] at H; exact H
   clear H
   have H := H1
   clear H1
   exact absurd (Option.some.inj H) (by decide)
 ·rw [if_neg c5] at H
  have c5b0 : (t373 == t374) = false := by simpa using c5
  (try (have c5b1 : decide (t373 = t374) = false := by simpa using c5))
  (try (have c5b2 : (t373 == t374) = false := by simpa using c5))
  (try (have c5b3 : ¬ (t373 = t374) := by simpa using c5))
  clear c5
  exact absurd (Option.some.inj H) (by decide)
end Go.Proofs.YtgoolgmcbnikkaaGreatDoor.QChangeSames
