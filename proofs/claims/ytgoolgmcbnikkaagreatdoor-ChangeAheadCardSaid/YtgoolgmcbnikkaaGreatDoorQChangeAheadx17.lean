-- Own text of this seat, laid by the session's program ownprint.py (wip/tools). Lean checks it.
import Derived.Test.YtgoolgmcbnikkaaGreatDoorQChangeAheadx0
import Derived.Test.YtgoolgmcbnikkaaGreatDoorQChangeAheadx5
import Derived.Test.YtgoolgmcbnikkaaGreatDoorQChangeAheadx7
import Derived.Test.YtgoolgmcbnikkaaGreatDoorQChangeAheadx9
import Derived.Test.YtgoolgmcbnikkaaGreatDoorQChangeAheadx10
import Derived.Test.YtgoolgmcbnikkaaGreatDoorQChangeAheadx14
import Derived.Test.YtgoolgmcbnikkaaGreatDoorQChangeAheadx16
namespace Go.Proofs.YtgoolgmcbnikkaaGreatDoor.QChangeAhead
open Go.RowKit Go.Proofs.YtgoolgmcbnikkaaGreatDoorW.PrintWords Go.Proofs.YtgoolgmcbnikkaaGreatDoorW.PrintLast Go.Proofs.YtgoolgmcbnikkaaGreatDoorW.PrintMore
attribute [local go_sem] max2_int min2_int max_two min_two max_three min_three max_four min_four   -- for this text's walks alone
set_option linter.unusedVariables false
set_option linter.unusedSimpArgs false

/-! ### topiarylaw05_ChangeAhead: function 6 -/
def topiarylaw05_ChangeAhead.l0 : Nat → List (S23) → Int → Int → Int → Int → List Int → Int → Int → Int → Int → Int → Int → Int → ByteArray → ByteArray → Option (Bool)
 | 0, _, _, _, _, _, _, _, _, _, _, _, _, _, _, _ => none
 | k + 1, x3, x4, x349000, x349001, x349002, x349003, x349004, x349005, x349006, x349007, x349008, x349009, x349010, x349011, x349012 => if x4 < (x3.length : Int) then (if 0 ≤ x4 then ((topiaryref01_Less.f ((rd_T23 x3 x4).f0) ((rd_T23 x3 x4).f1) x349000 x349001).bind fun t357 => (if t357 = true then (if x4 > 0 then (if 0 ≤ (wrap64 (x4 - 1)) then (if (wrap64 (x4 - 1)) < (x3.length : Int) then ((topiaryref01_Less.f ((rd_T23 x3 (wrap64 (x4 - 1))).f0) ((rd_T23 x3 (wrap64 (x4 - 1))).f1) ((rd_T23 x3 x4).f0) ((rd_T23 x3 x4).f1)).bind fun t360 => (if t360 = true then (topiarylaw05_ChangeAhead.l0 k x3 (wrap64 (x4 + 1)) x349000 x349001 x349002 x349003 x349004 x349005 x349006 x349007 x349008 x349009 x349010 x349011 x349012) else (some false))) else (none)) else (none)) else (topiarylaw05_ChangeAhead.l0 k x3 (wrap64 (x4 + 1)) x349000 x349001 x349002 x349003 x349004 x349005 x349006 x349007 x349008 x349009 x349010 x349011 x349012)) else (some false))) else (none)) else (if (x3.length : Int) ≤ 3 then ((topiarylaw05_awake.f k).bind fun t355 => (some t355)) else (some false))
def topiarylaw05_ChangeAhead.f (k : Nat) (a0_0 : Int) (a0_1 : Int) (a0_2 : Int) (l0_3 : List Int) (a0_4 : Int) (a0_5 : Int) (a0_6 : Int) (a0_7 : Int) (a0_8 : Int) (a0_9 : Int) (a0_10 : Int) (a0_11 : ByteArray) (a0_12 : ByteArray) : Option (Bool) := (change_Names.f k a0_0 a0_1 a0_2 l0_3 a0_4 a0_5 a0_6 a0_7 a0_8 a0_9 a0_10 a0_11 a0_12).bind fun t349 => ((change_Check.f k a0_0 a0_1 a0_2 l0_3 a0_4 a0_5 a0_6 a0_7 a0_8 a0_9 a0_10 a0_11 a0_12).bind fun t352 => (if t352 = 0 then (topiarylaw05_ChangeAhead.l0 k t349 0 a0_0 a0_1 a0_2 l0_3 a0_4 a0_5 a0_6 a0_7 a0_8 a0_9 a0_10 a0_11 a0_12) else ((topiaryref05_Check.f k a0_0 a0_1 a0_2 l0_3 a0_4 a0_5 a0_6 a0_7 a0_8 a0_9 a0_10 a0_11 a0_12).bind fun t353 => (if t353 = 0 then (some false) else ((topiarylaw05_awake.f k).bind fun t354 => (some t354))))))
theorem topiarylaw05_ChangeAhead.mono_l : ∀ k, (∀ y0 y1 y2 y3 y4 y5 y6 y7 y8 y9 y10 y11 y12 y13 y14, LeO (topiarylaw05_ChangeAhead.l0 k y0 y1 y2 y3 y4 y5 y6 y7 y8 y9 y10 y11 y12 y13 y14) (topiarylaw05_ChangeAhead.l0 (k + 1) y0 y1 y2 y3 y4 y5 y6 y7 y8 y9 y10 y11 y12 y13 y14))
 | 0 => fun _ _ _ _ _ _ _ _ _ _ _ _ _ _ _ r h => by simp [topiarylaw05_ChangeAhead.l0] at h
 | k + 1 => by
  have ih0 := topiarylaw05_ChangeAhead.mono_l k
  ·intro y0 y1 y2 y3 y4 y5 y6 y7 y8 y9 y10 y11 y12 y13 y14
   unfold topiarylaw05_ChangeAhead.l0
   repeat' first
   | (with_reducible exact ih0 _ _ _ _ _ _ _ _ _ _ _ _ _ _ _)
   | (with_reducible exact change_Check.mono _ _ _ _ _ _ _ _ _ _ _ _ _ _)
   | (with_reducible exact change_Names.mono _ _ _ _ _ _ _ _ _ _ _ _ _ _)
   | (with_reducible exact topiarylaw05_awake.mono _)
   | (with_reducible exact topiaryref05_Check.mono _ _ _ _ _ _ _ _ _ _ _ _ _ _)
   | (with_reducible exact LeO.refl _)
   | (with_reducible exact LeO.none _)
   | (with_reducible refine LeO.ite ?_ ?_)
   | (with_reducible refine LeO.bind ?_ (fun _ => ?_))
   | exact ih0 _ _ _ _ _ _ _ _ _ _ _ _ _ _ _
   | exact change_Check.mono _ _ _ _ _ _ _ _ _ _ _ _ _ _
   | exact change_Names.mono _ _ _ _ _ _ _ _ _ _ _ _ _ _
   | exact topiarylaw05_awake.mono _
   | exact topiaryref05_Check.mono _ _ _ _ _ _ _ _ _ _ _ _ _ _
   | exact LeO.none _
   | refine LeO.ite ?_ ?_
   | refine LeO.bind ?_ (fun _ => ?_)
theorem topiarylaw05_ChangeAhead.mono : ∀ a0 a1 a2 a3 a4 a5 a6 a7 a8 a9 a10 a11 a12 k, LeO (topiarylaw05_ChangeAhead.f k a0 a1 a2 a3 a4 a5 a6 a7 a8 a9 a10 a11 a12) (topiarylaw05_ChangeAhead.f (k + 1) a0 a1 a2 a3 a4 a5 a6 a7 a8 a9 a10 a11 a12) := by
 intro a0 a1 a2 a3 a4 a5 a6 a7 a8 a9 a10 a11 a12 k
 have ih0 := topiarylaw05_ChangeAhead.mono_l k
 unfold topiarylaw05_ChangeAhead.f
 repeat' first
   | (with_reducible exact ih0 _ _ _ _ _ _ _ _ _ _ _ _ _ _ _)
   | (with_reducible exact change_Check.mono _ _ _ _ _ _ _ _ _ _ _ _ _ _)
   | (with_reducible exact change_Names.mono _ _ _ _ _ _ _ _ _ _ _ _ _ _)
   | (with_reducible exact topiarylaw05_awake.mono _)
   | (with_reducible exact topiaryref05_Check.mono _ _ _ _ _ _ _ _ _ _ _ _ _ _)
   | (with_reducible exact LeO.refl _)
   | (with_reducible exact LeO.none _)
   | (with_reducible refine LeO.ite ?_ ?_)
   | (with_reducible refine LeO.bind ?_ (fun _ => ?_))
   | exact ih0 _ _ _ _ _ _ _ _ _ _ _ _ _ _ _
   | exact change_Check.mono _ _ _ _ _ _ _ _ _ _ _ _ _ _
   | exact change_Names.mono _ _ _ _ _ _ _ _ _ _ _ _ _ _
   | exact topiarylaw05_awake.mono _
   | exact topiaryref05_Check.mono _ _ _ _ _ _ _ _ _ _ _ _ _ _
   | exact LeO.none _
   | refine LeO.ite ?_ ?_
   | refine LeO.bind ?_ (fun _ => ?_)
def topiarylaw05_ChangeAhead.T7 : Bool × List (List Nat × List Nat) := (true, [([], []), ([], []), ([0, 1], [0, 1]), ([2], [2]), ([], []), ([4], [4]), ([3, 5], [3, 5]), ([6], [6]), ([7, 6], [7]), ([8], [8]), ([9, 8], [8, 9]), ([10, 8, 8], [8, 10]), ([11], [11]), ([11], [11]), ([13, 11], [11, 13]), ([12, 14, 11], [11, 12, 14]), ([15, 11], [11, 15]), ([11], [11]), ([11], [11]), ([17, 18, 11], [11, 17, 18]), ([19, 11], [11, 19]), ([16, 20, 11, 11], [11, 16, 20]), ([21, 11], [11, 21]), ([11, 22, 8], [8, 11, 22]), ([8, 23], [8, 23])])
def topiarylaw05_ChangeAhead.B7 : List Nat := [0, 0, 3, 7, 0, 16, 63, 127, 255, 511, 1023, 2047, 4095, 4095, 12287, 32767, 65535, 4095, 4095, 397311, 921599, 2097151, 4194303, 8388607, 16777215]
theorem topiarylaw05_ChangeAhead.tab7 : rtab .any (opsOf Tryz.f6 7) = topiarylaw05_ChangeAhead.T7 := by kernel_rfl
theorem topiarylaw05_ChangeAhead.bits7 : waitsOk topiarylaw05_ChangeAhead.T7.2 topiarylaw05_ChangeAhead.B7 = true := by kernel_rfl
set_option maxHeartbeats 8000000 in
set_option maxRecDepth 100000 in
theorem topiarylaw05_ChangeAhead.calls (k : Nat) (a0_0 : Int) (a0_1 : Int) (a0_2 : Int) (A0_3 : Option Addr) (c0_3 : Nat) (l0_3 : List Int) (a0_4 : Int) (a0_5 : Int) (a0_6 : Int) (a0_7 : Int) (a0_8 : Int) (a0_9 : Int) (a0_10 : Int) (a0_11 : ByteArray) (a0_12 : ByteArray) (r : Bool) (w : World) (hr0_3 : Kd.C (Kd.int .i64) w A0_3 l0_3.length l0_3) (hc0_3 : l0_3.length ≤ c0_3) (htab : TabW_ w) (h : topiarylaw05_ChangeAhead.f k a0_0 a0_1 a0_2 l0_3 a0_4 a0_5 a0_6 a0_7 a0_8 a0_9 a0_10 a0_11 a0_12 = some r) :
  Calls Tryz.prog 6 #[.agg #[.int .i64 a0_0, .int .i64 a0_1, .int .i64 a0_2, .slice A0_3 l0_3.length c0_3, .int .i64 a0_4, .int .i64 a0_5, .int .i64 a0_6, .int .i64 a0_7, .int .i64 a0_8, .int .i64 a0_9, .int .i64 a0_10, .string a0_11, .string a0_12]] w fun e w' => e = .returned (.bool r) ∧ Below w.heap.size w w' := by
 have HTAB := Aside0.mk htab
 clear htab
 have hu26 := Tryz.underlying26
 have hu23 := Tryz.underlying23
 have HR0_3 := Aside0.mk hr0_3
 have HC0_3 := Aside0.mk hc0_3
 clear hr0_3 hc0_3
 have HB := Aside0.mk (Below.refl w.heap.size w)
 have H : ((change_Names.f k a0_0 a0_1 a0_2 l0_3 a0_4 a0_5 a0_6 a0_7 a0_8 a0_9 a0_10 a0_11 a0_12).bind fun t349 => ((change_Check.f k a0_0 a0_1 a0_2 l0_3 a0_4 a0_5 a0_6 a0_7 a0_8 a0_9 a0_10 a0_11 a0_12).bind fun t352 => (if t352 = 0 then (topiarylaw05_ChangeAhead.l0 k t349 0 a0_0 a0_1 a0_2 l0_3 a0_4 a0_5 a0_6 a0_7 a0_8 a0_9 a0_10 a0_11 a0_12) else ((topiaryref05_Check.f k a0_0 a0_1 a0_2 l0_3 a0_4 a0_5 a0_6 a0_7 a0_8 a0_9 a0_10 a0_11 a0_12).bind fun t353 => (if t353 = 0 then (some false) else ((topiarylaw05_awake.f k).bind fun t354 => (some t354))))))) = some r := h
 clear h
 replace H := Option.bind_eq_some_iff.mp H
 obtain ⟨t349, A20, H⟩ := H
 have A2 := Aside0.mk A20
 clear A20
 replace H := Option.bind_eq_some_iff.mp H
 obtain ⟨t352, A30, H⟩ := H
 have A3 := Aside0.mk A30
 clear A30
 by_cases c4 : t352 = 0
 focus
  rw [if_pos c4] at H
  have c4b0 : (t352 == 0) = true := beq_iff_eq.mpr c4
  have c4b1 : (t352 != 0) = false := bne_eq_false_iff_eq.mpr c4
  clear c4
  have H' := Aside0.mk H
  clear H
  go_enter Tryz.func6, Tryz.ntmps6
  go_wp2_with (first | ((with_reducible refine gate_dst (N := 1) rfl ?_); refine box_event ?hg (N := 1) ?hd (cs := #[.int .i64 a0_0, .int .i64 a0_1, .int .i64 a0_2, .slice A0_3 l0_3.length c0_3, .int .i64 a0_4, .int .i64 a0_5, .int .i64 a0_6, .int .i64 a0_7, .int .i64 a0_8, .int .i64 a0_9, .int .i64 a0_10, .string a0_11, .string a0_12]) (t := 26) ?hr ?_; (case hd => rfl); (case hg => rfl); (case hr => first | (go_simp; done) | (go_simp; rfl)); intro gb348 hg w5 hbox hb; have BK348 := Aside0.mk (hbox); have GW348 := Aside0.mk ((zq9_ : w.heap.size ≤ gb348)); have GE348 := Aside0.mk ((zq9_ : w.heap.size ≤ gb348)); replace HB := Aside0.mk (below_step zq0_ hb); clear hb hbox hg; obtain ⟨hcz6_0, hfz6_0, hcz6_1, hfz6_1, hcz6_2, hfz6_2, hcz6_3, hfz6_3, hcz6_4, hfz6_4, hcz6_5, hfz6_5, hcz6_6, hfz6_6, hcz6_7, hfz6_7, hcz6_8, hfz6_8, hcz6_9, hfz6_9, hcz6_10, hfz6_10, hcz6_11, hfz6_11, hcz6_12, hfz6_12⟩ := zqC13_ BK348.out) | ((with_reducible refine gate_callee (f := 19) rfl ?_); refine zqG_ (some 6) rfl Tryz.func19 #[.agg #[.int .i64 a0_0, .int .i64 a0_1, .int .i64 a0_2, .slice A0_3 l0_3.length c0_3, .int .i64 a0_4, .int .i64 a0_5, .int .i64 a0_6, .int .i64 a0_7, .int .i64 a0_8, .int .i64 a0_9, .int .i64 a0_10, .string a0_11, .string a0_12]] rfl ?_; (with_reducible refine (change_Names.calls k a0_0 a0_1 a0_2 _ _ l0_3 a0_4 a0_5 a0_6 a0_7 a0_8 a0_9 a0_10 a0_11 a0_12 t349 _ ?side1 ?side2 A2.out).mono ?_); (case side1 => repeat (first | exact (Kd.C_below HR0_3.out HB.out) | (with_reducible refine Kd.C_alloc ?_ _) | (with_reducible refine Kd.C_drewN ?_ _) | (with_reducible refine Kd.C_drew ?_))); (case side2 => exact HC0_3.out); rintro e w7 ⟨v350, rfl, ho0, hb⟩; refine ⟨_, rfl, ?_⟩; have HO351 := Aside0.mk (Kd.R_lower ho0 (below_size (zqB1_ GE348.out))); replace BK348 := Aside0.mk (blk_below (zqK_ BK348.out) hb); replace HB := Aside0.mk (below_step (zqB1_ GE348.out) hb); (try clear hb); (try clear hb2); (try clear hk); (try clear hi); (try clear ho0); obtain ⟨hcz8_0, hfz8_0, hcz8_1, hfz8_1, hcz8_2, hfz8_2, hcz8_3, hfz8_3, hcz8_4, hfz8_4, hcz8_5, hfz8_5, hcz8_6, hfz8_6, hcz8_7, hfz8_7, hcz8_8, hfz8_8, hcz8_9, hfz8_9, hcz8_10, hfz8_10, hcz8_11, hfz8_11, hcz8_12, hfz8_12⟩ := zqC13_ BK348.out) | ((with_reducible refine gate_callee (f := 8) rfl ?_); refine zqG_ (some 8) rfl Tryz.func8 #[.agg #[.int .i64 a0_0, .int .i64 a0_1, .int .i64 a0_2, .slice A0_3 l0_3.length c0_3, .int .i64 a0_4, .int .i64 a0_5, .int .i64 a0_6, .int .i64 a0_7, .int .i64 a0_8, .int .i64 a0_9, .int .i64 a0_10, .string a0_11, .string a0_12]] rfl ?_; (with_reducible refine (change_Check.calls k a0_0 a0_1 a0_2 _ _ l0_3 a0_4 a0_5 a0_6 a0_7 a0_8 a0_9 a0_10 a0_11 a0_12 t352 _ ?side1 ?side2 A3.out).mono ?_); (case side1 => repeat (first | exact (Kd.C_below HR0_3.out HB.out) | (with_reducible refine Kd.C_alloc ?_ _) | (with_reducible refine Kd.C_drewN ?_ _) | (with_reducible refine Kd.C_drew ?_))); (case side2 => exact HC0_3.out); rintro e w9 ⟨rfl, hb⟩; refine ⟨_, rfl, ?_⟩; replace HO351 := Aside0.mk (Kd.R_below (by (with_reducible repeat (first | apply Kd.R_alloc | apply Kd.R_drewN | apply Kd.R_drew)); exact HO351.out) hb); replace BK348 := Aside0.mk (blk_below (zqK_ BK348.out) hb); replace HB := Aside0.mk (below_step (zqB1_ GE348.out) hb); (try clear hb); (try clear hb2); (try clear hk); (try clear hi)))
  go_loopg [4] k (fun kq v4 w' => ∃ (x4_1 : Int), v4 = .int .i64 x4_1 ∧ Aside0 (topiarylaw05_ChangeAhead.l0 kq t349 x4_1 a0_0 a0_1 a0_2 l0_3 a0_4 a0_5 a0_6 a0_7 a0_8 a0_9 a0_10 a0_11 a0_12 = some r) ∧ Aside0 (kq ≤ k) ∧ Aside0 (Kd.R k23 23 w' w.heap.size (fun _ => True) v350 t349) ∧ Aside0 (w'.heap[gb348]? = some (.cells #[.int .i64 a0_0, .int .i64 a0_1, .int .i64 a0_2, (.slice A0_3 l0_3.length c0_3), .int .i64 a0_4, .int .i64 a0_5, .int .i64 a0_6, .int .i64 a0_7, .int .i64 a0_8, .int .i64 a0_9, .int .i64 a0_10, .string a0_11, .string a0_12] 26 (0, 0))) ∧ Aside0 (Below w.heap.size w w'))
  case atStart => exact ⟨(0), zq4_, H', ⟨Nat.le_refl _⟩, ⟨by (with_reducible repeat (first | apply Kd.R_alloc | apply Kd.R_drewN | apply Kd.R_drew)); exact HO351.out⟩, ⟨by (with_reducible repeat (first | refine blk_drewN ?_ _ | refine blk_drew ?_ | refine blk_alloc ?_ _)); exact BK348.out⟩, ⟨by repeat (first | (with_reducible first | exact HB.out | apply below_alloc | apply pw_below_drewN | apply below_drew1 | refine below_set ?_ GE348.out) | exact HB.out)⟩⟩
  case round =>
   clear H'
   try clear c1
   try clear p2
   try clear c4
   try clear c4b0
   try clear c4b1
   try clear c6
   try clear c8
   try clear hcz6_0 hcz6_1 hcz6_10 hcz6_11 hcz6_12 hcz6_2 hcz6_3 hcz6_4 hcz6_5 hcz6_6 hcz6_7 hcz6_8 hcz6_9 hfz6_0 hfz6_1 hfz6_10 hfz6_11 hfz6_12 hfz6_2 hfz6_3 hfz6_4 hfz6_5 hfz6_6 hfz6_7 hfz6_8 hfz6_9
   try clear hcz8_0 hcz8_1 hcz8_10 hcz8_11 hcz8_12 hcz8_2 hcz8_3 hcz8_4 hcz8_5 hcz8_6 hcz8_7 hcz8_8 hcz8_9 hfz8_0 hfz8_1 hfz8_10 hfz8_11 hfz8_12 hfz8_2 hfz8_3 hfz8_4 hfz8_5 hfz8_6 hfz8_7 hfz8_8 hfz8_9
   obtain ⟨x4_1, rfl, HA, HK1, HO_3, BK348, HB⟩ := hrel
   cases gk with
   | zero => exact absurd HA.out (by simp [topiarylaw05_ChangeAhead.l0])
   | succ k1 =>
    have H := HA.out
    clear HA
    simp only [topiarylaw05_ChangeAhead.l0] at H
    by_cases c10 : x4_1 < (t349.length : Int)
    ·rw [if_pos c10] at H
     have c10b0 : decide (x4_1 < (t349.length : Int)) = true := decide_eq_true c10
     clear c10
     by_cases c11 : 0 ≤ x4_1
     ·rw [if_pos c11] at H
      have c11b0 : decide (0 ≤ x4_1) = true := decide_eq_true c11
      clear c11
      replace H := Option.bind_eq_some_iff.mp H
      obtain ⟨t357, A120, H⟩ := H
      have A12 := Aside0.mk A120
      clear A120
      by_cases c13 : t357 = true
      ·subst c13
       have H1 : (if x4_1 > 0 then (if 0 ≤ (wrap64 (x4_1 - 1)) then (if (wrap64 (x4_1 - 1)) < (t349.length : Int) then ((topiaryref01_Less.f ((rd_T23 t349 (wrap64 (x4_1 - 1))).f0) ((rd_T23 t349 (wrap64 (x4_1 - 1))).f1) ((rd_T23 t349 x4_1).f0) ((rd_T23 t349 x4_1).f1)).bind fun t360 => (if t360 = true then (topiarylaw05_ChangeAhead.l0 k1 t349 (wrap64 (x4_1 + 1)) a0_0 a0_1 a0_2 l0_3 a0_4 a0_5 a0_6 a0_7 a0_8 a0_9 a0_10 a0_11 a0_12) else (some false))) else (none)) else (none)) else (topiarylaw05_ChangeAhead.l0 k1 t349 (wrap64 (x4_1 + 1)) a0_0 a0_1 a0_2 l0_3 a0_4 a0_5 a0_6 a0_7 a0_8 a0_9 a0_10 a0_11 a0_12)) = some r := by rw [if_pos rfl] at H; exact H
       clear H
       have H := H1
       clear H1
       by_cases c14 : x4_1 > 0
       ·rw [if_pos c14] at H
        have c14b0 : decide (0 < x4_1) = true := decide_eq_true c14
        clear c14
        obtain ⟨ji15, hji15⟩ : ∃ j_ : Int, (wrap64 (x4_1 - 1)) = j_ := ⟨_, rfl⟩
        replace H : (if 0 ≤ (ji15) then (if (ji15) < (t349.length : Int) then ((topiaryref01_Less.f ((rd_T23 t349 (ji15)).f0) ((rd_T23 t349 (ji15)).f1) ((rd_T23 t349 x4_1).f0) ((rd_T23 t349 x4_1).f1)).bind fun t360 => (if t360 = true then (topiarylaw05_ChangeAhead.l0 k1 t349 (wrap64 (x4_1 + 1)) a0_0 a0_1 a0_2 l0_3 a0_4 a0_5 a0_6 a0_7 a0_8 a0_9 a0_10 a0_11 a0_12) else (some false))) else (none)) else (none)) = some r := by first | (rw [hji15] at H; exact H) | (simp only [hji15] at H ⊢; exact H)
        (try rw [hji15] at A12)
        have hji15w : (IntKind.i64.wrap (x4_1 - 1)) = ji15 := (i64_w _).trans hji15
        by_cases c16 : 0 ≤ (ji15)
        ·rw [if_pos c16] at H
         have c16b0 : decide (0 ≤ (ji15)) = true := decide_eq_true c16
         clear c16
         by_cases c17 : (ji15) < (t349.length : Int)
         ·rw [if_pos c17] at H
          have c17b0 : decide ((ji15) < (t349.length : Int)) = true := decide_eq_true c17
          clear c17
          replace H := Option.bind_eq_some_iff.mp H
          obtain ⟨t360, A180, H⟩ := H
          have A18 := Aside0.mk A180
          clear A180
          by_cases c19 : t360 = true
          ·subst c19
           have H1 : (topiarylaw05_ChangeAhead.l0 k1 t349 (wrap64 (x4_1 + 1)) a0_0 a0_1 a0_2 l0_3 a0_4 a0_5 a0_6 a0_7 a0_8 a0_9 a0_10 a0_11 a0_12) = some r := by rw [if_pos rfl] at H; exact H
           clear H
           have H := H1
           clear H1
           have H' := Aside0.mk H
           clear H
           obtain ⟨Ao20, co20, eo20⟩ := Kd.R_slice HO_3.out
           subst eo20
           try go_wp2
           replace HO_3 := Aside0.mk (Kd.R_drew HO_3.out)
           replace BK348 := Aside0.mk (blk_drew BK348.out)
           replace HB := Aside0.mk (below_drew1 HB.out)
           have p356 : 0 ≤ (x4_1 : Int) := of_decide_eq_true zq2_
           have q356 : x4_1 < (t349.length : Int) := of_decide_eq_true zq2_
           obtain ⟨ad356, e356, hx356_0, hx356_1⟩ := at_T23 (Kd.R_reads' HO_3.out).2.2 x4_1 p356 q356
           cases e356
           replace p356 := eq_true p356
           replace q356 := eq_true q356
           have p358 : 0 ≤ ((ji15) : Int) := of_decide_eq_true zq2_
           have q358 : (ji15) < (t349.length : Int) := of_decide_eq_true zq2_
           obtain ⟨ad358, e358, hx358_0, hx358_1⟩ := at_T23 (Kd.R_reads' HO_3.out).2.2 (ji15) p358 q358
           obtain rfl : ad356 = ad358 := (by injection e358)
           replace p358 := eq_true p358
           replace q358 := eq_true q358
           have p359 : 0 ≤ (x4_1 : Int) := of_decide_eq_true zq2_
           have q359 : x4_1 < (t349.length : Int) := of_decide_eq_true zq2_
           obtain ⟨ad359, e359, hx359_0, hx359_1⟩ := at_T23 (Kd.R_reads' HO_3.out).2.2 x4_1 p359 q359
           obtain rfl : ad356 = ad359 := (by injection e359)
           replace p359 := eq_true p359
           replace q359 := eq_true q359
           refine start_ (n := 25) (S := fun w' => w'.cell? ⟨gb348, 0, none⟩ = some (.int .i64 a0_0) ∧ w'.cell? ⟨gb348, 1, none⟩ = some (.int .i64 a0_1) ∧ w'.cell? ⟨gb348, 2, none⟩ = some (.int .i64 a0_2) ∧ w'.cell? ⟨gb348, 3, none⟩ = some (.slice A0_3 l0_3.length c0_3) ∧ w'.cell? ⟨gb348, 4, none⟩ = some (.int .i64 a0_4) ∧ w'.cell? ⟨gb348, 5, none⟩ = some (.int .i64 a0_5) ∧ w'.cell? ⟨gb348, 6, none⟩ = some (.int .i64 a0_6) ∧ w'.cell? ⟨gb348, 7, none⟩ = some (.int .i64 a0_7) ∧ w'.cell? ⟨gb348, 8, none⟩ = some (.int .i64 a0_8) ∧ w'.cell? ⟨gb348, 9, none⟩ = some (.int .i64 a0_9) ∧ w'.cell? ⟨gb348, 10, none⟩ = some (.int .i64 a0_10) ∧ w'.cell? ⟨gb348, 11, none⟩ = some (.string a0_11) ∧ w'.cell? ⟨gb348, 12, none⟩ = some (.string a0_12) ∧ w'.cell? (ad356.add ((x4_1).toNat * 2)) = some (.int .i64 ((rd_T23 t349 x4_1).f0)) ∧ w'.cell? ⟨(ad356.add ((x4_1).toNat * 2)).block, (ad356.add ((x4_1).toNat * 2)).off + 1, none⟩ = some (.int .i64 ((rd_T23 t349 x4_1).f1)) ∧ w'.cell? (ad356.add (((ji15)).toNat * 2)) = some (.int .i64 ((rd_T23 t349 (ji15)).f0)) ∧ w'.cell? ⟨(ad356.add (((ji15)).toNat * 2)).block, (ad356.add (((ji15)).toNat * 2)).off + 1, none⟩ = some (.int .i64 ((rd_T23 t349 (ji15)).f1)) ∧ w'.cell? (ad356.add ((x4_1).toNat * 2)) = some (.int .i64 ((rd_T23 t349 x4_1).f0)) ∧ w'.cell? ⟨(ad356.add ((x4_1).toNat * 2)).block, (ad356.add ((x4_1).toNat * 2)).off + 1, none⟩ = some (.int .i64 ((rd_T23 t349 x4_1).f1))) (ds := []) #[false, false, false, false, false, false, false, false, false, false, false, false, false, false, false, false, false, false, false, false, false, false, false, false, false] (by kernel_rfl) rfl rfl ⟨(blk_cell BK348.out 0).trans rfl, (blk_cell BK348.out 1).trans rfl, (blk_cell BK348.out 2).trans rfl, (blk_cell BK348.out 3).trans rfl, (blk_cell BK348.out 4).trans rfl, (blk_cell BK348.out 5).trans rfl, (blk_cell BK348.out 6).trans rfl, (blk_cell BK348.out 7).trans rfl, (blk_cell BK348.out 8).trans rfl, (blk_cell BK348.out 9).trans rfl, (blk_cell BK348.out 10).trans rfl, (blk_cell BK348.out 11).trans rfl, (blk_cell BK348.out 12).trans rfl, hx356_0, hx356_1, hx358_0, hx358_1, hx359_0, hx359_1⟩ (fun hHeld => ?_); refine with_tabW topiarylaw05_ChangeAhead.tab7 topiarylaw05_ChangeAhead.bits7 (fun HT_ HW_ => ?_)
           generalize wr.drew = w21 at HO_3 BK348 HB hx356_0 hx356_1 hx358_0 hx358_1 hx359_0 hx359_1 hHeld ⊢
           refine zqp_ 0 22 HT_ ?_
           refine zqp_ 1 23 HT_ ?_
           refine zqp_ 2 24 HT_ ?_
           refine zqp_ 4 26 HT_ ?_
           refine zqt19_ 3 25 HT_ HW_ hHeld ?_
           refine zqt19_ 5 27 HT_ HW_ hHeld ?_
           refine zqo_ 6 28 HT_ (fun K hK => ?_)
           refine goes_ Tryz.func20 (by kernel_rfl) rfl #[.agg #[.int .i64 ((rd_T23 t349 x4_1).f0), .int .i64 ((rd_T23 t349 x4_1).f1)], .agg #[.int .i64 a0_0, .int .i64 a0_1]] (by rfl) rfl rfl zq11_ ?_
           with_reducible refine (topiaryref01_Less.calls ((rd_T23 t349 x4_1).f0) ((rd_T23 t349 x4_1).f1) a0_0 a0_1 true _ A12.out).mono ?_
           rintro e w22 ⟨rfl, hb⟩
           have HS13_ := (hb.cell (World.block_lt_of_cell? _ _ (hHeld.2.2.2.2.2.2.2.2.2.2.2.2.2.1))).trans (hHeld.2.2.2.2.2.2.2.2.2.2.2.2.2.1)
           have HS14_ := (hb.cell (World.block_lt_of_cell? _ _ (hHeld.2.2.2.2.2.2.2.2.2.2.2.2.2.2.1))).trans (hHeld.2.2.2.2.2.2.2.2.2.2.2.2.2.2.1)
           have HS15_ := (hb.cell (World.block_lt_of_cell? _ _ (hHeld.2.2.2.2.2.2.2.2.2.2.2.2.2.2.2.1))).trans (hHeld.2.2.2.2.2.2.2.2.2.2.2.2.2.2.2.1)
           have HS16_ := (hb.cell (World.block_lt_of_cell? _ _ (hHeld.2.2.2.2.2.2.2.2.2.2.2.2.2.2.2.2.1))).trans (hHeld.2.2.2.2.2.2.2.2.2.2.2.2.2.2.2.2.1)
           have HS17_ := (hb.cell (World.block_lt_of_cell? _ _ (hHeld.2.2.2.2.2.2.2.2.2.2.2.2.2.2.2.2.2.1))).trans (hHeld.2.2.2.2.2.2.2.2.2.2.2.2.2.2.2.2.2.1)
           have HS18_ := (hb.cell (World.block_lt_of_cell? _ _ (hHeld.2.2.2.2.2.2.2.2.2.2.2.2.2.2.2.2.2.2))).trans (hHeld.2.2.2.2.2.2.2.2.2.2.2.2.2.2.2.2.2.2)
           refine ⟨_, rfl, ?_⟩
           replace HO_3 := Aside0.mk (Kd.R_below zq16_ hb)
           replace BK348 := Aside0.mk (blk_below (zqK_ BK348.out) hb)
           replace HB := Aside0.mk (below_step (zqB1_ GE348.out) hb)
           (try clear hb)
           (try clear hb2)
           (try clear hk)
           (try clear hi)
           refine hK.out _ _ ⟨(blk_cell BK348.out 0).trans rfl, (blk_cell BK348.out 1).trans rfl, (blk_cell BK348.out 2).trans rfl, (blk_cell BK348.out 3).trans rfl, (blk_cell BK348.out 4).trans rfl, (blk_cell BK348.out 5).trans rfl, (blk_cell BK348.out 6).trans rfl, (blk_cell BK348.out 7).trans rfl, (blk_cell BK348.out 8).trans rfl, (blk_cell BK348.out 9).trans rfl, (blk_cell BK348.out 10).trans rfl, (blk_cell BK348.out 11).trans rfl, (blk_cell BK348.out 12).trans rfl, HS13_, HS14_, HS15_, HS16_, HS17_, HS18_⟩ (fun hHeld => ?_)
           clear hK K
           refine norm_ (a' := ?_) ?_ ?_
           rotate_left
           ·show Act.put _ (some 28) _ = _
            simp only [Act.put, List.setIfInBounds_toArray, List.set_cons_zero, List.set_cons_succ, i64_w, i32_w]
            rfl
           refine zqp_ 7 29 HT_ ?_
           refine zqp_ 8 30 HT_ ?_
           refine zqp_ 9 31 HT_ ?_
           refine zqp_ 10 32 HT_ ?_
           refine zqp_ 11 33 HT_ ?_
           refine zqp_ 12 34 HT_ ?_
           refine zqp_ 13 35 HT_ ?_
           refine zqp_ 14 36 HT_ ?_
           refine zqp_ 15 37 HT_ ?_
           refine zqp_ 17 39 HT_ ?_
           refine zqp_ 18 40 HT_ ?_
           refine zqp_ 19 41 HT_ ?_
           refine zqt19_ 16 38 HT_ HW_ hHeld ?_
           refine zqt19_ 20 42 HT_ HW_ hHeld ?_
           refine zqo_ 21 43 HT_ (fun K hK => ?_)
           refine goes_ Tryz.func20 (by kernel_rfl) rfl #[.agg #[.int .i64 ((rd_T23 t349 (ji15)).f0), .int .i64 ((rd_T23 t349 (ji15)).f1)], .agg #[.int .i64 ((rd_T23 t349 x4_1).f0), .int .i64 ((rd_T23 t349 x4_1).f1)]] (by rfl) rfl rfl (by (try simp only [List.map_toArray, List.map_cons, List.map_nil]); first | done | (simp only [hji15]; rfl) | rfl | (simp only [List.length_drop, List.length_take]; rfl)) ?_
           with_reducible refine (topiaryref01_Less.calls ((rd_T23 t349 (ji15)).f0) ((rd_T23 t349 (ji15)).f1) ((rd_T23 t349 x4_1).f0) ((rd_T23 t349 x4_1).f1) true _ A18.out).mono ?_
           rintro e w23 ⟨rfl, hb⟩
           have HS13_ := (hb.cell (World.block_lt_of_cell? _ _ (hHeld.2.2.2.2.2.2.2.2.2.2.2.2.2.1))).trans (hHeld.2.2.2.2.2.2.2.2.2.2.2.2.2.1)
           have HS14_ := (hb.cell (World.block_lt_of_cell? _ _ (hHeld.2.2.2.2.2.2.2.2.2.2.2.2.2.2.1))).trans (hHeld.2.2.2.2.2.2.2.2.2.2.2.2.2.2.1)
           have HS15_ := (hb.cell (World.block_lt_of_cell? _ _ (hHeld.2.2.2.2.2.2.2.2.2.2.2.2.2.2.2.1))).trans (hHeld.2.2.2.2.2.2.2.2.2.2.2.2.2.2.2.1)
           have HS16_ := (hb.cell (World.block_lt_of_cell? _ _ (hHeld.2.2.2.2.2.2.2.2.2.2.2.2.2.2.2.2.1))).trans (hHeld.2.2.2.2.2.2.2.2.2.2.2.2.2.2.2.2.1)
           have HS17_ := (hb.cell (World.block_lt_of_cell? _ _ (hHeld.2.2.2.2.2.2.2.2.2.2.2.2.2.2.2.2.2.1))).trans (hHeld.2.2.2.2.2.2.2.2.2.2.2.2.2.2.2.2.2.1)
           have HS18_ := (hb.cell (World.block_lt_of_cell? _ _ (hHeld.2.2.2.2.2.2.2.2.2.2.2.2.2.2.2.2.2.2))).trans (hHeld.2.2.2.2.2.2.2.2.2.2.2.2.2.2.2.2.2.2)
           refine ⟨_, rfl, ?_⟩
           replace HO_3 := Aside0.mk (Kd.R_below zq16_ hb)
           replace BK348 := Aside0.mk (blk_below (zqK_ BK348.out) hb)
           replace HB := Aside0.mk (below_step (zqB1_ GE348.out) hb)
           (try clear hb)
           (try clear hb2)
           (try clear hk)
           (try clear hi)
           refine hK.out _ _ ⟨(blk_cell BK348.out 0).trans rfl, (blk_cell BK348.out 1).trans rfl, (blk_cell BK348.out 2).trans rfl, (blk_cell BK348.out 3).trans rfl, (blk_cell BK348.out 4).trans rfl, (blk_cell BK348.out 5).trans rfl, (blk_cell BK348.out 6).trans rfl, (blk_cell BK348.out 7).trans rfl, (blk_cell BK348.out 8).trans rfl, (blk_cell BK348.out 9).trans rfl, (blk_cell BK348.out 10).trans rfl, (blk_cell BK348.out 11).trans rfl, (blk_cell BK348.out 12).trans rfl, HS13_, HS14_, HS15_, HS16_, HS17_, HS18_⟩ (fun hHeld => ?_)
           clear hK K
           refine norm_ (a' := ?_) ?_ ?_
           rotate_left
           ·show Act.put _ (some 43) _ = _
            simp only [Act.put, List.setIfInBounds_toArray, List.set_cons_zero, List.set_cons_succ, i64_w, i32_w]
            rfl
           refine zqp_ 22 44 HT_ ?_
           refine zqp_ 23 45 HT_ ?_
           refine zqp_ 24 46 HT_ ?_
           refine done_ (done_of HT_.out (by kernel_rfl)) ?_
           try go_wp2
           go_roundg k1
           case measure => have := HK1.out; omega
           case rel => exact ⟨(wrap64 (x4_1 + 1)), zq4_, H', ⟨by have := HK1.out; omega⟩, ⟨by (with_reducible repeat (first | apply Kd.R_alloc | apply Kd.R_drewN | apply Kd.R_drew)); exact HO_3.out⟩, ⟨by (with_reducible repeat (first | refine blk_drewN ?_ _ | refine blk_drew ?_ | refine blk_alloc ?_ _)); exact BK348.out⟩, ⟨by repeat (first | (with_reducible first | exact HB.out | apply below_alloc | apply pw_below_drewN | apply below_drew1 | refine below_set ?_ GE348.out) | exact HB.out)⟩⟩
          ·replace c19 := Bool.eq_false_iff.mpr c19
           subst c19
           have H1 : (some false) = some r := by rw [if_neg (show ¬ (false = true) by decide)] at H; exact H
           clear H
           have H := H1
           clear H1
           obtain rfl := Option.some.inj H
           obtain ⟨Ao24, co24, eo24⟩ := Kd.R_slice HO_3.out
           subst eo24
           try go_wp2
           replace HO_3 := Aside0.mk (Kd.R_drew HO_3.out)
           replace BK348 := Aside0.mk (blk_drew BK348.out)
           replace HB := Aside0.mk (below_drew1 HB.out)
           have p356 : 0 ≤ (x4_1 : Int) := of_decide_eq_true zq2_
           have q356 : x4_1 < (t349.length : Int) := of_decide_eq_true zq2_
           obtain ⟨ad356, e356, hx356_0, hx356_1⟩ := at_T23 (Kd.R_reads' HO_3.out).2.2 x4_1 p356 q356
           cases e356
           replace p356 := eq_true p356
           replace q356 := eq_true q356
           have p358 : 0 ≤ ((ji15) : Int) := of_decide_eq_true zq2_
           have q358 : (ji15) < (t349.length : Int) := of_decide_eq_true zq2_
           obtain ⟨ad358, e358, hx358_0, hx358_1⟩ := at_T23 (Kd.R_reads' HO_3.out).2.2 (ji15) p358 q358
           obtain rfl : ad356 = ad358 := (by injection e358)
           replace p358 := eq_true p358
           replace q358 := eq_true q358
           have p359 : 0 ≤ (x4_1 : Int) := of_decide_eq_true zq2_
           have q359 : x4_1 < (t349.length : Int) := of_decide_eq_true zq2_
           obtain ⟨ad359, e359, hx359_0, hx359_1⟩ := at_T23 (Kd.R_reads' HO_3.out).2.2 x4_1 p359 q359
           obtain rfl : ad356 = ad359 := (by injection e359)
           replace p359 := eq_true p359
           replace q359 := eq_true q359
           refine start_ (n := 25) (S := fun w' => w'.cell? ⟨gb348, 0, none⟩ = some (.int .i64 a0_0) ∧ w'.cell? ⟨gb348, 1, none⟩ = some (.int .i64 a0_1) ∧ w'.cell? ⟨gb348, 2, none⟩ = some (.int .i64 a0_2) ∧ w'.cell? ⟨gb348, 3, none⟩ = some (.slice A0_3 l0_3.length c0_3) ∧ w'.cell? ⟨gb348, 4, none⟩ = some (.int .i64 a0_4) ∧ w'.cell? ⟨gb348, 5, none⟩ = some (.int .i64 a0_5) ∧ w'.cell? ⟨gb348, 6, none⟩ = some (.int .i64 a0_6) ∧ w'.cell? ⟨gb348, 7, none⟩ = some (.int .i64 a0_7) ∧ w'.cell? ⟨gb348, 8, none⟩ = some (.int .i64 a0_8) ∧ w'.cell? ⟨gb348, 9, none⟩ = some (.int .i64 a0_9) ∧ w'.cell? ⟨gb348, 10, none⟩ = some (.int .i64 a0_10) ∧ w'.cell? ⟨gb348, 11, none⟩ = some (.string a0_11) ∧ w'.cell? ⟨gb348, 12, none⟩ = some (.string a0_12) ∧ w'.cell? (ad356.add ((x4_1).toNat * 2)) = some (.int .i64 ((rd_T23 t349 x4_1).f0)) ∧ w'.cell? ⟨(ad356.add ((x4_1).toNat * 2)).block, (ad356.add ((x4_1).toNat * 2)).off + 1, none⟩ = some (.int .i64 ((rd_T23 t349 x4_1).f1)) ∧ w'.cell? (ad356.add (((ji15)).toNat * 2)) = some (.int .i64 ((rd_T23 t349 (ji15)).f0)) ∧ w'.cell? ⟨(ad356.add (((ji15)).toNat * 2)).block, (ad356.add (((ji15)).toNat * 2)).off + 1, none⟩ = some (.int .i64 ((rd_T23 t349 (ji15)).f1)) ∧ w'.cell? (ad356.add ((x4_1).toNat * 2)) = some (.int .i64 ((rd_T23 t349 x4_1).f0)) ∧ w'.cell? ⟨(ad356.add ((x4_1).toNat * 2)).block, (ad356.add ((x4_1).toNat * 2)).off + 1, none⟩ = some (.int .i64 ((rd_T23 t349 x4_1).f1))) (ds := []) #[false, false, false, false, false, false, false, false, false, false, false, false, false, false, false, false, false, false, false, false, false, false, false, false, false] (by kernel_rfl) rfl rfl ⟨(blk_cell BK348.out 0).trans rfl, (blk_cell BK348.out 1).trans rfl, (blk_cell BK348.out 2).trans rfl, (blk_cell BK348.out 3).trans rfl, (blk_cell BK348.out 4).trans rfl, (blk_cell BK348.out 5).trans rfl, (blk_cell BK348.out 6).trans rfl, (blk_cell BK348.out 7).trans rfl, (blk_cell BK348.out 8).trans rfl, (blk_cell BK348.out 9).trans rfl, (blk_cell BK348.out 10).trans rfl, (blk_cell BK348.out 11).trans rfl, (blk_cell BK348.out 12).trans rfl, hx356_0, hx356_1, hx358_0, hx358_1, hx359_0, hx359_1⟩ (fun hHeld => ?_); refine with_tabW topiarylaw05_ChangeAhead.tab7 topiarylaw05_ChangeAhead.bits7 (fun HT_ HW_ => ?_)
           generalize wr.drew = w25 at HO_3 BK348 HB hx356_0 hx356_1 hx358_0 hx358_1 hx359_0 hx359_1 hHeld ⊢
           refine zqp_ 0 22 HT_ ?_
           refine zqp_ 1 23 HT_ ?_
           refine zqp_ 2 24 HT_ ?_
           refine zqp_ 4 26 HT_ ?_
           refine zqt19_ 3 25 HT_ HW_ hHeld ?_
           refine zqt19_ 5 27 HT_ HW_ hHeld ?_
           refine zqo_ 6 28 HT_ (fun K hK => ?_)
           refine goes_ Tryz.func20 (by kernel_rfl) rfl #[.agg #[.int .i64 ((rd_T23 t349 x4_1).f0), .int .i64 ((rd_T23 t349 x4_1).f1)], .agg #[.int .i64 a0_0, .int .i64 a0_1]] (by rfl) rfl rfl zq11_ ?_
           with_reducible refine (topiaryref01_Less.calls ((rd_T23 t349 x4_1).f0) ((rd_T23 t349 x4_1).f1) a0_0 a0_1 true _ A12.out).mono ?_
           rintro e w26 ⟨rfl, hb⟩
           have HS13_ := (hb.cell (World.block_lt_of_cell? _ _ (hHeld.2.2.2.2.2.2.2.2.2.2.2.2.2.1))).trans (hHeld.2.2.2.2.2.2.2.2.2.2.2.2.2.1)
           have HS14_ := (hb.cell (World.block_lt_of_cell? _ _ (hHeld.2.2.2.2.2.2.2.2.2.2.2.2.2.2.1))).trans (hHeld.2.2.2.2.2.2.2.2.2.2.2.2.2.2.1)
           have HS15_ := (hb.cell (World.block_lt_of_cell? _ _ (hHeld.2.2.2.2.2.2.2.2.2.2.2.2.2.2.2.1))).trans (hHeld.2.2.2.2.2.2.2.2.2.2.2.2.2.2.2.1)
           have HS16_ := (hb.cell (World.block_lt_of_cell? _ _ (hHeld.2.2.2.2.2.2.2.2.2.2.2.2.2.2.2.2.1))).trans (hHeld.2.2.2.2.2.2.2.2.2.2.2.2.2.2.2.2.1)
           have HS17_ := (hb.cell (World.block_lt_of_cell? _ _ (hHeld.2.2.2.2.2.2.2.2.2.2.2.2.2.2.2.2.2.1))).trans (hHeld.2.2.2.2.2.2.2.2.2.2.2.2.2.2.2.2.2.1)
           have HS18_ := (hb.cell (World.block_lt_of_cell? _ _ (hHeld.2.2.2.2.2.2.2.2.2.2.2.2.2.2.2.2.2.2))).trans (hHeld.2.2.2.2.2.2.2.2.2.2.2.2.2.2.2.2.2.2)
           refine ⟨_, rfl, ?_⟩
           replace HO_3 := Aside0.mk (Kd.R_below zq16_ hb)
           replace BK348 := Aside0.mk (blk_below (zqK_ BK348.out) hb)
           replace HB := Aside0.mk (below_step (zqB1_ GE348.out) hb)
           (try clear hb)
           (try clear hb2)
           (try clear hk)
           (try clear hi)
           refine hK.out _ _ ⟨(blk_cell BK348.out 0).trans rfl, (blk_cell BK348.out 1).trans rfl, (blk_cell BK348.out 2).trans rfl, (blk_cell BK348.out 3).trans rfl, (blk_cell BK348.out 4).trans rfl, (blk_cell BK348.out 5).trans rfl, (blk_cell BK348.out 6).trans rfl, (blk_cell BK348.out 7).trans rfl, (blk_cell BK348.out 8).trans rfl, (blk_cell BK348.out 9).trans rfl, (blk_cell BK348.out 10).trans rfl, (blk_cell BK348.out 11).trans rfl, (blk_cell BK348.out 12).trans rfl, HS13_, HS14_, HS15_, HS16_, HS17_, HS18_⟩ (fun hHeld => ?_)
           clear hK K
           refine norm_ (a' := ?_) ?_ ?_
           rotate_left
           ·show Act.put _ (some 28) _ = _
            simp only [Act.put, List.setIfInBounds_toArray, List.set_cons_zero, List.set_cons_succ, i64_w, i32_w]
            rfl
           refine zqp_ 7 29 HT_ ?_
           refine zqp_ 8 30 HT_ ?_
           refine zqp_ 9 31 HT_ ?_
           refine zqp_ 10 32 HT_ ?_
           refine zqp_ 11 33 HT_ ?_
           refine zqp_ 12 34 HT_ ?_
           refine zqp_ 13 35 HT_ ?_
           refine zqp_ 14 36 HT_ ?_
           refine zqp_ 15 37 HT_ ?_
           refine zqp_ 17 39 HT_ ?_
           refine zqp_ 18 40 HT_ ?_
           refine zqp_ 19 41 HT_ ?_
           refine zqt19_ 16 38 HT_ HW_ hHeld ?_
           refine zqt19_ 20 42 HT_ HW_ hHeld ?_
           refine zqo_ 21 43 HT_ (fun K hK => ?_)
           refine goes_ Tryz.func20 (by kernel_rfl) rfl #[.agg #[.int .i64 ((rd_T23 t349 (ji15)).f0), .int .i64 ((rd_T23 t349 (ji15)).f1)], .agg #[.int .i64 ((rd_T23 t349 x4_1).f0), .int .i64 ((rd_T23 t349 x4_1).f1)]] (by rfl) rfl rfl (by (try simp only [List.map_toArray, List.map_cons, List.map_nil]); first | done | (simp only [hji15]; rfl) | rfl | (simp only [List.length_drop, List.length_take]; rfl)) ?_
           with_reducible refine (topiaryref01_Less.calls ((rd_T23 t349 (ji15)).f0) ((rd_T23 t349 (ji15)).f1) ((rd_T23 t349 x4_1).f0) ((rd_T23 t349 x4_1).f1) false _ A18.out).mono ?_
           rintro e w27 ⟨rfl, hb⟩
           have HS13_ := (hb.cell (World.block_lt_of_cell? _ _ (hHeld.2.2.2.2.2.2.2.2.2.2.2.2.2.1))).trans (hHeld.2.2.2.2.2.2.2.2.2.2.2.2.2.1)
           have HS14_ := (hb.cell (World.block_lt_of_cell? _ _ (hHeld.2.2.2.2.2.2.2.2.2.2.2.2.2.2.1))).trans (hHeld.2.2.2.2.2.2.2.2.2.2.2.2.2.2.1)
           have HS15_ := (hb.cell (World.block_lt_of_cell? _ _ (hHeld.2.2.2.2.2.2.2.2.2.2.2.2.2.2.2.1))).trans (hHeld.2.2.2.2.2.2.2.2.2.2.2.2.2.2.2.1)
           have HS16_ := (hb.cell (World.block_lt_of_cell? _ _ (hHeld.2.2.2.2.2.2.2.2.2.2.2.2.2.2.2.2.1))).trans (hHeld.2.2.2.2.2.2.2.2.2.2.2.2.2.2.2.2.1)
           have HS17_ := (hb.cell (World.block_lt_of_cell? _ _ (hHeld.2.2.2.2.2.2.2.2.2.2.2.2.2.2.2.2.2.1))).trans (hHeld.2.2.2.2.2.2.2.2.2.2.2.2.2.2.2.2.2.1)
           have HS18_ := (hb.cell (World.block_lt_of_cell? _ _ (hHeld.2.2.2.2.2.2.2.2.2.2.2.2.2.2.2.2.2.2))).trans (hHeld.2.2.2.2.2.2.2.2.2.2.2.2.2.2.2.2.2.2)
           refine ⟨_, rfl, ?_⟩
           replace HO_3 := Aside0.mk (Kd.R_below zq16_ hb)
           replace BK348 := Aside0.mk (blk_below (zqK_ BK348.out) hb)
           replace HB := Aside0.mk (below_step (zqB1_ GE348.out) hb)
           (try clear hb)
           (try clear hb2)
           (try clear hk)
           (try clear hi)
           refine hK.out _ _ ⟨(blk_cell BK348.out 0).trans rfl, (blk_cell BK348.out 1).trans rfl, (blk_cell BK348.out 2).trans rfl, (blk_cell BK348.out 3).trans rfl, (blk_cell BK348.out 4).trans rfl, (blk_cell BK348.out 5).trans rfl, (blk_cell BK348.out 6).trans rfl, (blk_cell BK348.out 7).trans rfl, (blk_cell BK348.out 8).trans rfl, (blk_cell BK348.out 9).trans rfl, (blk_cell BK348.out 10).trans rfl, (blk_cell BK348.out 11).trans rfl, (blk_cell BK348.out 12).trans rfl, HS13_, HS14_, HS15_, HS16_, HS17_, HS18_⟩ (fun hHeld => ?_)
           clear hK K
           refine norm_ (a' := ?_) ?_ ?_
           rotate_left
           ·show Act.put _ (some 43) _ = _
            simp only [Act.put, List.setIfInBounds_toArray, List.set_cons_zero, List.set_cons_succ, i64_w, i32_w]
            rfl
           refine zqp_ 22 44 HT_ ?_
           refine zqp_ 23 45 HT_ ?_
           refine zqp_ 24 46 HT_ ?_
           refine done_ (done_of HT_.out (by kernel_rfl)) ?_
           try go_wp2
           go_ret
           exact ⟨by first | rfl | (simp [errW_none, errW_some] <;> rfl) | (simp only [← hji15]; first | rfl | (simp [errW_none, errW_some] <;> rfl)) | (simp [*, errW_none, errW_some] <;> rfl), by repeat (first | (with_reducible first | exact HB.out | apply below_alloc | apply pw_below_drewN | apply below_drew1 | refine below_set ?_ GE348.out) | exact HB.out)⟩
         ·rw [if_neg c17] at H
          exact absurd H (by simp)
        ·rw [if_neg c16] at H
         exact absurd H (by simp)
       ·rw [if_neg c14] at H
        have c14b0 : decide (0 < x4_1) = false := decide_eq_false c14
        clear c14
        have H' := Aside0.mk H
        clear H
        obtain ⟨Ao28, co28, eo28⟩ := Kd.R_slice HO_3.out
        subst eo28
        try go_wp2
        replace HO_3 := Aside0.mk (Kd.R_drew HO_3.out)
        replace BK348 := Aside0.mk (blk_drew BK348.out)
        replace HB := Aside0.mk (below_drew1 HB.out)
        have p356 : 0 ≤ (x4_1 : Int) := of_decide_eq_true zq2_
        have q356 : x4_1 < (t349.length : Int) := of_decide_eq_true zq2_
        obtain ⟨ad356, e356, hx356_0, hx356_1⟩ := at_T23 (Kd.R_reads' HO_3.out).2.2 x4_1 p356 q356
        cases e356
        replace p356 := eq_true p356
        replace q356 := eq_true q356
        refine start_ (n := 25) (S := fun w' => w'.cell? ⟨gb348, 0, none⟩ = some (.int .i64 a0_0) ∧ w'.cell? ⟨gb348, 1, none⟩ = some (.int .i64 a0_1) ∧ w'.cell? ⟨gb348, 2, none⟩ = some (.int .i64 a0_2) ∧ w'.cell? ⟨gb348, 3, none⟩ = some (.slice A0_3 l0_3.length c0_3) ∧ w'.cell? ⟨gb348, 4, none⟩ = some (.int .i64 a0_4) ∧ w'.cell? ⟨gb348, 5, none⟩ = some (.int .i64 a0_5) ∧ w'.cell? ⟨gb348, 6, none⟩ = some (.int .i64 a0_6) ∧ w'.cell? ⟨gb348, 7, none⟩ = some (.int .i64 a0_7) ∧ w'.cell? ⟨gb348, 8, none⟩ = some (.int .i64 a0_8) ∧ w'.cell? ⟨gb348, 9, none⟩ = some (.int .i64 a0_9) ∧ w'.cell? ⟨gb348, 10, none⟩ = some (.int .i64 a0_10) ∧ w'.cell? ⟨gb348, 11, none⟩ = some (.string a0_11) ∧ w'.cell? ⟨gb348, 12, none⟩ = some (.string a0_12) ∧ w'.cell? (ad356.add ((x4_1).toNat * 2)) = some (.int .i64 ((rd_T23 t349 x4_1).f0)) ∧ w'.cell? ⟨(ad356.add ((x4_1).toNat * 2)).block, (ad356.add ((x4_1).toNat * 2)).off + 1, none⟩ = some (.int .i64 ((rd_T23 t349 x4_1).f1))) (ds := []) #[false, false, false, false, false, false, false, false, false, false, false, false, false, false, false, false, false, false, false, false, false, false, false, false, false] (by kernel_rfl) rfl rfl ⟨(blk_cell BK348.out 0).trans rfl, (blk_cell BK348.out 1).trans rfl, (blk_cell BK348.out 2).trans rfl, (blk_cell BK348.out 3).trans rfl, (blk_cell BK348.out 4).trans rfl, (blk_cell BK348.out 5).trans rfl, (blk_cell BK348.out 6).trans rfl, (blk_cell BK348.out 7).trans rfl, (blk_cell BK348.out 8).trans rfl, (blk_cell BK348.out 9).trans rfl, (blk_cell BK348.out 10).trans rfl, (blk_cell BK348.out 11).trans rfl, (blk_cell BK348.out 12).trans rfl, hx356_0, hx356_1⟩ (fun hHeld => ?_); refine with_tabW topiarylaw05_ChangeAhead.tab7 topiarylaw05_ChangeAhead.bits7 (fun HT_ HW_ => ?_)
        generalize wr.drew = w29 at HO_3 BK348 HB hx356_0 hx356_1 hHeld ⊢
        refine zqp_ 0 22 HT_ ?_
        refine zqp_ 1 23 HT_ ?_
        refine zqp_ 2 24 HT_ ?_
        refine zqp_ 4 26 HT_ ?_
        refine zqt15_ 3 25 HT_ HW_ hHeld ?_
        refine zqt15_ 5 27 HT_ HW_ hHeld ?_
        refine zqo_ 6 28 HT_ (fun K hK => ?_)
        refine goes_ Tryz.func20 (by kernel_rfl) rfl #[.agg #[.int .i64 ((rd_T23 t349 x4_1).f0), .int .i64 ((rd_T23 t349 x4_1).f1)], .agg #[.int .i64 a0_0, .int .i64 a0_1]] (by rfl) rfl rfl zq11_ ?_
        with_reducible refine (topiaryref01_Less.calls ((rd_T23 t349 x4_1).f0) ((rd_T23 t349 x4_1).f1) a0_0 a0_1 true _ A12.out).mono ?_
        rintro e w30 ⟨rfl, hb⟩
        have HS13_ := (hb.cell (World.block_lt_of_cell? _ _ (hHeld.2.2.2.2.2.2.2.2.2.2.2.2.2.1))).trans (hHeld.2.2.2.2.2.2.2.2.2.2.2.2.2.1)
        have HS14_ := (hb.cell (World.block_lt_of_cell? _ _ (hHeld.2.2.2.2.2.2.2.2.2.2.2.2.2.2))).trans (hHeld.2.2.2.2.2.2.2.2.2.2.2.2.2.2)
        refine ⟨_, rfl, ?_⟩
        replace HO_3 := Aside0.mk (Kd.R_below zq16_ hb)
        replace BK348 := Aside0.mk (blk_below (zqK_ BK348.out) hb)
        replace HB := Aside0.mk (below_step (zqB1_ GE348.out) hb)
        (try clear hb)
        (try clear hb2)
        (try clear hk)
        (try clear hi)
        refine hK.out _ _ ⟨(blk_cell BK348.out 0).trans rfl, (blk_cell BK348.out 1).trans rfl, (blk_cell BK348.out 2).trans rfl, (blk_cell BK348.out 3).trans rfl, (blk_cell BK348.out 4).trans rfl, (blk_cell BK348.out 5).trans rfl, (blk_cell BK348.out 6).trans rfl, (blk_cell BK348.out 7).trans rfl, (blk_cell BK348.out 8).trans rfl, (blk_cell BK348.out 9).trans rfl, (blk_cell BK348.out 10).trans rfl, (blk_cell BK348.out 11).trans rfl, (blk_cell BK348.out 12).trans rfl, HS13_, HS14_⟩ (fun hHeld => ?_)
        clear hK K
        refine norm_ (a' := ?_) ?_ ?_
        rotate_left
        ·show Act.put _ (some 28) _ = _
         simp only [Act.put, List.setIfInBounds_toArray, List.set_cons_zero, List.set_cons_succ, i64_w, i32_w]
         rfl
        refine zqp_ 7 29 HT_ ?_
        refine zqp_ 8 30 HT_ ?_
        refine zqp_ 9 31 HT_ ?_
        refine zqp_ 10 32 HT_ ?_
        refine zqp_ 11 33 HT_ ?_
        refine zqu_ 12 34 HT_ ?_
        refine zqu_ 13 35 HT_ ?_
        refine zqu_ 14 36 HT_ ?_
        refine zqu_ 15 37 HT_ ?_
        refine zqu_ 16 38 HT_ ?_
        refine zqu_ 17 39 HT_ ?_
        refine zqu_ 18 40 HT_ ?_
        refine zqu_ 19 41 HT_ ?_
        refine zqu_ 20 42 HT_ ?_
        refine zqu_ 21 43 HT_ ?_
        refine zqu_ 22 44 HT_ ?_
        refine zqp_ 23 45 HT_ ?_
        refine zqp_ 24 46 HT_ ?_
        refine done_ (done_of HT_.out (by kernel_rfl)) ?_
        try go_wp2
        go_roundg k1
        case measure => have := HK1.out; omega
        case rel => exact ⟨(wrap64 (x4_1 + 1)), zq4_, H', ⟨by have := HK1.out; omega⟩, ⟨by (with_reducible repeat (first | apply Kd.R_alloc | apply Kd.R_drewN | apply Kd.R_drew)); exact HO_3.out⟩, ⟨by (with_reducible repeat (first | refine blk_drewN ?_ _ | refine blk_drew ?_ | refine blk_alloc ?_ _)); exact BK348.out⟩, ⟨by repeat (first | (with_reducible first | exact HB.out | apply below_alloc | apply pw_below_drewN | apply below_drew1 | refine below_set ?_ GE348.out) | exact HB.out)⟩⟩
      ·replace c13 := Bool.eq_false_iff.mpr c13
       subst c13
       have H1 : (some false) = some r := by rw [if_neg (show ¬ (false = true) by decide)] at H; exact H
       clear H
       have H := H1
       clear H1
       obtain rfl := Option.some.inj H
       obtain ⟨Ao31, co31, eo31⟩ := Kd.R_slice HO_3.out
       subst eo31
       try go_wp2
       replace HO_3 := Aside0.mk (Kd.R_drew HO_3.out)
       replace BK348 := Aside0.mk (blk_drew BK348.out)
       replace HB := Aside0.mk (below_drew1 HB.out)
       have p356 : 0 ≤ (x4_1 : Int) := of_decide_eq_true zq2_
       have q356 : x4_1 < (t349.length : Int) := of_decide_eq_true zq2_
       obtain ⟨ad356, e356, hx356_0, hx356_1⟩ := at_T23 (Kd.R_reads' HO_3.out).2.2 x4_1 p356 q356
       cases e356
       replace p356 := eq_true p356
       replace q356 := eq_true q356
       refine start_ (n := 25) (S := fun w' => w'.cell? ⟨gb348, 0, none⟩ = some (.int .i64 a0_0) ∧ w'.cell? ⟨gb348, 1, none⟩ = some (.int .i64 a0_1) ∧ w'.cell? ⟨gb348, 2, none⟩ = some (.int .i64 a0_2) ∧ w'.cell? ⟨gb348, 3, none⟩ = some (.slice A0_3 l0_3.length c0_3) ∧ w'.cell? ⟨gb348, 4, none⟩ = some (.int .i64 a0_4) ∧ w'.cell? ⟨gb348, 5, none⟩ = some (.int .i64 a0_5) ∧ w'.cell? ⟨gb348, 6, none⟩ = some (.int .i64 a0_6) ∧ w'.cell? ⟨gb348, 7, none⟩ = some (.int .i64 a0_7) ∧ w'.cell? ⟨gb348, 8, none⟩ = some (.int .i64 a0_8) ∧ w'.cell? ⟨gb348, 9, none⟩ = some (.int .i64 a0_9) ∧ w'.cell? ⟨gb348, 10, none⟩ = some (.int .i64 a0_10) ∧ w'.cell? ⟨gb348, 11, none⟩ = some (.string a0_11) ∧ w'.cell? ⟨gb348, 12, none⟩ = some (.string a0_12) ∧ w'.cell? (ad356.add ((x4_1).toNat * 2)) = some (.int .i64 ((rd_T23 t349 x4_1).f0)) ∧ w'.cell? ⟨(ad356.add ((x4_1).toNat * 2)).block, (ad356.add ((x4_1).toNat * 2)).off + 1, none⟩ = some (.int .i64 ((rd_T23 t349 x4_1).f1))) (ds := []) #[false, false, false, false, false, false, false, false, false, false, false, false, false, false, false, false, false, false, false, false, false, false, false, false, false] (by kernel_rfl) rfl rfl ⟨(blk_cell BK348.out 0).trans rfl, (blk_cell BK348.out 1).trans rfl, (blk_cell BK348.out 2).trans rfl, (blk_cell BK348.out 3).trans rfl, (blk_cell BK348.out 4).trans rfl, (blk_cell BK348.out 5).trans rfl, (blk_cell BK348.out 6).trans rfl, (blk_cell BK348.out 7).trans rfl, (blk_cell BK348.out 8).trans rfl, (blk_cell BK348.out 9).trans rfl, (blk_cell BK348.out 10).trans rfl, (blk_cell BK348.out 11).trans rfl, (blk_cell BK348.out 12).trans rfl, hx356_0, hx356_1⟩ (fun hHeld => ?_); refine with_tabW topiarylaw05_ChangeAhead.tab7 topiarylaw05_ChangeAhead.bits7 (fun HT_ HW_ => ?_)
       generalize wr.drew = w32 at HO_3 BK348 HB hx356_0 hx356_1 hHeld ⊢
       refine zqp_ 0 22 HT_ ?_
       refine zqp_ 1 23 HT_ ?_
       refine zqp_ 2 24 HT_ ?_
       refine zqp_ 4 26 HT_ ?_
       refine zqt15_ 3 25 HT_ HW_ hHeld ?_
       refine zqt15_ 5 27 HT_ HW_ hHeld ?_
       refine zqo_ 6 28 HT_ (fun K hK => ?_)
       refine goes_ Tryz.func20 (by kernel_rfl) rfl #[.agg #[.int .i64 ((rd_T23 t349 x4_1).f0), .int .i64 ((rd_T23 t349 x4_1).f1)], .agg #[.int .i64 a0_0, .int .i64 a0_1]] (by rfl) rfl rfl zq11_ ?_
       with_reducible refine (topiaryref01_Less.calls ((rd_T23 t349 x4_1).f0) ((rd_T23 t349 x4_1).f1) a0_0 a0_1 false _ A12.out).mono ?_
       rintro e w33 ⟨rfl, hb⟩
       have HS13_ := (hb.cell (World.block_lt_of_cell? _ _ (hHeld.2.2.2.2.2.2.2.2.2.2.2.2.2.1))).trans (hHeld.2.2.2.2.2.2.2.2.2.2.2.2.2.1)
       have HS14_ := (hb.cell (World.block_lt_of_cell? _ _ (hHeld.2.2.2.2.2.2.2.2.2.2.2.2.2.2))).trans (hHeld.2.2.2.2.2.2.2.2.2.2.2.2.2.2)
       refine ⟨_, rfl, ?_⟩
       replace HO_3 := Aside0.mk (Kd.R_below zq16_ hb)
       replace BK348 := Aside0.mk (blk_below (zqK_ BK348.out) hb)
       replace HB := Aside0.mk (below_step (zqB1_ GE348.out) hb)
       (try clear hb)
       (try clear hb2)
       (try clear hk)
       (try clear hi)
       refine hK.out _ _ ⟨(blk_cell BK348.out 0).trans rfl, (blk_cell BK348.out 1).trans rfl, (blk_cell BK348.out 2).trans rfl, (blk_cell BK348.out 3).trans rfl, (blk_cell BK348.out 4).trans rfl, (blk_cell BK348.out 5).trans rfl, (blk_cell BK348.out 6).trans rfl, (blk_cell BK348.out 7).trans rfl, (blk_cell BK348.out 8).trans rfl, (blk_cell BK348.out 9).trans rfl, (blk_cell BK348.out 10).trans rfl, (blk_cell BK348.out 11).trans rfl, (blk_cell BK348.out 12).trans rfl, HS13_, HS14_⟩ (fun hHeld => ?_)
       clear hK K
       refine norm_ (a' := ?_) ?_ ?_
       rotate_left
       ·show Act.put _ (some 28) _ = _
        simp only [Act.put, List.setIfInBounds_toArray, List.set_cons_zero, List.set_cons_succ, i64_w, i32_w]
        rfl
       refine zqp_ 7 29 HT_ ?_
       refine zqp_ 8 30 HT_ ?_
       refine zqu_ 9 31 HT_ ?_
       refine zqu_ 10 32 HT_ ?_
       refine zqu_ 11 33 HT_ ?_
       refine zqu_ 12 34 HT_ ?_
       refine zqu_ 13 35 HT_ ?_
       refine zqu_ 14 36 HT_ ?_
       refine zqu_ 15 37 HT_ ?_
       refine zqu_ 16 38 HT_ ?_
       refine zqu_ 17 39 HT_ ?_
       refine zqu_ 18 40 HT_ ?_
       refine zqu_ 19 41 HT_ ?_
       refine zqu_ 20 42 HT_ ?_
       refine zqu_ 21 43 HT_ ?_
       refine zqu_ 22 44 HT_ ?_
       refine zqu_ 23 45 HT_ ?_
       refine zqp_ 24 46 HT_ ?_
       refine done_ (done_of HT_.out (by kernel_rfl)) ?_
       try go_wp2
       go_ret
       exact ⟨by first | rfl | (simp [errW_none, errW_some] <;> rfl) | (simp [*, errW_none, errW_some] <;> rfl), by repeat (first | (with_reducible first | exact HB.out | apply below_alloc | apply pw_below_drewN | apply below_drew1 | refine below_set ?_ GE348.out) | exact HB.out)⟩
     ·rw [if_neg c11] at H
      exact absurd H (by simp)
    ·rw [if_neg c10] at H
     have c10b0 : decide (x4_1 < (t349.length : Int)) = false := decide_eq_false c10
     clear c10
     by_cases c34 : (t349.length : Int) ≤ 3
     ·rw [if_pos c34] at H
      have c34b0 : decide ((t349.length : Int) ≤ 3) = true := decide_eq_true c34
      have c34b1 : decide (t349.length ≤ 3) = true := decide_eq_true (by omega)
      clear c34
      replace H := Option.bind_eq_some_iff.mp H
      obtain ⟨t355, A350, H⟩ := H
      replace H : (some t355) = some r := H
      have A35 := Aside0.mk A350
      clear A350
      obtain rfl := Option.some.inj H
      obtain ⟨Ao36, co36, eo36⟩ := Kd.R_slice HO_3.out
      subst eo36
      go_wp2_with (first | (go_at_call 13; (with_reducible refine (topiarylaw05_awake.calls k1  t355 _ (tabW_below_ HTAB.out (zqB1_ GE348.out)) A35.out).mono ?_); rintro e w37 ⟨rfl, hb⟩; replace HO_3 := Aside0.mk (Kd.R_below zq16_ hb); replace BK348 := Aside0.mk (blk_below (zqK_ BK348.out) hb); replace HB := Aside0.mk (below_step (zqB1_ GE348.out) hb); (try clear hb); (try clear hb2); (try clear hk); (try clear hi)))
      go_ret
      exact ⟨by first | rfl | (simp [errW_none, errW_some] <;> rfl) | (simp [*, errW_none, errW_some] <;> rfl), by repeat (first | (with_reducible first | exact HB.out | apply below_alloc | apply pw_below_drewN | apply below_drew1 | refine below_set ?_ GE348.out) | exact HB.out)⟩
     ·rw [if_neg c34] at H
      have c34b0 : decide ((t349.length : Int) ≤ 3) = false := decide_eq_false c34
      have c34b1 : decide (t349.length ≤ 3) = false := decide_eq_false (by omega)
      clear c34
      obtain rfl := Option.some.inj H
      obtain ⟨Ao38, co38, eo38⟩ := Kd.R_slice HO_3.out
      subst eo38
      go_wp2
      go_ret
      exact ⟨by first | rfl | (simp [errW_none, errW_some] <;> rfl) | (simp [*, errW_none, errW_some] <;> rfl), by repeat (first | (with_reducible first | exact HB.out | apply below_alloc | apply pw_below_drewN | apply below_drew1 | refine below_set ?_ GE348.out) | exact HB.out)⟩
 rotate_right
 focus
  rw [if_neg c4] at H
  have c4b0 : (t352 == 0) = false := beq_eq_false_iff_ne.mpr c4
  have c4b1 : (t352 != 0) = true := bne_iff_ne.mpr c4
  replace H := Option.bind_eq_some_iff.mp H
  obtain ⟨t353, A390, H⟩ := H
  have A39 := Aside0.mk A390
  clear A390
  by_cases c40 : t353 = 0
  focus
   rw [if_pos c40] at H
   have c40b0 : (t353 == 0) = true := beq_iff_eq.mpr c40
   have c40b1 : (t353 != 0) = false := bne_eq_false_iff_eq.mpr c40
   clear c40
   obtain rfl := Option.some.inj H
  rotate_right
  focus
   rw [if_neg c40] at H
   have c40b0 : (t353 == 0) = false := beq_eq_false_iff_ne.mpr c40
   have c40b1 : (t353 != 0) = true := bne_iff_ne.mpr c40
   replace H := Option.bind_eq_some_iff.mp H
   obtain ⟨t354, A480, H⟩ := H
   replace H : (some t354) = some r := H
   have A48 := Aside0.mk A480
   clear A480
   obtain rfl := Option.some.inj H
 all_goals
  go_enter Tryz.func6, Tryz.ntmps6
  go_wp2_with (first | ((with_reducible refine gate_dst (N := 1) rfl ?_); refine box_event ?hg (N := 1) ?hd (cs := #[.int .i64 a0_0, .int .i64 a0_1, .int .i64 a0_2, .slice A0_3 l0_3.length c0_3, .int .i64 a0_4, .int .i64 a0_5, .int .i64 a0_6, .int .i64 a0_7, .int .i64 a0_8, .int .i64 a0_9, .int .i64 a0_10, .string a0_11, .string a0_12]) (t := 26) ?hr ?_; (case hd => rfl); (case hg => rfl); (case hr => first | (go_simp; done) | (go_simp; rfl)); intro gbz1 hg wz1 hbox hb; have BK348 := Aside0.mk (hbox); have GWz1 := Aside0.mk ((zq9_ : w.heap.size ≤ gbz1)); have GEz1 := Aside0.mk ((zq9_ : w.heap.size ≤ gbz1)); replace HB := Aside0.mk (below_step zq0_ hb); clear hb hbox hg; obtain ⟨hczz2_0, hfzz2_0, hczz2_1, hfzz2_1, hczz2_2, hfzz2_2, hczz2_3, hfzz2_3, hczz2_4, hfzz2_4, hczz2_5, hfzz2_5, hczz2_6, hfzz2_6, hczz2_7, hfzz2_7, hczz2_8, hfzz2_8, hczz2_9, hfzz2_9, hczz2_10, hfzz2_10, hczz2_11, hfzz2_11, hczz2_12, hfzz2_12⟩ := zqC13_ BK348.out) | ((with_reducible refine gate_callee (f := 19) rfl ?_); refine zqG_ (some 6) rfl Tryz.func19 #[.agg #[.int .i64 a0_0, .int .i64 a0_1, .int .i64 a0_2, .slice A0_3 l0_3.length c0_3, .int .i64 a0_4, .int .i64 a0_5, .int .i64 a0_6, .int .i64 a0_7, .int .i64 a0_8, .int .i64 a0_9, .int .i64 a0_10, .string a0_11, .string a0_12]] rfl ?_; (with_reducible refine (change_Names.calls k a0_0 a0_1 a0_2 _ _ l0_3 a0_4 a0_5 a0_6 a0_7 a0_8 a0_9 a0_10 a0_11 a0_12 t349 _ ?side1 ?side2 A2.out).mono ?_); (case side1 => repeat (first | exact (Kd.C_below HR0_3.out HB.out) | (with_reducible refine Kd.C_alloc ?_ _) | (with_reducible refine Kd.C_drewN ?_ _) | (with_reducible refine Kd.C_drew ?_))); (case side2 => exact HC0_3.out); rintro e wz2 ⟨vz3, rfl, hoz4, hb⟩; refine ⟨_, rfl, ?_⟩; have HOz5 := Aside0.mk (Kd.R_lower hoz4 (below_size (zqB1_ GEz1.out))); replace BK348 := Aside0.mk (blk_below (zqK_ BK348.out) hb); replace HB := Aside0.mk (below_step (zqB1_ GEz1.out) hb); (try clear hb); (try clear hb2); (try clear hk); (try clear hi); (try clear hoz4); obtain ⟨hczz6_0, hfzz6_0, hczz6_1, hfzz6_1, hczz6_2, hfzz6_2, hczz6_3, hfzz6_3, hczz6_4, hfzz6_4, hczz6_5, hfzz6_5, hczz6_6, hfzz6_6, hczz6_7, hfzz6_7, hczz6_8, hfzz6_8, hczz6_9, hfzz6_9, hczz6_10, hfzz6_10, hczz6_11, hfzz6_11, hczz6_12, hfzz6_12⟩ := zqC13_ BK348.out) | ((with_reducible refine gate_callee (f := 8) rfl ?_); refine zqG_ (some 8) rfl Tryz.func8 #[.agg #[.int .i64 a0_0, .int .i64 a0_1, .int .i64 a0_2, .slice A0_3 l0_3.length c0_3, .int .i64 a0_4, .int .i64 a0_5, .int .i64 a0_6, .int .i64 a0_7, .int .i64 a0_8, .int .i64 a0_9, .int .i64 a0_10, .string a0_11, .string a0_12]] rfl ?_; (with_reducible refine (change_Check.calls k a0_0 a0_1 a0_2 _ _ l0_3 a0_4 a0_5 a0_6 a0_7 a0_8 a0_9 a0_10 a0_11 a0_12 t352 _ ?side1 ?side2 A3.out).mono ?_); (case side1 => repeat (first | exact (Kd.C_below HR0_3.out HB.out) | (with_reducible refine Kd.C_alloc ?_ _) | (with_reducible refine Kd.C_drewN ?_ _) | (with_reducible refine Kd.C_drew ?_))); (case side2 => exact HC0_3.out); rintro e wz3 ⟨rfl, hb⟩; refine ⟨_, rfl, ?_⟩; replace HOz5 := Aside0.mk (Kd.R_below (by (with_reducible repeat (first | apply Kd.R_alloc | apply Kd.R_drewN | apply Kd.R_drew)); exact HOz5.out) hb); replace BK348 := Aside0.mk (blk_below (zqK_ BK348.out) hb); replace HB := Aside0.mk (below_step (zqB1_ GEz1.out) hb); (try clear hb); (try clear hb2); (try clear hk); (try clear hi); obtain ⟨hczz7_0, hfzz7_0, hczz7_1, hfzz7_1, hczz7_2, hfzz7_2, hczz7_3, hfzz7_3, hczz7_4, hfzz7_4, hczz7_5, hfzz7_5, hczz7_6, hfzz7_6, hczz7_7, hfzz7_7, hczz7_8, hfzz7_8, hczz7_9, hfzz7_9, hczz7_10, hfzz7_10, hczz7_11, hfzz7_11, hczz7_12, hfzz7_12⟩ := zqC13_ BK348.out) | ((with_reducible refine gate_callee (f := 10) rfl ?_); refine zqG_ (some 11) rfl Tryz.func10 #[.agg #[.int .i64 a0_0, .int .i64 a0_1, .int .i64 a0_2, .slice A0_3 l0_3.length c0_3, .int .i64 a0_4, .int .i64 a0_5, .int .i64 a0_6, .int .i64 a0_7, .int .i64 a0_8, .int .i64 a0_9, .int .i64 a0_10, .string a0_11, .string a0_12]] rfl ?_; (with_reducible refine (topiaryref05_Check.calls k a0_0 a0_1 a0_2 _ _ l0_3 a0_4 a0_5 a0_6 a0_7 a0_8 a0_9 a0_10 a0_11 a0_12 t353 _ ?side1 ?side2 A39.out).mono ?_); (case side1 => repeat (first | exact (Kd.C_below HR0_3.out HB.out) | (with_reducible refine Kd.C_alloc ?_ _) | (with_reducible refine Kd.C_drewN ?_ _) | (with_reducible refine Kd.C_drew ?_))); (case side2 => exact HC0_3.out); rintro e wz4 ⟨rfl, hb⟩; refine ⟨_, rfl, ?_⟩; replace HOz5 := Aside0.mk (Kd.R_below (by (with_reducible repeat (first | apply Kd.R_alloc | apply Kd.R_drewN | apply Kd.R_drew)); exact HOz5.out) hb); replace BK348 := Aside0.mk (blk_below (zqK_ BK348.out) hb); replace HB := Aside0.mk (below_step (zqB1_ GEz1.out) hb); (try clear hb); (try clear hb2); (try clear hk); (try clear hi)) | (go_at_call 13; (with_reducible refine (topiarylaw05_awake.calls k  t354 _ (tabW_below_ HTAB.out (zqB1_ GEz1.out)) A48.out).mono ?_); rintro e wz5 ⟨rfl, hb⟩; replace HOz5 := Aside0.mk (Kd.R_below (by (with_reducible repeat (first | apply Kd.R_alloc | apply Kd.R_drewN | apply Kd.R_drew)); exact HOz5.out) hb); replace BK348 := Aside0.mk (blk_below (zqK_ BK348.out) hb); replace HB := Aside0.mk (below_step (zqB1_ GEz1.out) hb); (try clear hb); (try clear hb2); (try clear hk); (try clear hi)))
 ·go_ret
  exact ⟨by first | rfl | (simp [errW_none, errW_some] <;> rfl) | (simp [*, errW_none, errW_some] <;> rfl), by repeat (first | (with_reducible first | exact HB.out | apply below_alloc | apply pw_below_drewN | apply below_drew1 | refine below_set ?_ GEz1.out) | exact HB.out)⟩
 ·go_ret
  exact ⟨by first | rfl | (simp [errW_none, errW_some] <;> rfl) | (simp [*, errW_none, errW_some] <;> rfl), by repeat (first | (with_reducible first | exact HB.out | apply below_alloc | apply pw_below_drewN | apply below_drew1 | refine below_set ?_ GEz1.out) | exact HB.out)⟩

end Go.Proofs.YtgoolgmcbnikkaaGreatDoor.QChangeAhead
