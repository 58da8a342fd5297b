-- Own text of this seat, laid by the session's program ownprint.py (wip/tools). Lean checks it.
import Derived.Test.YtgoolgmcbnikkaaGreatDoorQChangeSamesx0
import Derived.Test.YtgoolgmcbnikkaaGreatDoorQChangeSamesx1
import Derived.Test.YtgoolgmcbnikkaaGreatDoorQChangeSamesx12
import Derived.Test.YtgoolgmcbnikkaaGreatDoorQChangeSamesx13
namespace Go.Proofs.YtgoolgmcbnikkaaGreatDoor.QChangeSames
open Go.RowKit Go.Proofs.YtgoolgmcbnikkaaGreatDoorW.PrintWords Go.Proofs.YtgoolgmcbnikkaaGreatDoorW.PrintLast Go.Proofs.YtgoolgmcbnikkaaGreatDoorW.PrintMore
attribute [local go_sem] max2_int min2_int max_two min_two max_three min_three max_four min_four   -- for this text's walks alone
set_option linter.unusedVariables false
set_option linter.unusedSimpArgs false

attribute [local go_sem high] eqA23
/-! ### topiaryref05_Names: function 24 -/
def topiaryref05_Names.l0 : Nat → List (S23) → List (S23) → Int → Int → Int → Int → List Int → Int → Int → Int → Int → Int → Int → Int → ByteArray → ByteArray → Option ((List (S23)))
 | 0, _, _, _, _, _, _, _, _, _, _, _, _, _, _, _, _ => none
 | k + 1, x3, x4, x5, x358000, x358001, x358002, x358003, x358004, x358005, x358006, x358007, x358008, x358009, x358010, x358011, x358012 => if x5 < (x3.length : Int) then (if 0 ≤ x5 then ((topiaryref01_Right.f ((rd_T23 x3 x5).f0) ((rd_T23 x3 x5).f1)).bind fun t365 => (if t365 = true then (if (!(((rd_T23 x3 x5).f0) == x358000) || (!(((rd_T23 x3 x5).f1) == x358001))) = true then ((topiaryref01_Put.f k x4 ((rd_T23 x3 x5).f0) ((rd_T23 x3 x5).f1)).bind fun t368 => (topiaryref05_Names.l0 k x3 t368 (wrap64 (x5 + 1)) x358000 x358001 x358002 x358003 x358004 x358005 x358006 x358007 x358008 x358009 x358010 x358011 x358012)) else (topiaryref05_Names.l0 k x3 x4 (wrap64 (x5 + 1)) x358000 x358001 x358002 x358003 x358004 x358005 x358006 x358007 x358008 x358009 x358010 x358011 x358012)) else (topiaryref05_Names.l0 k x3 x4 (wrap64 (x5 + 1)) x358000 x358001 x358002 x358003 x358004 x358005 x358006 x358007 x358008 x358009 x358010 x358011 x358012))) else (none)) else (some x4)
def topiaryref05_Names.f (k : Nat) (a0_0 : Int) (a0_1 : Int) (a0_2 : Int) (l0_3 : List Int) (a0_4 : Int) (a0_5 : Int) (a0_6 : Int) (a0_7 : Int) (a0_8 : Int) (a0_9 : Int) (a0_10 : Int) (a0_11 : ByteArray) (a0_12 : ByteArray) : Option ((List (S23))) := topiaryref05_Names.l0 k (([(⟨a0_5, a0_6⟩ : S23), (⟨a0_7, a0_8⟩ : S23), (⟨a0_9, a0_10⟩ : S23)] : List (S23))) (([] : List (S23))) 0 a0_0 a0_1 a0_2 l0_3 a0_4 a0_5 a0_6 a0_7 a0_8 a0_9 a0_10 a0_11 a0_12
theorem topiaryref05_Names.mono_l : ∀ k, (∀ y0 y1 y2 y3 y4 y5 y6 y7 y8 y9 y10 y11 y12 y13 y14 y15, LeO (topiaryref05_Names.l0 k y0 y1 y2 y3 y4 y5 y6 y7 y8 y9 y10 y11 y12 y13 y14 y15) (topiaryref05_Names.l0 (k + 1) y0 y1 y2 y3 y4 y5 y6 y7 y8 y9 y10 y11 y12 y13 y14 y15))
 | 0 => fun _ _ _ _ _ _ _ _ _ _ _ _ _ _ _ _ r h => by simp [topiaryref05_Names.l0] at h
 | k + 1 => by
  have ih0 := topiaryref05_Names.mono_l k
  ·intro y0 y1 y2 y3 y4 y5 y6 y7 y8 y9 y10 y11 y12 y13 y14 y15
   unfold topiaryref05_Names.l0
   repeat' first
   | (with_reducible exact ih0 _ _ _ _ _ _ _ _ _ _ _ _ _ _ _ _)
   | (with_reducible exact topiaryref01_Put.mono _ _ _ _)
   | (with_reducible exact LeO.refl _)
   | (with_reducible exact LeO.none _)
   | (with_reducible refine LeO.ite ?_ ?_)
   | (with_reducible refine LeO.bind ?_ (fun _ => ?_))
   | exact ih0 _ _ _ _ _ _ _ _ _ _ _ _ _ _ _ _
   | exact topiaryref01_Put.mono _ _ _ _
   | exact LeO.none _
   | refine LeO.ite ?_ ?_
   | refine LeO.bind ?_ (fun _ => ?_)
theorem topiaryref05_Names.mono : ∀ a0 a1 a2 a3 a4 a5 a6 a7 a8 a9 a10 a11 a12 k, LeO (topiaryref05_Names.f k a0 a1 a2 a3 a4 a5 a6 a7 a8 a9 a10 a11 a12) (topiaryref05_Names.f (k + 1) a0 a1 a2 a3 a4 a5 a6 a7 a8 a9 a10 a11 a12) := by
 intro a0 a1 a2 a3 a4 a5 a6 a7 a8 a9 a10 a11 a12 k
 have ih0 := topiaryref05_Names.mono_l k
 unfold topiaryref05_Names.f
 repeat' first
   | (with_reducible exact ih0 _ _ _ _ _ _ _ _ _ _ _ _ _ _ _ _)
   | (with_reducible exact topiaryref01_Put.mono _ _ _ _)
   | (with_reducible exact LeO.refl _)
   | (with_reducible exact LeO.none _)
   | (with_reducible refine LeO.ite ?_ ?_)
   | (with_reducible refine LeO.bind ?_ (fun _ => ?_))
   | exact ih0 _ _ _ _ _ _ _ _ _ _ _ _ _ _ _ _
   | exact topiaryref01_Put.mono _ _ _ _
   | exact LeO.none _
   | refine LeO.ite ?_ ?_
   | refine LeO.bind ?_ (fun _ => ?_)
def topiaryref05_Names.T6 : Bool × List (List Nat × List Nat) := (true, [([], []), ([], []), ([0, 1], [0, 1]), ([2], [2]), ([3], [3]), ([4, 4], [4]), ([5], [5]), ([5], [5]), ([6, 7, 5], [5, 6, 7]), ([8, 5], [5, 8]), ([5], [5]), ([10, 5], [5, 10]), ([9, 11, 5], [5, 9, 11]), ([5, 12], [5, 12])])
def topiaryref05_Names.B6 : List Nat := [0, 0, 3, 7, 15, 31, 63, 63, 255, 511, 63, 1087, 4095, 8191]
theorem topiaryref05_Names.tab6 : rtab .any (opsOf Tryz.f24 6) = topiaryref05_Names.T6 := by kernel_rfl
theorem topiaryref05_Names.bits6 : waitsOk topiaryref05_Names.T6.2 topiaryref05_Names.B6 = true := by kernel_rfl
set_option maxHeartbeats 8000000 in
set_option maxRecDepth 100000 in
theorem topiaryref05_Names.calls (k : Nat) (a0_0 : Int) (a0_1 : Int) (a0_2 : Int) (A0_3 : Option Addr) (c0_3 : Nat) (l0_3 : List Int) (a0_4 : Int) (a0_5 : Int) (a0_6 : Int) (a0_7 : Int) (a0_8 : Int) (a0_9 : Int) (a0_10 : Int) (a0_11 : ByteArray) (a0_12 : ByteArray) (r : List (S23)) (w : World) (hr0_3 : Kd.C (Kd.int .i64) w A0_3 l0_3.length l0_3) (hc0_3 : l0_3.length ≤ c0_3) (h : topiaryref05_Names.f k a0_0 a0_1 a0_2 l0_3 a0_4 a0_5 a0_6 a0_7 a0_8 a0_9 a0_10 a0_11 a0_12 = some r) :
  Calls Tryz.prog 24 #[.agg #[.int .i64 a0_0, .int .i64 a0_1, .int .i64 a0_2, .slice A0_3 l0_3.length c0_3, .int .i64 a0_4, .int .i64 a0_5, .int .i64 a0_6, .int .i64 a0_7, .int .i64 a0_8, .int .i64 a0_9, .int .i64 a0_10, .string a0_11, .string a0_12]] w fun e w' => ∃ v0_ : Value, e = .returned (v0_) ∧ Kd.R k23 23 w' w.heap.size (fun _ => True) v0_ r ∧ Below w.heap.size w w' := by
 have hu26 := Tryz.underlying26
 have hu23 := Tryz.underlying23
 have HR0_3 := Aside0.mk hr0_3
 have HC0_3 := Aside0.mk hc0_3
 clear hr0_3 hc0_3
 have HB := Aside0.mk (Below.refl w.heap.size w)
 have H : (topiaryref05_Names.l0 k (([(⟨a0_5, a0_6⟩ : S23), (⟨a0_7, a0_8⟩ : S23), (⟨a0_9, a0_10⟩ : S23)] : List (S23))) (([] : List (S23))) 0 a0_0 a0_1 a0_2 l0_3 a0_4 a0_5 a0_6 a0_7 a0_8 a0_9 a0_10 a0_11 a0_12) = some r := h
 clear h
 obtain ⟨y358, hy358⟩ : ∃ y_ : List (S23), y_ = (([(⟨a0_5, a0_6⟩ : S23), (⟨a0_7, a0_8⟩ : S23), (⟨a0_9, a0_10⟩ : S23)] : List (S23))) := ⟨_, rfl⟩
 replace H : (topiaryref05_Names.l0 k y358 (([] : List (S23))) 0 a0_0 a0_1 a0_2 l0_3 a0_4 a0_5 a0_6 a0_7 a0_8 a0_9 a0_10 a0_11 a0_12) = some r := by first | (rw [hy358]; with_reducible exact H) | (have H2_ := (Option.bind_some _ _).symm.trans H; rw [hy358]; with_reducible exact H2_) | (have H2_ := (Option.bind_some _ _).symm.trans H; with_reducible exact H2_) | with_reducible exact H | (rw [hy358]; exact H) | exact H
 have Ny358 := Aside0.mk hy358
 clear hy358
 obtain ⟨y361, hy361⟩ : ∃ y_ : List (S23), y_ = (([] : List (S23))) := ⟨_, rfl⟩
 replace H : (topiaryref05_Names.l0 k y358 y361 0 a0_0 a0_1 a0_2 l0_3 a0_4 a0_5 a0_6 a0_7 a0_8 a0_9 a0_10 a0_11 a0_12) = some r := by first | (rw [hy361]; with_reducible exact H) | (have H2_ := (Option.bind_some _ _).symm.trans H; rw [hy361]; with_reducible exact H2_) | (have H2_ := (Option.bind_some _ _).symm.trans H; with_reducible exact H2_) | with_reducible exact H | (rw [hy361]; exact H) | exact H
 have Ny361 := Aside0.mk hy361
 clear hy361
 have H' := Aside0.mk H
 clear H
 go_enter Tryz.func24, Tryz.ntmps24
 go_wp2_with (first | ((with_reducible refine gate_dst (N := 1) rfl ?_); refine box_event ?hg (N := 1) ?hd (cs := #[.int .i64 a0_0, .int .i64 a0_1, .int .i64 a0_2, .slice A0_3 l0_3.length c0_3, .int .i64 a0_4, .int .i64 a0_5, .int .i64 a0_6, .int .i64 a0_7, .int .i64 a0_8, .int .i64 a0_9, .int .i64 a0_10, .string a0_11, .string a0_12]) (t := 26) ?hr ?_; (case hd => rfl); (case hg => rfl); (case hr => first | (go_simp; done) | (go_simp; rfl)); intro gb357 hg w2 hbox hb; have BK357 := Aside0.mk (hbox); have GW357 := Aside0.mk ((zq7_ : w.heap.size ≤ gb357)); have GE357 := Aside0.mk ((zq7_ : w.heap.size ≤ gb357)); replace HB := Aside0.mk (below_step zq0_ hb); clear hb hbox hg; obtain ⟨hcz3_0, hfz3_0, hcz3_1, hfz3_1, hcz3_2, hfz3_2, hcz3_3, hfz3_3, hcz3_4, hfz3_4, hcz3_5, hfz3_5, hcz3_6, hfz3_6, hcz3_7, hfz3_7, hcz3_8, hfz3_8, hcz3_9, hfz3_9, hcz3_10, hfz3_10, hcz3_11, hfz3_11, hcz3_12, hfz3_12⟩ := zqC13_ BK357.out) | ((with_reducible refine gate_dst (N := 12) rfl ?_); refine Kd.R_lit k23 _ 23 ?hg (N := 12) ?hd (xs := ([(⟨a0_5, a0_6⟩ : S23), (⟨a0_7, a0_8⟩ : S23), (⟨a0_9, a0_10⟩ : S23)] : List (S23))) (inner := [.int .i64 a0_5, .int .i64 a0_6, .int .i64 a0_7, .int .i64 a0_8, .int .i64 a0_9, .int .i64 a0_10]) (ok := fun _ => True) (okp := fun _ => True) ?hr ?hp (fun _ hk => hk) trivial (Below.refl _ _) (Nat.le_refl _) (by simp) ?_; (case hd => rfl); (case hg => rfl); (case hr => first | (go_simp; done) | (go_simp; rfl)); (case hp => exact (Reps.c2 (show Kd.M k23 _ _ _ (⟨a0_5, a0_6⟩ : S23) [.int .i64 a0_5, .int .i64 a0_6] from (k23_mkM _ _ _ (⟨a0_5, a0_6⟩ : S23) )) (Reps.c2 (show Kd.M k23 _ _ _ (⟨a0_7, a0_8⟩ : S23) [.int .i64 a0_7, .int .i64 a0_8] from (k23_mkM _ _ _ (⟨a0_7, a0_8⟩ : S23) )) (Reps.c2 (show Kd.M k23 _ _ _ (⟨a0_9, a0_10⟩ : S23) [.int .i64 a0_9, .int .i64 a0_10] from (k23_mkM _ _ _ (⟨a0_9, a0_10⟩ : S23) )) (Reps.none _ _))))); intro v359 w4 ho5 hb hg_ hnew_; clear hg_ hnew_; (first | rw [← Ny358.out] at ho5 | (simp only [Int.reduceToNat] at ho5; rw [← Ny358.out] at ho5)); have HO360 := Aside0.mk (Kd.R_lower ho5 (below_size (zqB1_ GE357.out))); replace BK357 := Aside0.mk (blk_below (zqK_ BK357.out) hb); replace HB := Aside0.mk (below_step (zqB1_ GE357.out) hb); clear hb ho5) | ((with_reducible refine gate_dst (N := 13) rfl ?_); refine Kd.R_lit k23 _ 23 ?hg (N := 13) ?hd (xs := ([] : List (S23))) (inner := []) (ok := fun _ => True) (okp := fun _ => True) ?hr ?hp (fun _ hk => hk) trivial (Below.refl _ _) (Nat.le_refl _) (by simp) ?_; (case hd => rfl); (case hg => rfl); (case hr => first | (go_simp; done) | (go_simp; rfl)); (case hp => exact (Reps.none _ _)); intro v362 w6 ho7 hb hg_ hnew_; clear hg_ hnew_; (first | rw [← Ny361.out] at ho7 | (simp only [Int.reduceToNat] at ho7; rw [← Ny361.out] at ho7)); have HO363 := Aside0.mk (Kd.R_lower (Kd.R_new' ho7 (Kd.R_lt (by (with_reducible repeat (first | apply Kd.R_alloc | apply Kd.R_drewN | apply Kd.R_drew)); exact HO360.out))) (below_size (zqB1_ GE357.out))); replace HO360 := Aside0.mk (Kd.R_elder' (by (with_reducible repeat (first | apply Kd.R_alloc | apply Kd.R_drewN | apply Kd.R_drew)); exact HO360.out) (Kd.R_base ho7) hb); replace BK357 := Aside0.mk (blk_below (zqK_ BK357.out) hb); replace HB := Aside0.mk (below_step (zqB1_ GE357.out) hb); clear hb ho7))
 go_loopg [4, 5] k (fun kq v4 v5 w' => ∃ (x4_1 : List (S23)) (x5_1 : Int), v5 = .int .i64 x5_1 ∧ Aside0 (topiaryref05_Names.l0 kq y358 x4_1 x5_1 a0_0 a0_1 a0_2 l0_3 a0_4 a0_5 a0_6 a0_7 a0_8 a0_9 a0_10 a0_11 a0_12 = some r) ∧ Aside0 (kq ≤ k) ∧ Aside0 (Kd.R k23 23 w' w.heap.size (fun k_ => some k_ ≠ (v4 : Value).ownBlock) v359 y358) ∧ Aside0 (Kd.R k23 23 w' w.heap.size (fun k_ => some k_ ≠ (v359 : Value).ownBlock) v4 x4_1) ∧ Aside0 (w'.heap[gb357]? = some (.cells #[.int .i64 a0_0, .int .i64 a0_1, .int .i64 a0_2, (.slice A0_3 l0_3.length c0_3), .int .i64 a0_4, .int .i64 a0_5, .int .i64 a0_6, .int .i64 a0_7, .int .i64 a0_8, .int .i64 a0_9, .int .i64 a0_10, .string a0_11, .string a0_12] 26 (0, 0))) ∧ Aside0 (Below w.heap.size w w'))
 case atStart => exact ⟨(y361), (0), zq8_, H', ⟨Nat.le_refl _⟩, ⟨by (with_reducible repeat (first | apply Kd.R_alloc | apply Kd.R_drewN | apply Kd.R_drew)); exact Kd.R_mono HO360.out (fun _ hk => hk.2)⟩, ⟨by (with_reducible repeat (first | apply Kd.R_alloc | apply Kd.R_drewN | apply Kd.R_drew)); exact Kd.R_mono HO363.out (fun _ hk => hk.2)⟩, ⟨by (with_reducible repeat (first | refine blk_drewN ?_ _ | refine blk_drew ?_ | refine blk_alloc ?_ _)); exact BK357.out⟩, ⟨by repeat (first | (with_reducible first | exact HB.out | apply below_alloc | apply pw_below_drewN | apply below_drew1 | refine below_set ?_ GE357.out) | exact HB.out)⟩⟩
 case round =>
  clear H'
  try clear c2
  try clear p2
  try clear hcz3_0 hcz3_1 hcz3_10 hcz3_11 hcz3_12 hcz3_2 hcz3_3 hcz3_4 hcz3_5 hcz3_6 hcz3_7 hcz3_8 hcz3_9 hfz3_0 hfz3_1 hfz3_10 hfz3_11 hfz3_12 hfz3_2 hfz3_3 hfz3_4 hfz3_5 hfz3_6 hfz3_7 hfz3_8 hfz3_9
  obtain ⟨x4_1, x5_1, rfl, HA, HK1, HO_3, HO_4, BK357, HB⟩ := hrel
  cases gk with
  | zero => exact absurd HA.out (by simp [topiaryref05_Names.l0])
  | succ k1 =>
   have H := HA.out
   clear HA
   simp only [topiaryref05_Names.l0] at H
   by_cases c8 : x5_1 < (y358.length : Int)
   ·rw [if_pos c8] at H
    have c8b0 : decide (x5_1 < (y358.length : Int)) = true := decide_eq_true c8
    clear c8
    by_cases c9 : 0 ≤ x5_1
    ·rw [if_pos c9] at H
     have c9b0 : decide (0 ≤ x5_1) = true := decide_eq_true c9
     clear c9
     replace H := Option.bind_eq_some_iff.mp H
     obtain ⟨t365, A100, H⟩ := H
     have A10 := Aside0.mk A100
     clear A100
     by_cases c11 : t365 = true
     ·subst c11
      have H1 : (if (!(((rd_T23 y358 x5_1).f0) == a0_0) || (!(((rd_T23 y358 x5_1).f1) == a0_1))) = true then ((topiaryref01_Put.f k1 x4_1 ((rd_T23 y358 x5_1).f0) ((rd_T23 y358 x5_1).f1)).bind fun t368 => (topiaryref05_Names.l0 k1 y358 t368 (wrap64 (x5_1 + 1)) a0_0 a0_1 a0_2 l0_3 a0_4 a0_5 a0_6 a0_7 a0_8 a0_9 a0_10 a0_11 a0_12)) else (topiaryref05_Names.l0 k1 y358 x4_1 (wrap64 (x5_1 + 1)) a0_0 a0_1 a0_2 l0_3 a0_4 a0_5 a0_6 a0_7 a0_8 a0_9 a0_10 a0_11 a0_12)) = some r := by rw [if_pos rfl] at H; exact H
      clear H
      have H := H1
      clear H1
      by_cases c12 : (!(((rd_T23 y358 x5_1).f0) == a0_0) || (!(((rd_T23 y358 x5_1).f1) == a0_1))) = true
      ·rw [if_pos c12] at H
       have c12b0 : (!(((rd_T23 y358 x5_1).f0) == a0_0) || (!(((rd_T23 y358 x5_1).f1) == a0_1))) = true := c12
       clear c12
       replace H := Option.bind_eq_some_iff.mp H
       obtain ⟨t368, A130, H⟩ := H
       have A13 := Aside0.mk A130
       clear A130
       have H' := Aside0.mk H
       clear H
       obtain ⟨Ao14, co14, eo14⟩ := Kd.R_slice HO_3.out
       subst eo14
       try go_wp2
       replace HO_3 := Aside0.mk (Kd.R_drew HO_3.out)
       replace HO_4 := Aside0.mk (Kd.R_drew HO_4.out)
       replace BK357 := Aside0.mk (blk_drew BK357.out)
       replace HB := Aside0.mk (below_drew1 HB.out)
       have p364 : 0 ≤ (x5_1 : Int) := of_decide_eq_true zq2_
       have q364 : x5_1 < (y358.length : Int) := of_decide_eq_true zq2_
       obtain ⟨ad364, e364, hx364_0, hx364_1⟩ := at_T23 (Kd.R_reads' HO_3.out).2.2 x5_1 p364 q364
       cases e364
       replace p364 := eq_true p364
       replace q364 := eq_true q364
       have p366 : 0 ≤ (x5_1 : Int) := of_decide_eq_true zq2_
       have q366 : x5_1 < (y358.length : Int) := of_decide_eq_true zq2_
       obtain ⟨ad366, e366, hx366_0, hx366_1⟩ := at_T23 (Kd.R_reads' HO_3.out).2.2 x5_1 p366 q366
       obtain rfl : ad364 = ad366 := (by injection e366)
       replace p366 := eq_true p366
       replace q366 := eq_true q366
       refine start_ (n := 14) (S := fun w' => w'.cell? ⟨gb357, 0, none⟩ = some (.int .i64 a0_0) ∧ w'.cell? ⟨gb357, 1, none⟩ = some (.int .i64 a0_1) ∧ w'.cell? ⟨gb357, 2, none⟩ = some (.int .i64 a0_2) ∧ w'.cell? ⟨gb357, 3, none⟩ = some (.slice A0_3 l0_3.length c0_3) ∧ w'.cell? ⟨gb357, 4, none⟩ = some (.int .i64 a0_4) ∧ w'.cell? ⟨gb357, 5, none⟩ = some (.int .i64 a0_5) ∧ w'.cell? ⟨gb357, 6, none⟩ = some (.int .i64 a0_6) ∧ w'.cell? ⟨gb357, 7, none⟩ = some (.int .i64 a0_7) ∧ w'.cell? ⟨gb357, 8, none⟩ = some (.int .i64 a0_8) ∧ w'.cell? ⟨gb357, 9, none⟩ = some (.int .i64 a0_9) ∧ w'.cell? ⟨gb357, 10, none⟩ = some (.int .i64 a0_10) ∧ w'.cell? ⟨gb357, 11, none⟩ = some (.string a0_11) ∧ w'.cell? ⟨gb357, 12, none⟩ = some (.string a0_12) ∧ w'.cell? (ad364.add ((x5_1).toNat * 2)) = some (.int .i64 ((rd_T23 y358 x5_1).f0)) ∧ w'.cell? ⟨(ad364.add ((x5_1).toNat * 2)).block, (ad364.add ((x5_1).toNat * 2)).off + 1, none⟩ = some (.int .i64 ((rd_T23 y358 x5_1).f1)) ∧ w'.cell? (ad364.add ((x5_1).toNat * 2)) = some (.int .i64 ((rd_T23 y358 x5_1).f0)) ∧ w'.cell? ⟨(ad364.add ((x5_1).toNat * 2)).block, (ad364.add ((x5_1).toNat * 2)).off + 1, none⟩ = some (.int .i64 ((rd_T23 y358 x5_1).f1))) (ds := []) #[false, false, false, false, false, false, false, false, false, false, false, false, false, false] (by kernel_rfl) rfl rfl ⟨(blk_cell BK357.out 0).trans rfl, (blk_cell BK357.out 1).trans rfl, (blk_cell BK357.out 2).trans rfl, (blk_cell BK357.out 3).trans rfl, (blk_cell BK357.out 4).trans rfl, (blk_cell BK357.out 5).trans rfl, (blk_cell BK357.out 6).trans rfl, (blk_cell BK357.out 7).trans rfl, (blk_cell BK357.out 8).trans rfl, (blk_cell BK357.out 9).trans rfl, (blk_cell BK357.out 10).trans rfl, (blk_cell BK357.out 11).trans rfl, (blk_cell BK357.out 12).trans rfl, hx364_0, hx364_1, hx366_0, hx366_1⟩ (fun hHeld => ?_); refine with_tabW topiaryref05_Names.tab6 topiaryref05_Names.bits6 (fun HT_ HW_ => ?_)
       generalize wr.drew = w15 at HO_3 HO_4 BK357 HB hx364_0 hx364_1 hx366_0 hx366_1 hHeld ⊢
       refine zqp_ 0 20 HT_ ?_
       refine zqp_ 1 21 HT_ ?_
       refine zqp_ 2 22 HT_ ?_
       refine zqt17_ 3 23 HT_ HW_ hHeld ?_
       refine zqo_ 4 24 HT_ (fun K hK => ?_)
       refine goes_ Tryz.func30 (by kernel_rfl) rfl #[.agg #[.int .i64 ((rd_T23 y358 x5_1).f0), .int .i64 ((rd_T23 y358 x5_1).f1)]] (by rfl) rfl rfl zq3_ ?_
       with_reducible refine (topiaryref01_Right.calls ((rd_T23 y358 x5_1).f0) ((rd_T23 y358 x5_1).f1) true _ A10.out).mono ?_
       rintro e w16 ⟨rfl, hb⟩
       have HS13_ := (hb.cell (World.block_lt_of_cell? _ _ (hHeld.2.2.2.2.2.2.2.2.2.2.2.2.2.1))).trans (hHeld.2.2.2.2.2.2.2.2.2.2.2.2.2.1)
       have HS14_ := (hb.cell (World.block_lt_of_cell? _ _ (hHeld.2.2.2.2.2.2.2.2.2.2.2.2.2.2.1))).trans (hHeld.2.2.2.2.2.2.2.2.2.2.2.2.2.2.1)
       have HS15_ := (hb.cell (World.block_lt_of_cell? _ _ (hHeld.2.2.2.2.2.2.2.2.2.2.2.2.2.2.2.1))).trans (hHeld.2.2.2.2.2.2.2.2.2.2.2.2.2.2.2.1)
       have HS16_ := (hb.cell (World.block_lt_of_cell? _ _ (hHeld.2.2.2.2.2.2.2.2.2.2.2.2.2.2.2.2))).trans (hHeld.2.2.2.2.2.2.2.2.2.2.2.2.2.2.2.2)
       refine ⟨_, rfl, ?_⟩
       replace HO_3 := Aside0.mk (Kd.R_below zq23_ hb)
       replace HO_4 := Aside0.mk (Kd.R_below (by (with_reducible repeat (first | apply Kd.R_alloc | apply Kd.R_drewN | apply Kd.R_drew)); exact HO_4.out) hb)
       replace BK357 := Aside0.mk (blk_below (zqK_ BK357.out) hb)
       replace HB := Aside0.mk (below_step (zqB1_ GE357.out) hb)
       (try clear hb)
       (try clear hb2)
       (try clear hk)
       (try clear hi)
       refine hK.out _ _ ⟨(blk_cell BK357.out 0).trans rfl, (blk_cell BK357.out 1).trans rfl, (blk_cell BK357.out 2).trans rfl, (blk_cell BK357.out 3).trans rfl, (blk_cell BK357.out 4).trans rfl, (blk_cell BK357.out 5).trans rfl, (blk_cell BK357.out 6).trans rfl, (blk_cell BK357.out 7).trans rfl, (blk_cell BK357.out 8).trans rfl, (blk_cell BK357.out 9).trans rfl, (blk_cell BK357.out 10).trans rfl, (blk_cell BK357.out 11).trans rfl, (blk_cell BK357.out 12).trans rfl, HS13_, HS14_, HS15_, HS16_⟩ (fun hHeld => ?_)
       clear hK K
       refine norm_ (a' := ?_) ?_ ?_
       rotate_left
       ·show Act.put _ (some 24) _ = _
        simp only [Act.put, List.setIfInBounds_toArray, List.set_cons_zero, List.set_cons_succ, i64_w, i32_w]
        rfl
       refine zqp_ 5 25 HT_ ?_
       refine zqp_ 6 26 HT_ ?_
       refine zqp_ 7 27 HT_ ?_
       refine zqp_ 8 28 HT_ ?_
       refine zqp_ 10 30 HT_ ?_
       refine zqt17_ 9 29 HT_ HW_ hHeld ?_
       refine zqt17_ 11 31 HT_ HW_ hHeld ?_
       refine zqp_ 12 32 HT_ ?_
       refine zqp_ 13 33 HT_ ?_
       refine done_ (done_of HT_.out (by kernel_rfl)) ?_
       have p367 : 0 ≤ (x5_1 : Int) := of_decide_eq_true zq2_
       have q367 : x5_1 < (y358.length : Int) := of_decide_eq_true zq2_
       obtain ⟨ad367, e367, hx367_0, hx367_1⟩ := at_T23 (Kd.R_reads' HO_3.out).2.2 x5_1 p367 q367
       obtain rfl : ad364 = ad367 := (by injection e367)
       replace p367 := eq_true p367
       replace q367 := eq_true q367
       obtain ⟨Ao17, co17, eo17⟩ := Kd.R_slice HO_4.out
       subst eo17
       try go_wp2_with (first | ((with_reducible refine gate_callee (f := 60) rfl ?_); refine zqG_ (some 39) rfl Tryz.func60 #[.slice Ao17 x4_1.length co17, .agg #[.int .i64 ((rd_T23 y358 x5_1).f0), .int .i64 ((rd_T23 y358 x5_1).f1)]] rfl ?_; (with_reducible refine (topiaryref01_Put.calls k1 (fun k_ => some k_ = (.slice Ao17 x4_1.length co17 : Value).ownBlock) (.slice Ao17 x4_1.length co17) x4_1 ((rd_T23 y358 x5_1).f0) ((rd_T23 y358 x5_1).f1) t368 w _ ?side1 ?side2 A13.out).mono ?_); (case side1 => repeat (first | (with_reducible first | exact HB.out | apply below_alloc | apply pw_below_drewN | apply below_drew1 | refine below_set ?_ GE357.out) | exact HB.out)); (case side2 => exact Kd.R_tight rfl HO_4.out); rintro e w18 ⟨v369, rfl, ho0, hb, hkp⟩; refine ⟨_, rfl, ?_⟩; replace BK357 := Aside0.mk (blk_kept (zqK_ BK357.out) hkp (fun hs_ => (fun e_ => (Kd.R_ne HO_4.out BK357.out (by decide)) e_) hs_)); have HO370 := Aside0.mk (Kd.R_mono (ok' := fun k_ => some k_ ≠ (.slice (some ad364) y358.length co14 : Value).ownBlock) ho0 (fun k_ hk_ => Or.elim hk_ (fun hs_ => fun e_ => (((HO_3.out).1 k_ e_.symm)) hs_) (fun hn_ => (Kd.fresh' (Kd.R_lt zq23_) k_ hn_)))); replace HO_3 := Aside0.mk (Kd.R_mono (ok' := fun k_ => some k_ ≠ (v369 : Value).ownBlock) (Kd.R_keptB (HO_3.out) hkp (fun k_ hk_ hs_ => (hk_) hs_)) (fun k_ hk_ => fun e_ => Or.elim (ho0.1 k_ e_.symm) (fun hs_ => hk_.2.1 hs_) (fun hn_ => Nat.not_le.2 hk_.2.2 hn_))); replace HB := Aside0.mk (hb); clear HO_4; (try clear hb); (try clear hkp); (try clear ho0)))
       go_roundg k1
       case measure => have := HK1.out; omega
       case rel => exact ⟨(t368), (wrap64 (x5_1 + 1)), zq8_, H', ⟨by have := HK1.out; omega⟩, ⟨by (with_reducible repeat (first | apply Kd.R_alloc | apply Kd.R_drewN | apply Kd.R_drew)); exact HO_3.out⟩, ⟨by (with_reducible repeat (first | apply Kd.R_alloc | apply Kd.R_drewN | apply Kd.R_drew)); exact HO370.out⟩, ⟨by (with_reducible repeat (first | refine blk_drewN ?_ _ | refine blk_drew ?_ | refine blk_alloc ?_ _)); exact BK357.out⟩, ⟨by repeat (first | (with_reducible first | exact HB.out | apply below_alloc | apply pw_below_drewN | apply below_drew1 | refine below_set ?_ GE357.out) | exact HB.out)⟩⟩
      ·rw [if_neg c12] at H
       have c12b0 : (!(((rd_T23 y358 x5_1).f0) == a0_0) || (!(((rd_T23 y358 x5_1).f1) == a0_1))) = false := by simpa using c12
       clear c12
       have H' := Aside0.mk H
       clear H
       obtain ⟨Ao19, co19, eo19⟩ := Kd.R_slice HO_3.out
       subst eo19
       try go_wp2
       replace HO_3 := Aside0.mk (Kd.R_drew HO_3.out)
       replace HO_4 := Aside0.mk (Kd.R_drew HO_4.out)
       replace BK357 := Aside0.mk (blk_drew BK357.out)
       replace HB := Aside0.mk (below_drew1 HB.out)
       have p364 : 0 ≤ (x5_1 : Int) := of_decide_eq_true zq2_
       have q364 : x5_1 < (y358.length : Int) := of_decide_eq_true zq2_
       obtain ⟨ad364, e364, hx364_0, hx364_1⟩ := at_T23 (Kd.R_reads' HO_3.out).2.2 x5_1 p364 q364
       cases e364
       replace p364 := eq_true p364
       replace q364 := eq_true q364
       have p366 : 0 ≤ (x5_1 : Int) := of_decide_eq_true zq2_
       have q366 : x5_1 < (y358.length : Int) := of_decide_eq_true zq2_
       obtain ⟨ad366, e366, hx366_0, hx366_1⟩ := at_T23 (Kd.R_reads' HO_3.out).2.2 x5_1 p366 q366
       obtain rfl : ad364 = ad366 := (by injection e366)
       replace p366 := eq_true p366
       replace q366 := eq_true q366
       refine start_ (n := 14) (S := fun w' => w'.cell? ⟨gb357, 0, none⟩ = some (.int .i64 a0_0) ∧ w'.cell? ⟨gb357, 1, none⟩ = some (.int .i64 a0_1) ∧ w'.cell? ⟨gb357, 2, none⟩ = some (.int .i64 a0_2) ∧ w'.cell? ⟨gb357, 3, none⟩ = some (.slice A0_3 l0_3.length c0_3) ∧ w'.cell? ⟨gb357, 4, none⟩ = some (.int .i64 a0_4) ∧ w'.cell? ⟨gb357, 5, none⟩ = some (.int .i64 a0_5) ∧ w'.cell? ⟨gb357, 6, none⟩ = some (.int .i64 a0_6) ∧ w'.cell? ⟨gb357, 7, none⟩ = some (.int .i64 a0_7) ∧ w'.cell? ⟨gb357, 8, none⟩ = some (.int .i64 a0_8) ∧ w'.cell? ⟨gb357, 9, none⟩ = some (.int .i64 a0_9) ∧ w'.cell? ⟨gb357, 10, none⟩ = some (.int .i64 a0_10) ∧ w'.cell? ⟨gb357, 11, none⟩ = some (.string a0_11) ∧ w'.cell? ⟨gb357, 12, none⟩ = some (.string a0_12) ∧ w'.cell? (ad364.add ((x5_1).toNat * 2)) = some (.int .i64 ((rd_T23 y358 x5_1).f0)) ∧ w'.cell? ⟨(ad364.add ((x5_1).toNat * 2)).block, (ad364.add ((x5_1).toNat * 2)).off + 1, none⟩ = some (.int .i64 ((rd_T23 y358 x5_1).f1)) ∧ w'.cell? (ad364.add ((x5_1).toNat * 2)) = some (.int .i64 ((rd_T23 y358 x5_1).f0)) ∧ w'.cell? ⟨(ad364.add ((x5_1).toNat * 2)).block, (ad364.add ((x5_1).toNat * 2)).off + 1, none⟩ = some (.int .i64 ((rd_T23 y358 x5_1).f1))) (ds := []) #[false, false, false, false, false, false, false, false, false, false, false, false, false, false] (by kernel_rfl) rfl rfl ⟨(blk_cell BK357.out 0).trans rfl, (blk_cell BK357.out 1).trans rfl, (blk_cell BK357.out 2).trans rfl, (blk_cell BK357.out 3).trans rfl, (blk_cell BK357.out 4).trans rfl, (blk_cell BK357.out 5).trans rfl, (blk_cell BK357.out 6).trans rfl, (blk_cell BK357.out 7).trans rfl, (blk_cell BK357.out 8).trans rfl, (blk_cell BK357.out 9).trans rfl, (blk_cell BK357.out 10).trans rfl, (blk_cell BK357.out 11).trans rfl, (blk_cell BK357.out 12).trans rfl, hx364_0, hx364_1, hx366_0, hx366_1⟩ (fun hHeld => ?_); refine with_tabW topiaryref05_Names.tab6 topiaryref05_Names.bits6 (fun HT_ HW_ => ?_)
       generalize wr.drew = w20 at HO_3 HO_4 BK357 HB hx364_0 hx364_1 hx366_0 hx366_1 hHeld ⊢
       refine zqp_ 0 20 HT_ ?_
       refine zqp_ 1 21 HT_ ?_
       refine zqp_ 2 22 HT_ ?_
       refine zqt17_ 3 23 HT_ HW_ hHeld ?_
       refine zqo_ 4 24 HT_ (fun K hK => ?_)
       refine goes_ Tryz.func30 (by kernel_rfl) rfl #[.agg #[.int .i64 ((rd_T23 y358 x5_1).f0), .int .i64 ((rd_T23 y358 x5_1).f1)]] (by rfl) rfl rfl zq3_ ?_
       with_reducible refine (topiaryref01_Right.calls ((rd_T23 y358 x5_1).f0) ((rd_T23 y358 x5_1).f1) true _ A10.out).mono ?_
       rintro e w21 ⟨rfl, hb⟩
       have HS13_ := (hb.cell (World.block_lt_of_cell? _ _ (hHeld.2.2.2.2.2.2.2.2.2.2.2.2.2.1))).trans (hHeld.2.2.2.2.2.2.2.2.2.2.2.2.2.1)
       have HS14_ := (hb.cell (World.block_lt_of_cell? _ _ (hHeld.2.2.2.2.2.2.2.2.2.2.2.2.2.2.1))).trans (hHeld.2.2.2.2.2.2.2.2.2.2.2.2.2.2.1)
       have HS15_ := (hb.cell (World.block_lt_of_cell? _ _ (hHeld.2.2.2.2.2.2.2.2.2.2.2.2.2.2.2.1))).trans (hHeld.2.2.2.2.2.2.2.2.2.2.2.2.2.2.2.1)
       have HS16_ := (hb.cell (World.block_lt_of_cell? _ _ (hHeld.2.2.2.2.2.2.2.2.2.2.2.2.2.2.2.2))).trans (hHeld.2.2.2.2.2.2.2.2.2.2.2.2.2.2.2.2)
       refine ⟨_, rfl, ?_⟩
       replace HO_3 := Aside0.mk (Kd.R_below zq23_ hb)
       replace HO_4 := Aside0.mk (Kd.R_below (by (with_reducible repeat (first | apply Kd.R_alloc | apply Kd.R_drewN | apply Kd.R_drew)); exact HO_4.out) hb)
       replace BK357 := Aside0.mk (blk_below (zqK_ BK357.out) hb)
       replace HB := Aside0.mk (below_step (zqB1_ GE357.out) hb)
       (try clear hb)
       (try clear hb2)
       (try clear hk)
       (try clear hi)
       refine hK.out _ _ ⟨(blk_cell BK357.out 0).trans rfl, (blk_cell BK357.out 1).trans rfl, (blk_cell BK357.out 2).trans rfl, (blk_cell BK357.out 3).trans rfl, (blk_cell BK357.out 4).trans rfl, (blk_cell BK357.out 5).trans rfl, (blk_cell BK357.out 6).trans rfl, (blk_cell BK357.out 7).trans rfl, (blk_cell BK357.out 8).trans rfl, (blk_cell BK357.out 9).trans rfl, (blk_cell BK357.out 10).trans rfl, (blk_cell BK357.out 11).trans rfl, (blk_cell BK357.out 12).trans rfl, HS13_, HS14_, HS15_, HS16_⟩ (fun hHeld => ?_)
       clear hK K
       refine norm_ (a' := ?_) ?_ ?_
       rotate_left
       ·show Act.put _ (some 24) _ = _
        simp only [Act.put, List.setIfInBounds_toArray, List.set_cons_zero, List.set_cons_succ, i64_w, i32_w]
        rfl
       refine zqp_ 5 25 HT_ ?_
       refine zqp_ 6 26 HT_ ?_
       refine zqp_ 7 27 HT_ ?_
       refine zqp_ 8 28 HT_ ?_
       refine zqp_ 10 30 HT_ ?_
       refine zqt17_ 9 29 HT_ HW_ hHeld ?_
       refine zqt17_ 11 31 HT_ HW_ hHeld ?_
       refine zqp_ 12 32 HT_ ?_
       refine zqp_ 13 33 HT_ ?_
       refine done_ (done_of HT_.out (by kernel_rfl)) ?_
       try go_wp2
       go_roundg k1
       case measure => have := HK1.out; omega
       case rel => exact ⟨(x4_1), (wrap64 (x5_1 + 1)), zq8_, H', ⟨by have := HK1.out; omega⟩, ⟨by (with_reducible repeat (first | apply Kd.R_alloc | apply Kd.R_drewN | apply Kd.R_drew)); exact HO_3.out⟩, ⟨by (with_reducible repeat (first | apply Kd.R_alloc | apply Kd.R_drewN | apply Kd.R_drew)); exact HO_4.out⟩, ⟨by (with_reducible repeat (first | refine blk_drewN ?_ _ | refine blk_drew ?_ | refine blk_alloc ?_ _)); exact BK357.out⟩, ⟨by repeat (first | (with_reducible first | exact HB.out | apply below_alloc | apply pw_below_drewN | apply below_drew1 | refine below_set ?_ GE357.out) | exact HB.out)⟩⟩
     ·replace c11 := Bool.eq_false_iff.mpr c11
      subst c11
      have H1 : (topiaryref05_Names.l0 k1 y358 x4_1 (wrap64 (x5_1 + 1)) a0_0 a0_1 a0_2 l0_3 a0_4 a0_5 a0_6 a0_7 a0_8 a0_9 a0_10 a0_11 a0_12) = some r := by rw [if_neg (show ¬ (false = true) by decide)] at H; exact H
      clear H
      have H := H1
      clear H1
      have H' := Aside0.mk H
      clear H
      obtain ⟨Ao22, co22, eo22⟩ := Kd.R_slice HO_3.out
      subst eo22
      try go_wp2
      replace HO_3 := Aside0.mk (Kd.R_drew HO_3.out)
      replace HO_4 := Aside0.mk (Kd.R_drew HO_4.out)
      replace BK357 := Aside0.mk (blk_drew BK357.out)
      replace HB := Aside0.mk (below_drew1 HB.out)
      have p364 : 0 ≤ (x5_1 : Int) := of_decide_eq_true zq2_
      have q364 : x5_1 < (y358.length : Int) := of_decide_eq_true zq2_
      obtain ⟨ad364, e364, hx364_0, hx364_1⟩ := at_T23 (Kd.R_reads' HO_3.out).2.2 x5_1 p364 q364
      cases e364
      replace p364 := eq_true p364
      replace q364 := eq_true q364
      refine start_ (n := 14) (S := fun w' => w'.cell? (ad364.add ((x5_1).toNat * 2)) = some (.int .i64 ((rd_T23 y358 x5_1).f0)) ∧ w'.cell? ⟨(ad364.add ((x5_1).toNat * 2)).block, (ad364.add ((x5_1).toNat * 2)).off + 1, none⟩ = some (.int .i64 ((rd_T23 y358 x5_1).f1))) (ds := []) #[false, false, false, false, false, false, false, false, false, false, false, false, false, false] (by kernel_rfl) rfl rfl ⟨hx364_0, hx364_1⟩ (fun hHeld => ?_); refine with_tabW topiaryref05_Names.tab6 topiaryref05_Names.bits6 (fun HT_ HW_ => ?_)
      generalize wr.drew = w23 at HO_3 HO_4 BK357 HB hx364_0 hx364_1 hHeld ⊢
      refine zqp_ 0 20 HT_ ?_
      refine zqp_ 1 21 HT_ ?_
      refine zqp_ 2 22 HT_ ?_
      refine zqt2_ 3 23 HT_ HW_ hHeld ?_
      refine zqo_ 4 24 HT_ (fun K hK => ?_)
      refine goes_ Tryz.func30 (by kernel_rfl) rfl #[.agg #[.int .i64 ((rd_T23 y358 x5_1).f0), .int .i64 ((rd_T23 y358 x5_1).f1)]] (by rfl) rfl rfl zq3_ ?_
      with_reducible refine (topiaryref01_Right.calls ((rd_T23 y358 x5_1).f0) ((rd_T23 y358 x5_1).f1) false _ A10.out).mono ?_
      rintro e w24 ⟨rfl, hb⟩
      have HS0_ := (hb.cell (World.block_lt_of_cell? _ _ (hHeld.1))).trans (hHeld.1)
      have HS1_ := (hb.cell (World.block_lt_of_cell? _ _ (hHeld.2))).trans (hHeld.2)
      refine ⟨_, rfl, ?_⟩
      replace HO_3 := Aside0.mk (Kd.R_below zq23_ hb)
      replace HO_4 := Aside0.mk (Kd.R_below (by (with_reducible repeat (first | apply Kd.R_alloc | apply Kd.R_drewN | apply Kd.R_drew)); exact HO_4.out) hb)
      replace BK357 := Aside0.mk (blk_below (zqK_ BK357.out) hb)
      replace HB := Aside0.mk (below_step (zqB1_ GE357.out) hb)
      (try clear hb)
      (try clear hb2)
      (try clear hk)
      (try clear hi)
      refine hK.out _ _ ⟨HS0_, HS1_⟩ (fun hHeld => ?_)
      clear hK K
      refine norm_ (a' := ?_) ?_ ?_
      rotate_left
      ·show Act.put _ (some 24) _ = _
       simp only [Act.put, List.setIfInBounds_toArray, List.set_cons_zero, List.set_cons_succ, i64_w, i32_w]
       rfl
      refine zqp_ 5 25 HT_ ?_
      refine zqu_ 6 26 HT_ ?_
      refine zqu_ 7 27 HT_ ?_
      refine zqu_ 8 28 HT_ ?_
      refine zqu_ 9 29 HT_ ?_
      refine zqu_ 10 30 HT_ ?_
      refine zqu_ 11 31 HT_ ?_
      refine zqu_ 12 32 HT_ ?_
      refine zqp_ 13 33 HT_ ?_
      refine done_ (done_of HT_.out (by kernel_rfl)) ?_
      try go_wp2
      go_roundg k1
      case measure => have := HK1.out; omega
      case rel => exact ⟨(x4_1), (wrap64 (x5_1 + 1)), zq8_, H', ⟨by have := HK1.out; omega⟩, ⟨by (with_reducible repeat (first | apply Kd.R_alloc | apply Kd.R_drewN | apply Kd.R_drew)); exact HO_3.out⟩, ⟨by (with_reducible repeat (first | apply Kd.R_alloc | apply Kd.R_drewN | apply Kd.R_drew)); exact HO_4.out⟩, ⟨by (with_reducible repeat (first | refine blk_drewN ?_ _ | refine blk_drew ?_ | refine blk_alloc ?_ _)); exact BK357.out⟩, ⟨by repeat (first | (with_reducible first | exact HB.out | apply below_alloc | apply pw_below_drewN | apply below_drew1 | refine below_set ?_ GE357.out) | exact HB.out)⟩⟩
    ·rw [if_neg c9] at H
     exact absurd H (by simp)
   ·rw [if_neg c8] at H
    have c8b0 : decide (x5_1 < (y358.length : Int)) = false := decide_eq_false c8
    clear c8
    obtain rfl := Option.some.inj H
    obtain ⟨Ao25, co25, eo25⟩ := Kd.R_slice HO_3.out
    subst eo25
    go_wp2
    go_ret
    exact ⟨_, by first | rfl | (simp [errW_none, errW_some] <;> rfl) | (simp [*, errW_none, errW_some] <;> rfl), by (with_reducible repeat (first | apply Kd.R_alloc | apply Kd.R_drewN | apply Kd.R_drew)); exact Kd.R_mono HO_4.out (fun _ hk => trivial), by repeat (first | (with_reducible first | exact HB.out | apply below_alloc | apply pw_below_drewN | apply below_drew1 | refine below_set ?_ GE357.out) | exact HB.out)⟩

end Go.Proofs.YtgoolgmcbnikkaaGreatDoor.QChangeSames
