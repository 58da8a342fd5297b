-- Own text of this seat, laid by the session's program ownprint.py (wip/tools). Lean checks it.
import Derived.Test.YtgoolgmcbnikkaaGreatDoorQChangeAheadx0
import Derived.Test.YtgoolgmcbnikkaaGreatDoorQChangeAheadx1
import Derived.Test.YtgoolgmcbnikkaaGreatDoorQChangeAheadx2
import Derived.Test.YtgoolgmcbnikkaaGreatDoorQChangeAheadx15
namespace Go.Proofs.YtgoolgmcbnikkaaGreatDoor.QChangeAhead
open Go.RowKit Go.Proofs.YtgoolgmcbnikkaaGreatDoorW.PrintWords Go.Proofs.YtgoolgmcbnikkaaGreatDoorW.PrintLast Go.Proofs.YtgoolgmcbnikkaaGreatDoorW.PrintMore
attribute [local go_sem] max2_int min2_int max_two min_two max_three min_three max_four min_four   -- for this text's walks alone
set_option linter.unusedVariables false
set_option linter.unusedSimpArgs false

attribute [local go_sem high] eqA23
/-! ### change_Names: function 19 -/
def change_Names.l0 : Nat → List (S23) → List (S23) → Int → Int → Int → Int → Int → List Int → Int → Int → Int → Int → Int → Int → Int → ByteArray → ByteArray → Option ((List (S23)))
 | 0, _, _, _, _, _, _, _, _, _, _, _, _, _, _, _, _, _ => none
 | k + 1, x3, x12, x13, x14, x336000, x336001, x336002, x336003, x336004, x336005, x336006, x336007, x336008, x336009, x336010, x336011, x336012 => if x14 < x13 then (if 0 ≤ x14 then (if x14 < (x12.length : Int) then ((ident_Right.f ((rd_T23 x12 x14).f0) ((rd_T23 x12 x14).f1)).bind fun t341 => (if t341 = true then (if (!(((rd_T23 x12 x14).f0) == x336000) || (!(((rd_T23 x12 x14).f1) == x336001))) = true then (if x3.length < 8796093022208 then (change_Names.l0 k (x3 ++ [(⟨(rd_T23 x12 x14).f0, (rd_T23 x12 x14).f1⟩ : S23)]) x12 x13 (wrap64 (x14 + 1)) x336000 x336001 x336002 x336003 x336004 x336005 x336006 x336007 x336008 x336009 x336010 x336011 x336012) else (none)) else (change_Names.l0 k x3 x12 x13 (wrap64 (x14 + 1)) x336000 x336001 x336002 x336003 x336004 x336005 x336006 x336007 x336008 x336009 x336010 x336011 x336012)) else (change_Names.l0 k x3 x12 x13 (wrap64 (x14 + 1)) x336000 x336001 x336002 x336003 x336004 x336005 x336006 x336007 x336008 x336009 x336010 x336011 x336012))) else (none)) else (none)) else ((ident_Sort.f x3).bind fun t345 => (some t345))
def change_Names.f (k : Nat) (a0_0 : Int) (a0_1 : Int) (a0_2 : Int) (l0_3 : List Int) (a0_4 : Int) (a0_5 : Int) (a0_6 : Int) (a0_7 : Int) (a0_8 : Int) (a0_9 : Int) (a0_10 : Int) (a0_11 : ByteArray) (a0_12 : ByteArray) : Option ((List (S23))) := (some (([(⟨a0_5, a0_6⟩ : S23), (⟨a0_7, a0_8⟩ : S23), (⟨a0_9, a0_10⟩ : S23)] : List (S23)) : List (S23))).bind fun y336 => (change_Names.l0 k ([] : List (S23)) y336 (y336.length : Int) 0 a0_0 a0_1 a0_2 l0_3 a0_4 a0_5 a0_6 a0_7 a0_8 a0_9 a0_10 a0_11 a0_12)
theorem change_Names.mono_l : ∀ k, (∀ y0 y1 y2 y3 y4 y5 y6 y7 y8 y9 y10 y11 y12 y13 y14 y15 y16, LeO (change_Names.l0 k y0 y1 y2 y3 y4 y5 y6 y7 y8 y9 y10 y11 y12 y13 y14 y15 y16) (change_Names.l0 (k + 1) y0 y1 y2 y3 y4 y5 y6 y7 y8 y9 y10 y11 y12 y13 y14 y15 y16))
 | 0 => fun _ _ _ _ _ _ _ _ _ _ _ _ _ _ _ _ _ r h => by simp [change_Names.l0] at h
 | k + 1 => by
  have ih0 := change_Names.mono_l k
  ·intro y0 y1 y2 y3 y4 y5 y6 y7 y8 y9 y10 y11 y12 y13 y14 y15 y16
   unfold change_Names.l0
   repeat' first
   | (with_reducible exact ih0 _ _ _ _ _ _ _ _ _ _ _ _ _ _ _ _ _)
   | (with_reducible exact LeO.refl _)
   | (with_reducible exact LeO.none _)
   | (with_reducible refine LeO.ite ?_ ?_)
   | (with_reducible refine LeO.bind ?_ (fun _ => ?_))
   | exact ih0 _ _ _ _ _ _ _ _ _ _ _ _ _ _ _ _ _
   | exact LeO.none _
   | refine LeO.ite ?_ ?_
   | refine LeO.bind ?_ (fun _ => ?_)
theorem change_Names.mono : ∀ a0 a1 a2 a3 a4 a5 a6 a7 a8 a9 a10 a11 a12 k, LeO (change_Names.f k a0 a1 a2 a3 a4 a5 a6 a7 a8 a9 a10 a11 a12) (change_Names.f (k + 1) a0 a1 a2 a3 a4 a5 a6 a7 a8 a9 a10 a11 a12) := by
 intro a0 a1 a2 a3 a4 a5 a6 a7 a8 a9 a10 a11 a12 k
 have ih0 := change_Names.mono_l k
 unfold change_Names.f
 repeat' first
   | (with_reducible exact ih0 _ _ _ _ _ _ _ _ _ _ _ _ _ _ _ _ _)
   | (with_reducible exact LeO.refl _)
   | (with_reducible exact LeO.none _)
   | (with_reducible refine LeO.ite ?_ ?_)
   | (with_reducible refine LeO.bind ?_ (fun _ => ?_))
   | exact ih0 _ _ _ _ _ _ _ _ _ _ _ _ _ _ _ _ _
   | exact LeO.none _
   | refine LeO.ite ?_ ?_
   | refine LeO.bind ?_ (fun _ => ?_)
set_option maxHeartbeats 8000000 in
set_option maxRecDepth 100000 in
theorem change_Names.calls (k : Nat) (a0_0 : Int) (a0_1 : Int) (a0_2 : Int) (A0_3 : Option Addr) (c0_3 : Nat) (l0_3 : List Int) (a0_4 : Int) (a0_5 : Int) (a0_6 : Int) (a0_7 : Int) (a0_8 : Int) (a0_9 : Int) (a0_10 : Int) (a0_11 : ByteArray) (a0_12 : ByteArray) (r : List (S23)) (w : World) (hr0_3 : Kd.C (Kd.int .i64) w A0_3 l0_3.length l0_3) (hc0_3 : l0_3.length ≤ c0_3) (h : change_Names.f k a0_0 a0_1 a0_2 l0_3 a0_4 a0_5 a0_6 a0_7 a0_8 a0_9 a0_10 a0_11 a0_12 = some r) :
  Calls Tryz.prog 19 #[.agg #[.int .i64 a0_0, .int .i64 a0_1, .int .i64 a0_2, .slice A0_3 l0_3.length c0_3, .int .i64 a0_4, .int .i64 a0_5, .int .i64 a0_6, .int .i64 a0_7, .int .i64 a0_8, .int .i64 a0_9, .int .i64 a0_10, .string a0_11, .string a0_12]] w fun e w' => ∃ v0_ : Value, e = .returned (v0_) ∧ Kd.R k23 23 w' w.heap.size (fun _ => True) v0_ r ∧ Below w.heap.size w w' := by
 have hu26 := Tryz.underlying26
 have hu23 := Tryz.underlying23
 have HR0_3 := Aside0.mk hr0_3
 have HC0_3 := Aside0.mk hc0_3
 clear hr0_3 hc0_3
 have HB := Aside0.mk (Below.refl w.heap.size w)
 have H : ((some (([(⟨a0_5, a0_6⟩ : S23), (⟨a0_7, a0_8⟩ : S23), (⟨a0_9, a0_10⟩ : S23)] : List (S23)) : List (S23))).bind fun y336 => (change_Names.l0 k ([] : List (S23)) y336 (y336.length : Int) 0 a0_0 a0_1 a0_2 l0_3 a0_4 a0_5 a0_6 a0_7 a0_8 a0_9 a0_10 a0_11 a0_12)) = some r := h
 clear h
 obtain ⟨y336, hy336⟩ : ∃ y_ : List (S23), y_ = (([(⟨a0_5, a0_6⟩ : S23), (⟨a0_7, a0_8⟩ : S23), (⟨a0_9, a0_10⟩ : S23)] : List (S23))) := ⟨_, rfl⟩
 replace H : (change_Names.l0 k ([] : List (S23)) y336 (y336.length : Int) 0 a0_0 a0_1 a0_2 l0_3 a0_4 a0_5 a0_6 a0_7 a0_8 a0_9 a0_10 a0_11 a0_12) = some r := by first | (rw [hy336]; with_reducible exact H) | (have H2_ := (Option.bind_some _ _).symm.trans H; rw [hy336]; with_reducible exact H2_) | (have H2_ := (Option.bind_some _ _).symm.trans H; with_reducible exact H2_) | with_reducible exact H | (rw [hy336]; exact H) | exact H
 have Ny336 := Aside0.mk hy336
 clear hy336
 have H' := Aside0.mk H
 clear H
 go_enter Tryz.func19, Tryz.ntmps19
 go_wp2_with (first | ((with_reducible refine gate_dst (N := 1) rfl ?_); refine box_event ?hg (N := 1) ?hd (cs := #[.int .i64 a0_0, .int .i64 a0_1, .int .i64 a0_2, .slice A0_3 l0_3.length c0_3, .int .i64 a0_4, .int .i64 a0_5, .int .i64 a0_6, .int .i64 a0_7, .int .i64 a0_8, .int .i64 a0_9, .int .i64 a0_10, .string a0_11, .string a0_12]) (t := 26) ?hr ?_; (case hd => rfl); (case hg => rfl); (case hr => first | (go_simp; done) | (go_simp; rfl)); intro gb335 hg w2 hbox hb; have BK335 := Aside0.mk (hbox); have GW335 := Aside0.mk ((zq9_ : w.heap.size ≤ gb335)); have GE335 := Aside0.mk ((zq9_ : w.heap.size ≤ gb335)); replace HB := Aside0.mk (below_step zq0_ hb); clear hb hbox hg; obtain ⟨hcz3_0, hfz3_0, hcz3_1, hfz3_1, hcz3_2, hfz3_2, hcz3_3, hfz3_3, hcz3_4, hfz3_4, hcz3_5, hfz3_5, hcz3_6, hfz3_6, hcz3_7, hfz3_7, hcz3_8, hfz3_8, hcz3_9, hfz3_9, hcz3_10, hfz3_10, hcz3_11, hfz3_11, hcz3_12, hfz3_12⟩ := zqC13_ BK335.out) | ((with_reducible refine gate_dst (N := 12) rfl ?_); refine Kd.R_lit k23 _ 23 ?hg (N := 12) ?hd (xs := ([(⟨a0_5, a0_6⟩ : S23), (⟨a0_7, a0_8⟩ : S23), (⟨a0_9, a0_10⟩ : S23)] : List (S23))) (inner := [.int .i64 a0_5, .int .i64 a0_6, .int .i64 a0_7, .int .i64 a0_8, .int .i64 a0_9, .int .i64 a0_10]) (ok := fun _ => True) (okp := fun _ => True) ?hr ?hp (fun _ hk => hk) trivial (Below.refl _ _) (Nat.le_refl _) (by simp) ?_; (case hd => rfl); (case hg => rfl); (case hr => first | (go_simp; done) | (go_simp; rfl)); (case hp => exact (Reps.c2 (show Kd.M k23 _ _ _ (⟨a0_5, a0_6⟩ : S23) [.int .i64 a0_5, .int .i64 a0_6] from (k23_mkM _ _ _ (⟨a0_5, a0_6⟩ : S23) )) (Reps.c2 (show Kd.M k23 _ _ _ (⟨a0_7, a0_8⟩ : S23) [.int .i64 a0_7, .int .i64 a0_8] from (k23_mkM _ _ _ (⟨a0_7, a0_8⟩ : S23) )) (Reps.c2 (show Kd.M k23 _ _ _ (⟨a0_9, a0_10⟩ : S23) [.int .i64 a0_9, .int .i64 a0_10] from (k23_mkM _ _ _ (⟨a0_9, a0_10⟩ : S23) )) (Reps.none _ _))))); intro v337 w4 ho5 hb hg_ hnew_; clear hg_ hnew_; (first | rw [← Ny336.out] at ho5 | (simp only [Int.reduceToNat] at ho5; rw [← Ny336.out] at ho5)); have HO338 := Aside0.mk (Kd.R_lower ho5 (below_size (zqB1_ GE335.out))); replace BK335 := Aside0.mk (blk_below (zqK_ BK335.out) hb); replace HB := Aside0.mk (below_step (zqB1_ GE335.out) hb); clear hb ho5; obtain ⟨Ao6, co6, eo6⟩ := Kd.R_slice HO338.out; subst eo6))
 go_loopg [3, 14] k (fun kq v3 v14 w' => ∃ (x3_1 : List (S23)) (x14_1 : Int), v14 = .int .i64 x14_1 ∧ Aside0 (change_Names.l0 kq x3_1 y336 (y336.length : Int) x14_1 a0_0 a0_1 a0_2 l0_3 a0_4 a0_5 a0_6 a0_7 a0_8 a0_9 a0_10 a0_11 a0_12 = some r) ∧ Aside0 (kq ≤ k) ∧ Aside0 (Kd.R k23 23 w' w.heap.size (fun k_ => some k_ ≠ ((.slice Ao6 y336.length co6) : Value).ownBlock) v3 x3_1) ∧ Aside0 (Kd.R k23 23 w' w.heap.size (fun k_ => some k_ ≠ (v3 : Value).ownBlock) (.slice Ao6 y336.length co6) y336) ∧ Aside0 (w'.heap[gb335]? = some (.cells #[.int .i64 a0_0, .int .i64 a0_1, .int .i64 a0_2, (.slice A0_3 l0_3.length c0_3), .int .i64 a0_4, .int .i64 a0_5, .int .i64 a0_6, .int .i64 a0_7, .int .i64 a0_8, .int .i64 a0_9, .int .i64 a0_10, .string a0_11, .string a0_12] 26 (0, 0))) ∧ Aside0 (Below w.heap.size w w'))
 case atStart => exact ⟨(([] : List (S23))), (0), zq4_, H', ⟨Nat.le_refl _⟩, ⟨by first | exact Kd.R_nil _ _ _ _ _ | exact Kd.N_nil _ _ _ _ _ | exact Kd.V_nil _ _ _ _ _ | exact Kd.Q_nil _ _ _ _ _ | exact Kd.S_nil _ _ _ _ _⟩, ⟨by (with_reducible repeat (first | apply Kd.R_alloc | apply Kd.R_drewN | apply Kd.R_drew)); exact Kd.R_mono HO338.out (fun _ hk => (by simp [Value.ownBlock]))⟩, ⟨by (with_reducible repeat (first | refine blk_drewN ?_ _ | refine blk_drew ?_ | refine blk_alloc ?_ _)); exact BK335.out⟩, ⟨by repeat (first | (with_reducible first | exact HB.out | apply below_alloc | apply pw_below_drewN | apply below_drew1 | refine below_set ?_ GE335.out) | exact HB.out)⟩⟩
 case round =>
  clear H'
  try clear c1
  try clear c2
  try clear p2
  try clear hcz3_0 hcz3_1 hcz3_10 hcz3_11 hcz3_12 hcz3_2 hcz3_3 hcz3_4 hcz3_5 hcz3_6 hcz3_7 hcz3_8 hcz3_9 hfz3_0 hfz3_1 hfz3_10 hfz3_11 hfz3_12 hfz3_2 hfz3_3 hfz3_4 hfz3_5 hfz3_6 hfz3_7 hfz3_8 hfz3_9
  obtain ⟨x3_1, x14_1, rfl, HA, HK1, HO_3, HO_12, BK335, HB⟩ := hrel
  cases gk with
  | zero => exact absurd HA.out (by simp [change_Names.l0])
  | succ k1 =>
   have H := HA.out
   clear HA
   simp only [change_Names.l0] at H
   by_cases c7 : x14_1 < (y336.length : Int)
   ·rw [if_pos c7] at H
    have c7b0 : decide (x14_1 < (y336.length : Int)) = true := decide_eq_true c7
    clear c7
    by_cases c8 : 0 ≤ x14_1
    ·rw [if_pos c8] at H
     have c8b0 : decide (0 ≤ x14_1) = true := decide_eq_true c8
     clear c8
     by_cases c9 : x14_1 < (y336.length : Int)
     ·rw [if_pos c9] at H
      have c9b0 : decide (x14_1 < (y336.length : Int)) = true := decide_eq_true c9
      clear c9
      replace H := Option.bind_eq_some_iff.mp H
      obtain ⟨t341, A100, H⟩ := H
      have A10 := Aside0.mk A100
      clear A100
      by_cases c11 : t341 = true
      ·subst c11
       have H1 : (if (!(((rd_T23 y336 x14_1).f0) == a0_0) || (!(((rd_T23 y336 x14_1).f1) == a0_1))) = true then (if x3_1.length < 8796093022208 then (change_Names.l0 k1 (x3_1 ++ [(⟨(rd_T23 y336 x14_1).f0, (rd_T23 y336 x14_1).f1⟩ : S23)]) y336 (y336.length : Int) (wrap64 (x14_1 + 1)) a0_0 a0_1 a0_2 l0_3 a0_4 a0_5 a0_6 a0_7 a0_8 a0_9 a0_10 a0_11 a0_12) else (none)) else (change_Names.l0 k1 x3_1 y336 (y336.length : Int) (wrap64 (x14_1 + 1)) a0_0 a0_1 a0_2 l0_3 a0_4 a0_5 a0_6 a0_7 a0_8 a0_9 a0_10 a0_11 a0_12)) = some r := by rw [if_pos rfl] at H; exact H
       clear H
       have H := H1
       clear H1
       by_cases c12 : (!(((rd_T23 y336 x14_1).f0) == a0_0) || (!(((rd_T23 y336 x14_1).f1) == a0_1))) = true
       ·rw [if_pos c12] at H
        have c12b0 : (!(((rd_T23 y336 x14_1).f0) == a0_0) || (!(((rd_T23 y336 x14_1).f1) == a0_1))) = true := c12
        clear c12
        by_cases c13 : x3_1.length < 8796093022208
        ·rw [if_pos c13] at H
         have LMc13 := Aside0.mk c13
         clear c13
         obtain ⟨y342, hy342⟩ : ∃ y_ : List (S23), y_ = (x3_1 ++ [(⟨(rd_T23 y336 x14_1).f0, (rd_T23 y336 x14_1).f1⟩ : S23)]) := ⟨_, rfl⟩
         replace H : (change_Names.l0 k1 y342 y336 (y336.length : Int) (wrap64 (x14_1 + 1)) a0_0 a0_1 a0_2 l0_3 a0_4 a0_5 a0_6 a0_7 a0_8 a0_9 a0_10 a0_11 a0_12) = some r := by first | (rw [hy342]; with_reducible exact H) | (have H2_ := (Option.bind_some _ _).symm.trans H; rw [hy342]; with_reducible exact H2_) | (have H2_ := (Option.bind_some _ _).symm.trans H; with_reducible exact H2_) | with_reducible exact H | (rw [hy342]; exact H) | exact H
         have Ny342 := Aside0.mk hy342
         clear hy342
         have H' := Aside0.mk H
         clear H
         have p339 : 0 ≤ (x14_1 : Int) := of_decide_eq_true zq2_
         have q339 : x14_1 < (y336.length : Int) := of_decide_eq_true zq2_
         obtain ⟨ad339, e339, hx339_0, hx339_1⟩ := at_T23 (Kd.R_reads' HO_12.out).2.2 x14_1 p339 q339
         cases e339
         replace p339 := eq_true p339
         replace q339 := eq_true q339
         go_wp2_with (first | ((with_reducible refine gate_dst (N := 5) rfl ?_); refine box_event ?hg (N := 5) ?hd (cs := #[.int .i64 0, .int .i64 0]) (t := 23) ?hr ?_; (case hd => rfl); (case hg => rfl); (case hr => first | (go_simp; done) | (go_simp; rfl)); intro gb340 hg w14 hbox hb; replace HO_3 := Aside0.mk (Kd.R_below (Kd.R_elderB zq16_ gb340 (Nat.le_of_eq hg.symm)) hb); replace HO_12 := Aside0.mk (Kd.R_below (Kd.R_elderB zq32_ gb340 (Nat.le_of_eq hg.symm)) hb); have BK340 := Aside0.mk (hbox); have GW340 := Aside0.mk (((by rw [hg]; exact (below_size (zqB1_ GE335.out))) : w.heap.size ≤ gb340)); have GE340 := Aside0.mk (((by rw [hg]; exact (below_size (zqB1_ GE335.out))) : w.heap.size ≤ gb340)); replace HB := Aside0.mk (below_step (zqB1_ GE335.out) hb); have NB335_340 := Aside0.mk (((by rw [hg]; exact Nat.ne_of_lt (blk_lt (zqK_ BK335.out))) : gb335 ≠ gb340)); have NB340_335 := Aside0.mk (((by rw [hg]; exact Nat.ne_of_gt (blk_lt (zqK_ BK335.out))) : gb340 ≠ gb335)); replace BK335 := Aside0.mk (blk_below (zqK_ BK335.out) hb); clear hb hbox hg; have hnb15 := NB340_335.out; have hnc15 := NB335_340.out; obtain ⟨hcz16_0, hfz16_0, hcz16_1, hfz16_1⟩ := zqC2_ BK340.out) | ((with_reducible refine gate_callee (f := 25) rfl ?_); refine zqG_ (some 19) rfl Tryz.func25 #[.agg #[.int .i64 ((rd_T23 y336 x14_1).f0), .int .i64 ((rd_T23 y336 x14_1).f1)]] rfl ?_; (with_reducible refine (ident_Right.calls ((rd_T23 y336 x14_1).f0) ((rd_T23 y336 x14_1).f1) true _ A10.out).mono ?_); rintro e w17 ⟨rfl, hb⟩; refine ⟨_, rfl, ?_⟩; replace HO_3 := Aside0.mk (Kd.R_below zq28_ hb); replace HO_12 := Aside0.mk (Kd.R_below zq27_ hb); replace BK335 := Aside0.mk (blk_below (g := gb335) (o := .cells #[.int .i64 a0_0, .int .i64 a0_1, .int .i64 a0_2, .slice A0_3 l0_3.length c0_3, .int .i64 a0_4, .int .i64 a0_5, .int .i64 a0_6, .int .i64 a0_7, .int .i64 a0_8, .int .i64 a0_9, .int .i64 a0_10, .string a0_11, .string a0_12] 26 (0, 0)) zq25_ hb); replace BK340 := Aside0.mk (blk_below (g := gb340) (o := .cells #[.int .i64 ((rd_T23 y336 x14_1).f0), .int .i64 ((rd_T23 y336 x14_1).f1)] 23 (0, 0)) zq21_ hb); replace HB := Aside0.mk (below_step (zqB2_ GE335.out GE340.out) hb); (try clear hb); (try clear hb2); (try clear hk); (try clear hi); obtain ⟨hcz18_0, hfz18_0, hcz18_1, hfz18_1⟩ := zqC2_ BK340.out; obtain ⟨hcz19_0, hfz19_0, hcz19_1, hfz19_1, hcz19_2, hfz19_2, hcz19_3, hfz19_3, hcz19_4, hfz19_4, hcz19_5, hfz19_5, hcz19_6, hfz19_6, hcz19_7, hfz19_7, hcz19_8, hfz19_8, hcz19_9, hfz19_9, hcz19_10, hfz19_10, hcz19_11, hfz19_11, hcz19_12, hfz19_12⟩ := zqC13_ BK335.out) | ((with_reducible refine gate_builtin (b := .append) (xs := #[.tmp 26, .tmp 28]) rfl ?_); at_builtin; refine Kd.R_append k23 (w0 := w) w.heap.size rfl (.tmp 26) (.tmp 28) 39 23 (.agg #[(.int .i64 0), (.int .i64 0)]) 16 rfl Tryz.underlying39 info23 rfl (by decide) (by omega) u3 x3_1 (⟨(rd_T23 y336 x14_1).f0, (rd_T23 y336 x14_1).f1⟩ : S23) [.int .i64 ((rd_T23 y336 x14_1).f0), .int .i64 ((rd_T23 y336 x14_1).f1)] (fun k_ => some k_ ≠ (.slice (some ad339) y336.length co6 : Value).ownBlock ∧ k_ ≠ gb340) (fun _ => False) rfl rfl ?aP (fun _ hk => hk.elim) ?aF ?aO ?aB ?aS ?aL ?_; (case aP => exact k23_mkM _ _ _ (⟨(rd_T23 y336 x14_1).f0, (rd_T23 y336 x14_1).f1⟩ : S23)); (case aB => exact (zqB2_ GE335.out GE340.out)); (case aF => exact (fun k_ hk => ⟨Kd.fresh' (Kd.R_lt zq32_) k_ hk, Kd.freshB (zqK_ BK340.out) k_ hk⟩)); (case aO => exact zq16_); (case aS => exact (below_size (zqB2_ GE335.out GE340.out))); (case aL => have := LMc13.out; omega); intro v343 w20 ho hb hg hat; rw [← Ny342.out] at ho; replace HO_12 := Aside0.mk (Kd.R_after (ok := (fun k_ => k_ ≠ gb340)) (by (with_reducible repeat (first | apply Kd.R_alloc | apply Kd.R_drewN | apply Kd.R_drew)); exact Kd.R_mono HO_12.out (fun _ hk => ⟨hk.2, hk.1⟩)) hg hat); replace BK335 := Aside0.mk (blk_grown (zqK_ BK335.out) hg (Kd.R_ne HO_3.out BK335.out (by decide))); replace BK340 := Aside0.mk (blk_grown (zqK_ BK340.out) hg (Kd.R_away HO_3.out (fun _ hk => hk.2))); replace HB := Aside0.mk (hb); have HO344 := Aside0.mk (ho); clear HO_3; clear ho hb hg hat))
         go_roundg k1
         case measure => have := HK1.out; omega
         case rel => exact ⟨(y342), (wrap64 (x14_1 + 1)), zq4_, H', ⟨by have := HK1.out; omega⟩, ⟨by (with_reducible repeat (first | apply Kd.R_alloc | apply Kd.R_drewN | apply Kd.R_drew)); exact Kd.R_mono HO344.out (fun _ hk => hk.1)⟩, ⟨by (with_reducible repeat (first | apply Kd.R_alloc | apply Kd.R_drewN | apply Kd.R_drew)); exact Kd.R_mono HO_12.out (fun _ hk => hk.2)⟩, ⟨by (with_reducible repeat (first | refine blk_drewN ?_ _ | refine blk_drew ?_ | refine blk_alloc ?_ _)); exact BK335.out⟩, ⟨by repeat (first | (with_reducible first | exact HB.out | apply below_alloc | apply pw_below_drewN | apply below_drew1 | refine below_set ?_ GE335.out | refine below_set ?_ GE340.out) | exact HB.out)⟩⟩
        ·rw [if_neg c13] at H
         exact absurd H (by simp)
       ·rw [if_neg c12] at H
        have c12b0 : (!(((rd_T23 y336 x14_1).f0) == a0_0) || (!(((rd_T23 y336 x14_1).f1) == a0_1))) = false := by simpa using c12
        clear c12
        have H' := Aside0.mk H
        clear H
        have p339 : 0 ≤ (x14_1 : Int) := of_decide_eq_true zq2_
        have q339 : x14_1 < (y336.length : Int) := of_decide_eq_true zq2_
        obtain ⟨ad339, e339, hx339_0, hx339_1⟩ := at_T23 (Kd.R_reads' HO_12.out).2.2 x14_1 p339 q339
        cases e339
        replace p339 := eq_true p339
        replace q339 := eq_true q339
        go_wp2_with (first | ((with_reducible refine gate_dst (N := 5) rfl ?_); refine box_event ?hg (N := 5) ?hd (cs := #[.int .i64 0, .int .i64 0]) (t := 23) ?hr ?_; (case hd => rfl); (case hg => rfl); (case hr => first | (go_simp; done) | (go_simp; rfl)); intro gb340 hg w21 hbox hb; replace HO_3 := Aside0.mk (Kd.R_below (Kd.R_elderB zq16_ gb340 (Nat.le_of_eq hg.symm)) hb); replace HO_12 := Aside0.mk (Kd.R_below (Kd.R_elderB zq32_ gb340 (Nat.le_of_eq hg.symm)) hb); have BK340 := Aside0.mk (hbox); have GW340 := Aside0.mk (((by rw [hg]; exact (below_size (zqB1_ GE335.out))) : w.heap.size ≤ gb340)); have GE340 := Aside0.mk (((by rw [hg]; exact (below_size (zqB1_ GE335.out))) : w.heap.size ≤ gb340)); replace HB := Aside0.mk (below_step (zqB1_ GE335.out) hb); have NB335_340 := Aside0.mk (((by rw [hg]; exact Nat.ne_of_lt (blk_lt (zqK_ BK335.out))) : gb335 ≠ gb340)); have NB340_335 := Aside0.mk (((by rw [hg]; exact Nat.ne_of_gt (blk_lt (zqK_ BK335.out))) : gb340 ≠ gb335)); replace BK335 := Aside0.mk (blk_below (zqK_ BK335.out) hb); clear hb hbox hg; have hnb22 := NB340_335.out; have hnc22 := NB335_340.out; obtain ⟨hcz23_0, hfz23_0, hcz23_1, hfz23_1⟩ := zqC2_ BK340.out) | ((with_reducible refine gate_callee (f := 25) rfl ?_); refine zqG_ (some 19) rfl Tryz.func25 #[.agg #[.int .i64 ((rd_T23 y336 x14_1).f0), .int .i64 ((rd_T23 y336 x14_1).f1)]] rfl ?_; (with_reducible refine (ident_Right.calls ((rd_T23 y336 x14_1).f0) ((rd_T23 y336 x14_1).f1) true _ A10.out).mono ?_); rintro e w24 ⟨rfl, hb⟩; refine ⟨_, rfl, ?_⟩; replace HO_3 := Aside0.mk (Kd.R_below zq28_ hb); replace HO_12 := Aside0.mk (Kd.R_below zq27_ hb); replace BK335 := Aside0.mk (blk_below (g := gb335) (o := .cells #[.int .i64 a0_0, .int .i64 a0_1, .int .i64 a0_2, .slice A0_3 l0_3.length c0_3, .int .i64 a0_4, .int .i64 a0_5, .int .i64 a0_6, .int .i64 a0_7, .int .i64 a0_8, .int .i64 a0_9, .int .i64 a0_10, .string a0_11, .string a0_12] 26 (0, 0)) zq25_ hb); replace BK340 := Aside0.mk (blk_below (g := gb340) (o := .cells #[.int .i64 ((rd_T23 y336 x14_1).f0), .int .i64 ((rd_T23 y336 x14_1).f1)] 23 (0, 0)) zq21_ hb); replace HB := Aside0.mk (below_step (zqB2_ GE335.out GE340.out) hb); (try clear hb); (try clear hb2); (try clear hk); (try clear hi); obtain ⟨hcz25_0, hfz25_0, hcz25_1, hfz25_1⟩ := zqC2_ BK340.out; obtain ⟨hcz26_0, hfz26_0, hcz26_1, hfz26_1, hcz26_2, hfz26_2, hcz26_3, hfz26_3, hcz26_4, hfz26_4, hcz26_5, hfz26_5, hcz26_6, hfz26_6, hcz26_7, hfz26_7, hcz26_8, hfz26_8, hcz26_9, hfz26_9, hcz26_10, hfz26_10, hcz26_11, hfz26_11, hcz26_12, hfz26_12⟩ := zqC13_ BK335.out))
        go_roundg k1
        case measure => have := HK1.out; omega
        case rel => exact ⟨(x3_1), (wrap64 (x14_1 + 1)), zq4_, H', ⟨by have := HK1.out; omega⟩, ⟨by (with_reducible repeat (first | apply Kd.R_alloc | apply Kd.R_drewN | apply Kd.R_drew)); exact Kd.R_mono HO_3.out (fun _ hk => hk.1)⟩, ⟨by (with_reducible repeat (first | apply Kd.R_alloc | apply Kd.R_drewN | apply Kd.R_drew)); exact Kd.R_mono HO_12.out (fun _ hk => hk.1)⟩, ⟨by (with_reducible repeat (first | refine blk_drewN ?_ _ | refine blk_drew ?_ | refine blk_alloc ?_ _)); exact BK335.out⟩, ⟨by repeat (first | (with_reducible first | exact HB.out | apply below_alloc | apply pw_below_drewN | apply below_drew1 | refine below_set ?_ GE335.out | refine below_set ?_ GE340.out) | exact HB.out)⟩⟩
      ·replace c11 := Bool.eq_false_iff.mpr c11
       subst c11
       have H1 : (change_Names.l0 k1 x3_1 y336 (y336.length : Int) (wrap64 (x14_1 + 1)) a0_0 a0_1 a0_2 l0_3 a0_4 a0_5 a0_6 a0_7 a0_8 a0_9 a0_10 a0_11 a0_12) = some r := by rw [if_neg (show ¬ (false = true) by decide)] at H; exact H
       clear H
       have H := H1
       clear H1
       have H' := Aside0.mk H
       clear H
       have p339 : 0 ≤ (x14_1 : Int) := of_decide_eq_true zq2_
       have q339 : x14_1 < (y336.length : Int) := of_decide_eq_true zq2_
       obtain ⟨ad339, e339, hx339_0, hx339_1⟩ := at_T23 (Kd.R_reads' HO_12.out).2.2 x14_1 p339 q339
       cases e339
       replace p339 := eq_true p339
       replace q339 := eq_true q339
       go_wp2_with (first | ((with_reducible refine gate_dst (N := 5) rfl ?_); refine box_event ?hg (N := 5) ?hd (cs := #[.int .i64 0, .int .i64 0]) (t := 23) ?hr ?_; (case hd => rfl); (case hg => rfl); (case hr => first | (go_simp; done) | (go_simp; rfl)); intro gb340 hg w27 hbox hb; replace HO_3 := Aside0.mk (Kd.R_below (Kd.R_elderB zq16_ gb340 (Nat.le_of_eq hg.symm)) hb); replace HO_12 := Aside0.mk (Kd.R_below (Kd.R_elderB zq32_ gb340 (Nat.le_of_eq hg.symm)) hb); have BK340 := Aside0.mk (hbox); have GW340 := Aside0.mk (((by rw [hg]; exact (below_size (zqB1_ GE335.out))) : w.heap.size ≤ gb340)); have GE340 := Aside0.mk (((by rw [hg]; exact (below_size (zqB1_ GE335.out))) : w.heap.size ≤ gb340)); replace HB := Aside0.mk (below_step (zqB1_ GE335.out) hb); have NB335_340 := Aside0.mk (((by rw [hg]; exact Nat.ne_of_lt (blk_lt (zqK_ BK335.out))) : gb335 ≠ gb340)); have NB340_335 := Aside0.mk (((by rw [hg]; exact Nat.ne_of_gt (blk_lt (zqK_ BK335.out))) : gb340 ≠ gb335)); replace BK335 := Aside0.mk (blk_below (zqK_ BK335.out) hb); clear hb hbox hg; have hnb28 := NB340_335.out; have hnc28 := NB335_340.out; obtain ⟨hcz29_0, hfz29_0, hcz29_1, hfz29_1⟩ := zqC2_ BK340.out) | ((with_reducible refine gate_callee (f := 25) rfl ?_); refine zqG_ (some 19) rfl Tryz.func25 #[.agg #[.int .i64 ((rd_T23 y336 x14_1).f0), .int .i64 ((rd_T23 y336 x14_1).f1)]] rfl ?_; (with_reducible refine (ident_Right.calls ((rd_T23 y336 x14_1).f0) ((rd_T23 y336 x14_1).f1) false _ A10.out).mono ?_); rintro e w30 ⟨rfl, hb⟩; refine ⟨_, rfl, ?_⟩; replace HO_3 := Aside0.mk (Kd.R_below zq28_ hb); replace HO_12 := Aside0.mk (Kd.R_below zq27_ hb); replace BK335 := Aside0.mk (blk_below (g := gb335) (o := .cells #[.int .i64 a0_0, .int .i64 a0_1, .int .i64 a0_2, .slice A0_3 l0_3.length c0_3, .int .i64 a0_4, .int .i64 a0_5, .int .i64 a0_6, .int .i64 a0_7, .int .i64 a0_8, .int .i64 a0_9, .int .i64 a0_10, .string a0_11, .string a0_12] 26 (0, 0)) zq25_ hb); replace BK340 := Aside0.mk (blk_below (g := gb340) (o := .cells #[.int .i64 ((rd_T23 y336 x14_1).f0), .int .i64 ((rd_T23 y336 x14_1).f1)] 23 (0, 0)) zq21_ hb); replace HB := Aside0.mk (below_step (zqB2_ GE335.out GE340.out) hb); (try clear hb); (try clear hb2); (try clear hk); (try clear hi)))
       go_roundg k1
       case measure => have := HK1.out; omega
       case rel => exact ⟨(x3_1), (wrap64 (x14_1 + 1)), zq4_, H', ⟨by have := HK1.out; omega⟩, ⟨by (with_reducible repeat (first | apply Kd.R_alloc | apply Kd.R_drewN | apply Kd.R_drew)); exact Kd.R_mono HO_3.out (fun _ hk => hk.1)⟩, ⟨by (with_reducible repeat (first | apply Kd.R_alloc | apply Kd.R_drewN | apply Kd.R_drew)); exact Kd.R_mono HO_12.out (fun _ hk => hk.1)⟩, ⟨by (with_reducible repeat (first | refine blk_drewN ?_ _ | refine blk_drew ?_ | refine blk_alloc ?_ _)); exact BK335.out⟩, ⟨by repeat (first | (with_reducible first | exact HB.out | apply below_alloc | apply pw_below_drewN | apply below_drew1 | refine below_set ?_ GE335.out | refine below_set ?_ GE340.out) | exact HB.out)⟩⟩
     ·rw [if_neg c9] at H
      exact absurd H (by simp)
    ·rw [if_neg c8] at H
     exact absurd H (by simp)
   ·rw [if_neg c7] at H
    have c7b0 : decide (x14_1 < (y336.length : Int)) = false := decide_eq_false c7
    clear c7
    replace H := Option.bind_eq_some_iff.mp H
    obtain ⟨t345, A310, H⟩ := H
    replace H : (some t345) = some r := H
    have A31 := Aside0.mk A310
    clear A310
    obtain rfl := Option.some.inj H
    obtain ⟨Ao32, co32, eo32⟩ := Kd.R_slice HO_3.out
    subst eo32
    go_wp2_with (first | ((with_reducible refine gate_callee (f := 57) rfl ?_); refine zqG_ (some 32) rfl Tryz.func57 #[.slice Ao32 x3_1.length co32] rfl ?_; (with_reducible refine (ident_Sort.calls _ _ x3_1 t345 _ ?side1 ?side2 A31.out).mono ?_); (case side1 => repeat (first | exact (Kd.R_reads' HO_3.out).2.2 | (with_reducible refine Kd.C_alloc ?_ _) | (with_reducible refine Kd.C_drewN ?_ _) | (with_reducible refine Kd.C_drew ?_))); (case side2 => exact (Kd.R_reads' HO_3.out).2.1); rintro e w33 ⟨v346, rfl, ho0, hb⟩; refine ⟨_, rfl, ?_⟩; have HO347 := Aside0.mk (Kd.R_lower (Kd.R_new' (Kd.R_new' ho0 (Kd.R_lt zq16_)) (Kd.R_lt zq32_)) (below_size (zqB1_ GE335.out))); replace HO_3 := Aside0.mk (Kd.R_elder' zq16_ (Kd.R_base ho0) hb); replace HO_12 := Aside0.mk (Kd.R_elder' zq32_ (Kd.R_base ho0) hb); replace BK335 := Aside0.mk (blk_below (zqK_ BK335.out) hb); replace HB := Aside0.mk (below_step (zqB1_ GE335.out) hb); (try clear hb); (try clear hb2); (try clear hk); (try clear hi); (try clear ho0)))
    go_ret
    exact ⟨_, by first | rfl | (simp [errW_none, errW_some] <;> rfl) | (simp [*, errW_none, errW_some] <;> rfl), by (with_reducible repeat (first | apply Kd.R_alloc | apply Kd.R_drewN | apply Kd.R_drew)); exact Kd.R_mono HO347.out (fun _ hk => trivial), by repeat (first | (with_reducible first | exact HB.out | apply below_alloc | apply pw_below_drewN | apply below_drew1 | refine below_set ?_ GE335.out) | exact HB.out)⟩

end Go.Proofs.YtgoolgmcbnikkaaGreatDoor.QChangeAhead
