-- Own text of this seat, laid by the session's program ownprint.py (wip/tools). Lean checks it.
import Derived.Test.YtgoolgmcbnikkaaGreatDoorQChangeSamesx0
import Derived.Test.YtgoolgmcbnikkaaGreatDoorQChangeSamesx1
import Derived.Test.YtgoolgmcbnikkaaGreatDoorQChangeSamesx2
import Derived.Test.YtgoolgmcbnikkaaGreatDoorQChangeSamesx11
namespace Go.Proofs.YtgoolgmcbnikkaaGreatDoor.QChangeSames
open Go.RowKit Go.Proofs.YtgoolgmcbnikkaaGreatDoorW.PrintWords Go.Proofs.YtgoolgmcbnikkaaGreatDoorW.PrintLast Go.Proofs.YtgoolgmcbnikkaaGreatDoorW.PrintMore
attribute [local go_sem] max2_int min2_int max_two min_two max_three min_three max_four min_four   -- for this text's walks alone
set_option linter.unusedVariables false
set_option linter.unusedSimpArgs false

attribute [local go_sem high] eqA23
/-! ### change_Names: function 19 -/
def change_Names.l0 : Nat → List (S23) → List (S23) → Int → Int → Int → Int → Int → List Int → Int → Int → Int → Int → Int → Int → Int → ByteArray → ByteArray → Option ((List (S23)))
 | 0, _, _, _, _, _, _, _, _, _, _, _, _, _, _, _, _, _ => none
 | k + 1, x3, x12, x13, x14, x305000, x305001, x305002, x305003, x305004, x305005, x305006, x305007, x305008, x305009, x305010, x305011, x305012 => if x14 < x13 then (if 0 ≤ x14 then (if x14 < (x12.length : Int) then ((ident_Right.f ((rd_T23 x12 x14).f0) ((rd_T23 x12 x14).f1)).bind fun t310 => (if t310 = true then (if (!(((rd_T23 x12 x14).f0) == x305000) || (!(((rd_T23 x12 x14).f1) == x305001))) = true then (if x3.length < 8796093022208 then (change_Names.l0 k (x3 ++ [(⟨(rd_T23 x12 x14).f0, (rd_T23 x12 x14).f1⟩ : S23)]) x12 x13 (wrap64 (x14 + 1)) x305000 x305001 x305002 x305003 x305004 x305005 x305006 x305007 x305008 x305009 x305010 x305011 x305012) else (none)) else (change_Names.l0 k x3 x12 x13 (wrap64 (x14 + 1)) x305000 x305001 x305002 x305003 x305004 x305005 x305006 x305007 x305008 x305009 x305010 x305011 x305012)) else (change_Names.l0 k x3 x12 x13 (wrap64 (x14 + 1)) x305000 x305001 x305002 x305003 x305004 x305005 x305006 x305007 x305008 x305009 x305010 x305011 x305012))) else (none)) else (none)) else ((ident_Sort.f x3).bind fun t314 => (some t314))
def change_Names.f (k : Nat) (a0_0 : Int) (a0_1 : Int) (a0_2 : Int) (l0_3 : List Int) (a0_4 : Int) (a0_5 : Int) (a0_6 : Int) (a0_7 : Int) (a0_8 : Int) (a0_9 : Int) (a0_10 : Int) (a0_11 : ByteArray) (a0_12 : ByteArray) : Option ((List (S23))) := (some (([(⟨a0_5, a0_6⟩ : S23), (⟨a0_7, a0_8⟩ : S23), (⟨a0_9, a0_10⟩ : S23)] : List (S23)) : List (S23))).bind fun y305 => (change_Names.l0 k ([] : List (S23)) y305 (y305.length : Int) 0 a0_0 a0_1 a0_2 l0_3 a0_4 a0_5 a0_6 a0_7 a0_8 a0_9 a0_10 a0_11 a0_12)
theorem change_Names.mono_l : ∀ k, (∀ y0 y1 y2 y3 y4 y5 y6 y7 y8 y9 y10 y11 y12 y13 y14 y15 y16, LeO (change_Names.l0 k y0 y1 y2 y3 y4 y5 y6 y7 y8 y9 y10 y11 y12 y13 y14 y15 y16) (change_Names.l0 (k + 1) y0 y1 y2 y3 y4 y5 y6 y7 y8 y9 y10 y11 y12 y13 y14 y15 y16))
 | 0 => fun _ _ _ _ _ _ _ _ _ _ _ _ _ _ _ _ _ r h => by simp [change_Names.l0] at h
 | k + 1 => by
  have ih0 := change_Names.mono_l k
  ·intro y0 y1 y2 y3 y4 y5 y6 y7 y8 y9 y10 y11 y12 y13 y14 y15 y16
   unfold change_Names.l0
   repeat' first
   | (with_reducible exact ih0 _ _ _ _ _ _ _ _ _ _ _ _ _ _ _ _ _)
   | (with_reducible exact LeO.refl _)
   | (with_reducible exact LeO.none _)
   | (with_reducible refine LeO.ite ?_ ?_)
   | (with_reducible refine LeO.bind ?_ (fun _ => ?_))
   | exact ih0 _ _ _ _ _ _ _ _ _ _ _ _ _ _ _ _ _
   | exact LeO.none _
   | refine LeO.ite ?_ ?_
   | refine LeO.bind ?_ (fun _ => ?_)
theorem change_Names.mono : ∀ a0 a1 a2 a3 a4 a5 a6 a7 a8 a9 a10 a11 a12 k, LeO (change_Names.f k a0 a1 a2 a3 a4 a5 a6 a7 a8 a9 a10 a11 a12) (change_Names.f (k + 1) a0 a1 a2 a3 a4 a5 a6 a7 a8 a9 a10 a11 a12) := by
 intro a0 a1 a2 a3 a4 a5 a6 a7 a8 a9 a10 a11 a12 k
 have ih0 := change_Names.mono_l k
 unfold change_Names.f
 repeat' first
   | (with_reducible exact ih0 _ _ _ _ _ _ _ _ _ _ _ _ _ _ _ _ _)
   | (with_reducible exact LeO.refl _)
   | (with_reducible exact LeO.none _)
   | (with_reducible refine LeO.ite ?_ ?_)
   | (with_reducible refine LeO.bind ?_ (fun _ => ?_))
   | exact ih0 _ _ _ _ _ _ _ _ _ _ _ _ _ _ _ _ _
   | exact LeO.none _
   | refine LeO.ite ?_ ?_
   | refine LeO.bind ?_ (fun _ => ?_)
set_option maxHeartbeats 8000000 in
set_option maxRecDepth 100000 in
theorem change_Names.calls (k : Nat) (a0_0 : Int) (a0_1 : Int) (a0_2 : Int) (A0_3 : Option Addr) (c0_3 : Nat) (l0_3 : List Int) (a0_4 : Int) (a0_5 : Int) (a0_6 : Int) (a0_7 : Int) (a0_8 : Int) (a0_9 : Int) (a0_10 : Int) (a0_11 : ByteArray) (a0_12 : ByteArray) (r : List (S23)) (w : World) (hr0_3 : Kd.C (Kd.int .i64) w A0_3 l0_3.length l0_3) (hc0_3 : l0_3.length ≤ c0_3) (h : change_Names.f k a0_0 a0_1 a0_2 l0_3 a0_4 a0_5 a0_6 a0_7 a0_8 a0_9 a0_10 a0_11 a0_12 = some r) :
  Calls Tryz.prog 19 #[.agg #[.int .i64 a0_0, .int .i64 a0_1, .int .i64 a0_2, .slice A0_3 l0_3.length c0_3, .int .i64 a0_4, .int .i64 a0_5, .int .i64 a0_6, .int .i64 a0_7, .int .i64 a0_8, .int .i64 a0_9, .int .i64 a0_10, .string a0_11, .string a0_12]] w fun e w' => ∃ v0_ : Value, e = .returned (v0_) ∧ Kd.R k23 23 w' w.heap.size (fun _ => True) v0_ r ∧ Below w.heap.size w w' := by
 have hu26 := Tryz.underlying26
 have hu23 := Tryz.underlying23
 have HR0_3 := Aside0.mk hr0_3
 have HC0_3 := Aside0.mk hc0_3
 clear hr0_3 hc0_3
 have HB := Aside0.mk (Below.refl w.heap.size w)
 have H : ((some (([(⟨a0_5, a0_6⟩ : S23), (⟨a0_7, a0_8⟩ : S23), (⟨a0_9, a0_10⟩ : S23)] : List (S23)) : List (S23))).bind fun y305 => (change_Names.l0 k ([] : List (S23)) y305 (y305.length : Int) 0 a0_0 a0_1 a0_2 l0_3 a0_4 a0_5 a0_6 a0_7 a0_8 a0_9 a0_10 a0_11 a0_12)) = some r := h
 clear h
 obtain ⟨y305, hy305⟩ : ∃ y_ : List (S23), y_ = (([(⟨a0_5, a0_6⟩ : S23), (⟨a0_7, a0_8⟩ : S23), (⟨a0_9, a0_10⟩ : S23)] : List (S23))) := ⟨_, rfl⟩
 replace H : (change_Names.l0 k ([] : List (S23)) y305 (y305.length : Int) 0 a0_0 a0_1 a0_2 l0_3 a0_4 a0_5 a0_6 a0_7 a0_8 a0_9 a0_10 a0_11 a0_12) = some r := by first | (rw [hy305]; with_reducible exact H) | (have H2_ := (Option.bind_some _ _).symm.trans H; rw [hy305]; with_reducible exact H2_) | (have H2_ := (Option.bind_some _ _).symm.trans H; with_reducible exact H2_) | with_reducible exact H | (rw [hy305]; exact H) | exact H
 have Ny305 := Aside0.mk hy305
 clear hy305
 have H' := Aside0.mk H
 clear H
 go_enter Tryz.func19, Tryz.ntmps19
 go_wp2_with (first | ((with_reducible refine gate_dst (N := 1) rfl ?_); refine box_event ?hg (N := 1) ?hd (cs := #[.int .i64 a0_0, .int .i64 a0_1, .int .i64 a0_2, .slice A0_3 l0_3.length c0_3, .int .i64 a0_4, .int .i64 a0_5, .int .i64 a0_6, .int .i64 a0_7, .int .i64 a0_8, .int .i64 a0_9, .int .i64 a0_10, .string a0_11, .string a0_12]) (t := 26) ?hr ?_; (case hd => rfl); (case hg => rfl); (case hr => first | (go_simp; done) | (go_simp; rfl)); intro gb304 hg w2 hbox hb; have BK304 := Aside0.mk (hbox); have GW304 := Aside0.mk ((zq7_ : w.heap.size ≤ gb304)); have GE304 := Aside0.mk ((zq7_ : w.heap.size ≤ gb304)); replace HB := Aside0.mk (below_step zq0_ hb); clear hb hbox hg; obtain ⟨hcz3_0, hfz3_0, hcz3_1, hfz3_1, hcz3_2, hfz3_2, hcz3_3, hfz3_3, hcz3_4, hfz3_4, hcz3_5, hfz3_5, hcz3_6, hfz3_6, hcz3_7, hfz3_7, hcz3_8, hfz3_8, hcz3_9, hfz3_9, hcz3_10, hfz3_10, hcz3_11, hfz3_11, hcz3_12, hfz3_12⟩ := zqC13_ BK304.out) | ((with_reducible refine gate_dst (N := 12) rfl ?_); refine Kd.R_lit k23 _ 23 ?hg (N := 12) ?hd (xs := ([(⟨a0_5, a0_6⟩ : S23), (⟨a0_7, a0_8⟩ : S23), (⟨a0_9, a0_10⟩ : S23)] : List (S23))) (inner := [.int .i64 a0_5, .int .i64 a0_6, .int .i64 a0_7, .int .i64 a0_8, .int .i64 a0_9, .int .i64 a0_10]) (ok := fun _ => True) (okp := fun _ => True) ?hr ?hp (fun _ hk => hk) trivial (Below.refl _ _) (Nat.le_refl _) (by simp) ?_; (case hd => rfl); (case hg => rfl); (case hr => first | (go_simp; done) | (go_simp; rfl)); (case hp => exact (Reps.c2 (show Kd.M k23 _ _ _ (⟨a0_5, a0_6⟩ : S23) [.int .i64 a0_5, .int .i64 a0_6] from (k23_mkM _ _ _ (⟨a0_5, a0_6⟩ : S23) )) (Reps.c2 (show Kd.M k23 _ _ _ (⟨a0_7, a0_8⟩ : S23) [.int .i64 a0_7, .int .i64 a0_8] from (k23_mkM _ _ _ (⟨a0_7, a0_8⟩ : S23) )) (Reps.c2 (show Kd.M k23 _ _ _ (⟨a0_9, a0_10⟩ : S23) [.int .i64 a0_9, .int .i64 a0_10] from (k23_mkM _ _ _ (⟨a0_9, a0_10⟩ : S23) )) (Reps.none _ _))))); intro v306 w4 ho5 hb hg_ hnew_; clear hg_ hnew_; (first | rw [← Ny305.out] at ho5 | (simp only [Int.reduceToNat] at ho5; rw [← Ny305.out] at ho5)); have HO307 := Aside0.mk (Kd.R_lower ho5 (below_size (zqB1_ GE304.out))); replace BK304 := Aside0.mk (blk_below (zqK_ BK304.out) hb); replace HB := Aside0.mk (below_step (zqB1_ GE304.out) hb); clear hb ho5; obtain ⟨Ao6, co6, eo6⟩ := Kd.R_slice HO307.out; subst eo6))
 go_loopg [3, 14] k (fun kq v3 v14 w' => ∃ (x3_1 : List (S23)) (x14_1 : Int), v14 = .int .i64 x14_1 ∧ Aside0 (change_Names.l0 kq x3_1 y305 (y305.length : Int) x14_1 a0_0 a0_1 a0_2 l0_3 a0_4 a0_5 a0_6 a0_7 a0_8 a0_9 a0_10 a0_11 a0_12 = some r) ∧ Aside0 (kq ≤ k) ∧ Aside0 (Kd.R k23 23 w' w.heap.size (fun k_ => some k_ ≠ ((.slice Ao6 y305.length co6) : Value).ownBlock) v3 x3_1) ∧ Aside0 (Kd.R k23 23 w' w.heap.size (fun k_ => some k_ ≠ (v3 : Value).ownBlock) (.slice Ao6 y305.length co6) y305) ∧ Aside0 (w'.heap[gb304]? = some (.cells #[.int .i64 a0_0, .int .i64 a0_1, .int .i64 a0_2, (.slice A0_3 l0_3.length c0_3), .int .i64 a0_4, .int .i64 a0_5, .int .i64 a0_6, .int .i64 a0_7, .int .i64 a0_8, .int .i64 a0_9, .int .i64 a0_10, .string a0_11, .string a0_12] 26 (0, 0))) ∧ Aside0 (Below w.heap.size w w'))
 case atStart => exact ⟨(([] : List (S23))), (0), zq8_, H', ⟨Nat.le_refl _⟩, ⟨by first | exact Kd.R_nil _ _ _ _ _ | exact Kd.N_nil _ _ _ _ _ | exact Kd.V_nil _ _ _ _ _ | exact Kd.Q_nil _ _ _ _ _ | exact Kd.S_nil _ _ _ _ _⟩, ⟨by (with_reducible repeat (first | apply Kd.R_alloc | apply Kd.R_drewN | apply Kd.R_drew)); exact Kd.R_mono HO307.out (fun _ hk => (by simp [Value.ownBlock]))⟩, ⟨by (with_reducible repeat (first | refine blk_drewN ?_ _ | refine blk_drew ?_ | refine blk_alloc ?_ _)); exact BK304.out⟩, ⟨by repeat (first | (with_reducible first | exact HB.out | apply below_alloc | apply pw_below_drewN | apply below_drew1 | refine below_set ?_ GE304.out) | exact HB.out)⟩⟩
 case round =>
  clear H'
  try clear c1
  try clear c2
  try clear p2
  try clear hcz3_0 hcz3_1 hcz3_10 hcz3_11 hcz3_12 hcz3_2 hcz3_3 hcz3_4 hcz3_5 hcz3_6 hcz3_7 hcz3_8 hcz3_9 hfz3_0 hfz3_1 hfz3_10 hfz3_11 hfz3_12 hfz3_2 hfz3_3 hfz3_4 hfz3_5 hfz3_6 hfz3_7 hfz3_8 hfz3_9
  obtain ⟨x3_1, x14_1, rfl, HA, HK1, HO_3, HO_12, BK304, HB⟩ := hrel
  cases gk with
  | zero => exact absurd HA.out (by simp [change_Names.l0])
  | succ k1 =>
   have H := HA.out
   clear HA
   simp only [change_Names.l0] at H
   by_cases c7 : x14_1 < (y305.length : Int)
   ·rw [if_pos c7] at H
    have c7b0 : decide (x14_1 < (y305.length : Int)) = true := decide_eq_true c7
    clear c7
    by_cases c8 : 0 ≤ x14_1
    ·rw [if_pos c8] at H
     have c8b0 : decide (0 ≤ x14_1) = true := decide_eq_true c8
     clear c8
     by_cases c9 : x14_1 < (y305.length : Int)
     ·rw [if_pos c9] at H
      have c9b0 : decide (x14_1 < (y305.length : Int)) = true := decide_eq_true c9
      clear c9
      replace H := Option.bind_eq_some_iff.mp H
      obtain ⟨t310, A100, H⟩ := H
      have A10 := Aside0.mk A100
      clear A100
      by_cases c11 : t310 = true
      ·subst c11
       have H1 : (if (!(((rd_T23 y305 x14_1).f0) == a0_0) || (!(((rd_T23 y305 x14_1).f1) == a0_1))) = true then (if x3_1.length < 8796093022208 then (change_Names.l0 k1 (x3_1 ++ [(⟨(rd_T23 y305 x14_1).f0, (rd_T23 y305 x14_1).f1⟩ : S23)]) y305 (y305.length : Int) (wrap64 (x14_1 + 1)) a0_0 a0_1 a0_2 l0_3 a0_4 a0_5 a0_6 a0_7 a0_8 a0_9 a0_10 a0_11 a0_12) else (none)) else (change_Names.l0 k1 x3_1 y305 (y305.length : Int) (wrap64 (x14_1 + 1)) a0_0 a0_1 a0_2 l0_3 a0_4 a0_5 a0_6 a0_7 a0_8 a0_9 a0_10 a0_11 a0_12)) = some r := by rw [if_pos rfl] at H; exact H
       clear H
       have H := H1
       clear H1
       by_cases c12 : (!(((rd_T23 y305 x14_1).f0) == a0_0) || (!(((rd_T23 y305 x14_1).f1) == a0_1))) = true
       ·rw [if_pos c12] at H
        have c12b0 : (!(((rd_T23 y305 x14_1).f0) == a0_0) || (!(((rd_T23 y305 x14_1).f1) == a0_1))) = true := c12
        clear c12
        by_cases c13 : x3_1.length < 8796093022208
        ·rw [if_pos c13] at H
         have LMc13 := Aside0.mk c13
         clear c13
         obtain ⟨y311, hy311⟩ : ∃ y_ : List (S23), y_ = (x3_1 ++ [(⟨(rd_T23 y305 x14_1).f0, (rd_T23 y305 x14_1).f1⟩ : S23)]) := ⟨_, rfl⟩
         replace H : (change_Names.l0 k1 y311 y305 (y305.length : Int) (wrap64 (x14_1 + 1)) a0_0 a0_1 a0_2 l0_3 a0_4 a0_5 a0_6 a0_7 a0_8 a0_9 a0_10 a0_11 a0_12) = some r := by first | (rw [hy311]; with_reducible exact H) | (have H2_ := (Option.bind_some _ _).symm.trans H; rw [hy311]; with_reducible exact H2_) | (have H2_ := (Option.bind_some _ _).symm.trans H; with_reducible exact H2_) | with_reducible exact H | (rw [hy311]; exact H) | exact H
         have Ny311 := Aside0.mk hy311
         clear hy311
         have H' := Aside0.mk H
         clear H
         have p308 : 0 ≤ (x14_1 : Int) := of_decide_eq_true zq2_
         have q308 : x14_1 < (y305.length : Int) := of_decide_eq_true zq2_
         obtain ⟨ad308, e308, hx308_0, hx308_1⟩ := at_T23 (Kd.R_reads' HO_12.out).2.2 x14_1 p308 q308
         cases e308
         replace p308 := eq_true p308
         replace q308 := eq_true q308
         go_wp2_with (first | ((with_reducible refine gate_dst (N := 5) rfl ?_); refine box_event ?hg (N := 5) ?hd (cs := #[.int .i64 0, .int .i64 0]) (t := 23) ?hr ?_; (case hd => rfl); (case hg => rfl); (case hr => first | (go_simp; done) | (go_simp; rfl)); intro gb309 hg w14 hbox hb; replace HO_3 := Aside0.mk (Kd.R_below (Kd.R_elderB zq23_ gb309 (Nat.le_of_eq hg.symm)) hb); replace HO_12 := Aside0.mk (Kd.R_below (Kd.R_elderB zq35_ gb309 (Nat.le_of_eq hg.symm)) hb); have BK309 := Aside0.mk (hbox); have GW309 := Aside0.mk (((by rw [hg]; exact (below_size (zqB1_ GE304.out))) : w.heap.size ≤ gb309)); have GE309 := Aside0.mk (((by rw [hg]; exact (below_size (zqB1_ GE304.out))) : w.heap.size ≤ gb309)); replace HB := Aside0.mk (below_step (zqB1_ GE304.out) hb); have NB304_309 := Aside0.mk (((by rw [hg]; exact Nat.ne_of_lt (blk_lt (zqK_ BK304.out))) : gb304 ≠ gb309)); have NB309_304 := Aside0.mk (((by rw [hg]; exact Nat.ne_of_gt (blk_lt (zqK_ BK304.out))) : gb309 ≠ gb304)); replace BK304 := Aside0.mk (blk_below (zqK_ BK304.out) hb); clear hb hbox hg; have hnb15 := NB309_304.out; have hnc15 := NB304_309.out; obtain ⟨hcz16_0, hfz16_0, hcz16_1, hfz16_1⟩ := zqC2_ BK309.out) | ((with_reducible refine gate_callee (f := 25) rfl ?_); refine zqG_ (some 19) rfl Tryz.func25 #[.agg #[.int .i64 ((rd_T23 y305 x14_1).f0), .int .i64 ((rd_T23 y305 x14_1).f1)]] rfl ?_; (with_reducible refine (ident_Right.calls ((rd_T23 y305 x14_1).f0) ((rd_T23 y305 x14_1).f1) true _ A10.out).mono ?_); rintro e w17 ⟨rfl, hb⟩; refine ⟨_, rfl, ?_⟩; replace HO_3 := Aside0.mk (Kd.R_below zq31_ hb); replace HO_12 := Aside0.mk (Kd.R_below zq30_ hb); replace BK304 := Aside0.mk (blk_below (g := gb304) (o := .cells #[.int .i64 a0_0, .int .i64 a0_1, .int .i64 a0_2, .slice A0_3 l0_3.length c0_3, .int .i64 a0_4, .int .i64 a0_5, .int .i64 a0_6, .int .i64 a0_7, .int .i64 a0_8, .int .i64 a0_9, .int .i64 a0_10, .string a0_11, .string a0_12] 26 (0, 0)) zq28_ hb); replace BK309 := Aside0.mk (blk_below (g := gb309) (o := .cells #[.int .i64 ((rd_T23 y305 x14_1).f0), .int .i64 ((rd_T23 y305 x14_1).f1)] 23 (0, 0)) zq22_ hb); replace HB := Aside0.mk (below_step (zqB2_ GE304.out GE309.out) hb); (try clear hb); (try clear hb2); (try clear hk); (try clear hi); obtain ⟨hcz18_0, hfz18_0, hcz18_1, hfz18_1⟩ := zqC2_ BK309.out; obtain ⟨hcz19_0, hfz19_0, hcz19_1, hfz19_1, hcz19_2, hfz19_2, hcz19_3, hfz19_3, hcz19_4, hfz19_4, hcz19_5, hfz19_5, hcz19_6, hfz19_6, hcz19_7, hfz19_7, hcz19_8, hfz19_8, hcz19_9, hfz19_9, hcz19_10, hfz19_10, hcz19_11, hfz19_11, hcz19_12, hfz19_12⟩ := zqC13_ BK304.out) | ((with_reducible refine gate_builtin (b := .append) (xs := #[.tmp 26, .tmp 28]) rfl ?_); at_builtin; refine Kd.R_append k23 (w0 := w) w.heap.size rfl (.tmp 26) (.tmp 28) 39 23 (.agg #[(.int .i64 0), (.int .i64 0)]) 16 rfl Tryz.underlying39 info23 rfl (by decide) (by omega) u3 x3_1 (⟨(rd_T23 y305 x14_1).f0, (rd_T23 y305 x14_1).f1⟩ : S23) [.int .i64 ((rd_T23 y305 x14_1).f0), .int .i64 ((rd_T23 y305 x14_1).f1)] (fun k_ => some k_ ≠ (.slice (some ad308) y305.length co6 : Value).ownBlock ∧ k_ ≠ gb309) (fun _ => False) rfl rfl ?aP (fun _ hk => hk.elim) ?aF ?aO ?aB ?aS ?aL ?_; (case aP => exact k23_mkM _ _ _ (⟨(rd_T23 y305 x14_1).f0, (rd_T23 y305 x14_1).f1⟩ : S23)); (case aB => exact (zqB2_ GE304.out GE309.out)); (case aF => exact (fun k_ hk => ⟨Kd.fresh' (Kd.R_lt zq35_) k_ hk, Kd.freshB (zqK_ BK309.out) k_ hk⟩)); (case aO => exact zq23_); (case aS => exact (below_size (zqB2_ GE304.out GE309.out))); (case aL => have := LMc13.out; omega); intro v312 w20 ho hb hg hat; rw [← Ny311.out] at ho; replace HO_12 := Aside0.mk (Kd.R_after (ok := (fun k_ => k_ ≠ gb309)) (by (with_reducible repeat (first | apply Kd.R_alloc | apply Kd.R_drewN | apply Kd.R_drew)); exact Kd.R_mono HO_12.out (fun _ hk => ⟨hk.2, hk.1⟩)) hg hat); replace BK304 := Aside0.mk (blk_grown (zqK_ BK304.out) hg (Kd.R_ne HO_3.out BK304.out (by decide))); replace BK309 := Aside0.mk (blk_grown (zqK_ BK309.out) hg (Kd.R_away HO_3.out (fun _ hk => hk.2))); replace HB := Aside0.mk (hb); have HO313 := Aside0.mk (ho); clear HO_3; clear ho hb hg hat))
         go_roundg k1
         case measure => have := HK1.out; omega
         case rel => exact ⟨(y311), (wrap64 (x14_1 + 1)), zq8_, H', ⟨by have := HK1.out; omega⟩, ⟨by (with_reducible repeat (first | apply Kd.R_alloc | apply Kd.R_drewN | apply Kd.R_drew)); exact Kd.R_mono HO313.out (fun _ hk => hk.1)⟩, ⟨by (with_reducible repeat (first | apply Kd.R_alloc | apply Kd.R_drewN | apply Kd.R_drew)); exact Kd.R_mono HO_12.out (fun _ hk => hk.2)⟩, ⟨by (with_reducible repeat (first | refine blk_drewN ?_ _ | refine blk_drew ?_ | refine blk_alloc ?_ _)); exact BK304.out⟩, ⟨by repeat (first | (with_reducible first | exact HB.out | apply below_alloc | apply pw_below_drewN | apply below_drew1 | refine below_set ?_ GE304.out | refine below_set ?_ GE309.out) | exact HB.out)⟩⟩
        ·rw [if_neg c13] at H
         exact absurd H (by simp)
       ·rw [if_neg c12] at H
        have c12b0 : (!(((rd_T23 y305 x14_1).f0) == a0_0) || (!(((rd_T23 y305 x14_1).f1) == a0_1))) = false := by simpa using c12
        clear c12
        have H' := Aside0.mk H
        clear H
        have p308 : 0 ≤ (x14_1 : Int) := of_decide_eq_true zq2_
        have q308 : x14_1 < (y305.length : Int) := of_decide_eq_true zq2_
        obtain ⟨ad308, e308, hx308_0, hx308_1⟩ := at_T23 (Kd.R_reads' HO_12.out).2.2 x14_1 p308 q308
        cases e308
        replace p308 := eq_true p308
        replace q308 := eq_true q308
        go_wp2_with (first | ((with_reducible refine gate_dst (N := 5) rfl ?_); refine box_event ?hg (N := 5) ?hd (cs := #[.int .i64 0, .int .i64 0]) (t := 23) ?hr ?_; (case hd => rfl); (case hg => rfl); (case hr => first | (go_simp; done) | (go_simp; rfl)); intro gb309 hg w21 hbox hb; replace HO_3 := Aside0.mk (Kd.R_below (Kd.R_elderB zq23_ gb309 (Nat.le_of_eq hg.symm)) hb); replace HO_12 := Aside0.mk (Kd.R_below (Kd.R_elderB zq35_ gb309 (Nat.le_of_eq hg.symm)) hb); have BK309 := Aside0.mk (hbox); have GW309 := Aside0.mk (((by rw [hg]; exact (below_size (zqB1_ GE304.out))) : w.heap.size ≤ gb309)); have GE309 := Aside0.mk (((by rw [hg]; exact (below_size (zqB1_ GE304.out))) : w.heap.size ≤ gb309)); replace HB := Aside0.mk (below_step (zqB1_ GE304.out) hb); have NB304_309 := Aside0.mk (((by rw [hg]; exact Nat.ne_of_lt (blk_lt (zqK_ BK304.out))) : gb304 ≠ gb309)); have NB309_304 := Aside0.mk (((by rw [hg]; exact Nat.ne_of_gt (blk_lt (zqK_ BK304.out))) : gb309 ≠ gb304)); replace BK304 := Aside0.mk (blk_below (zqK_ BK304.out) hb); clear hb hbox hg; have hnb22 := NB309_304.out; have hnc22 := NB304_309.out; obtain ⟨hcz23_0, hfz23_0, hcz23_1, hfz23_1⟩ := zqC2_ BK309.out) | ((with_reducible refine gate_callee (f := 25) rfl ?_); refine zqG_ (some 19) rfl Tryz.func25 #[.agg #[.int .i64 ((rd_T23 y305 x14_1).f0), .int .i64 ((rd_T23 y305 x14_1).f1)]] rfl ?_; (with_reducible refine (ident_Right.calls ((rd_T23 y305 x14_1).f0) ((rd_T23 y305 x14_1).f1) true _ A10.out).mono ?_); rintro e w24 ⟨rfl, hb⟩; refine ⟨_, rfl, ?_⟩; replace HO_3 := Aside0.mk (Kd.R_below zq31_ hb); replace HO_12 := Aside0.mk (Kd.R_below zq30_ hb); replace BK304 := Aside0.mk (blk_below (g := gb304) (o := .cells #[.int .i64 a0_0, .int .i64 a0_1, .int .i64 a0_2, .slice A0_3 l0_3.length c0_3, .int .i64 a0_4, .int .i64 a0_5, .int .i64 a0_6, .int .i64 a0_7, .int .i64 a0_8, .int .i64 a0_9, .int .i64 a0_10, .string a0_11, .string a0_12] 26 (0, 0)) zq28_ hb); replace BK309 := Aside0.mk (blk_below (g := gb309) (o := .cells #[.int .i64 ((rd_T23 y305 x14_1).f0), .int .i64 ((rd_T23 y305 x14_1).f1)] 23 (0, 0)) zq22_ hb); replace HB := Aside0.mk (below_step (zqB2_ GE304.out GE309.out) hb); (try clear hb); (try clear hb2); (try clear hk); (try clear hi); obtain ⟨hcz25_0, hfz25_0, hcz25_1, hfz25_1⟩ := zqC2_ BK309.out; obtain ⟨hcz26_0, hfz26_0, hcz26_1, hfz26_1, hcz26_2, hfz26_2, hcz26_3, hfz26_3, hcz26_4, hfz26_4, hcz26_5, hfz26_5, hcz26_6, hfz26_6, hcz26_7, hfz26_7, hcz26_8, hfz26_8, hcz26_9, hfz26_9, hcz26_10, hfz26_10, hcz26_11, hfz26_11, hcz26_12, hfz26_12⟩ := zqC13_ BK304.out))
        go_roundg k1
        case measure => have := HK1.out; omega
        case rel => exact ⟨(x3_1), (wrap64 (x14_1 + 1)), zq8_, H', ⟨by have := HK1.out; omega⟩, ⟨by (with_reducible repeat (first | apply Kd.R_alloc | apply Kd.R_drewN | apply Kd.R_drew)); exact Kd.R_mono HO_3.out (fun _ hk => hk.1)⟩, ⟨by (with_reducible repeat (first | apply Kd.R_alloc | apply Kd.R_drewN | apply Kd.R_drew)); exact Kd.R_mono HO_12.out (fun _ hk => hk.1)⟩, ⟨by (with_reducible repeat (first | refine blk_drewN ?_ _ | refine blk_drew ?_ | refine blk_alloc ?_ _)); exact BK304.out⟩, ⟨by repeat (first | (with_reducible first | exact HB.out | apply below_alloc | apply pw_below_drewN | apply below_drew1 | refine below_set ?_ GE304.out | refine below_set ?_ GE309.out) | exact HB.out)⟩⟩
      ·replace c11 := Bool.eq_false_iff.mpr c11
       subst c11
       have H1 : (change_Names.l0 k1 x3_1 y305 (y305.length : Int) (wrap64 (x14_1 + 1)) a0_0 a0_1 a0_2 l0_3 a0_4 a0_5 a0_6 a0_7 a0_8 a0_9 a0_10 a0_11 a0_12) = some r := by rw [if_neg (show ¬ (false = true) by decide)] at H; exact H
       clear H
       have H := H1
       clear H1
       have H' := Aside0.mk H
       clear H
       have p308 : 0 ≤ (x14_1 : Int) := of_decide_eq_true zq2_
       have q308 : x14_1 < (y305.length : Int) := of_decide_eq_true zq2_
       obtain ⟨ad308, e308, hx308_0, hx308_1⟩ := at_T23 (Kd.R_reads' HO_12.out).2.2 x14_1 p308 q308
       cases e308
       replace p308 := eq_true p308
       replace q308 := eq_true q308
       go_wp2_with (first | ((with_reducible refine gate_dst (N := 5) rfl ?_); refine box_event ?hg (N := 5) ?hd (cs := #[.int .i64 0, .int .i64 0]) (t := 23) ?hr ?_; (case hd => rfl); (case hg => rfl); (case hr => first | (go_simp; done) | (go_simp; rfl)); intro gb309 hg w27 hbox hb; replace HO_3 := Aside0.mk (Kd.R_below (Kd.R_elderB zq23_ gb309 (Nat.le_of_eq hg.symm)) hb); replace HO_12 := Aside0.mk (Kd.R_below (Kd.R_elderB zq35_ gb309 (Nat.le_of_eq hg.symm)) hb); have BK309 := Aside0.mk (hbox); have GW309 := Aside0.mk (((by rw [hg]; exact (below_size (zqB1_ GE304.out))) : w.heap.size ≤ gb309)); have GE309 := Aside0.mk (((by rw [hg]; exact (below_size (zqB1_ GE304.out))) : w.heap.size ≤ gb309)); replace HB := Aside0.mk (below_step (zqB1_ GE304.out) hb); have NB304_309 := Aside0.mk (((by rw [hg]; exact Nat.ne_of_lt (blk_lt (zqK_ BK304.out))) : gb304 ≠ gb309)); have NB309_304 := Aside0.mk (((by rw [hg]; exact Nat.ne_of_gt (blk_lt (zqK_ BK304.out))) : gb309 ≠ gb304)); replace BK304 := Aside0.mk (blk_below (zqK_ BK304.out) hb); clear hb hbox hg; have hnb28 := NB309_304.out; have hnc28 := NB304_309.out; obtain ⟨hcz29_0, hfz29_0, hcz29_1, hfz29_1⟩ := zqC2_ BK309.out) | ((with_reducible refine gate_callee (f := 25) rfl ?_); refine zqG_ (some 19) rfl Tryz.func25 #[.agg #[.int .i64 ((rd_T23 y305 x14_1).f0), .int .i64 ((rd_T23 y305 x14_1).f1)]] rfl ?_; (with_reducible refine (ident_Right.calls ((rd_T23 y305 x14_1).f0) ((rd_T23 y305 x14_1).f1) false _ A10.out).mono ?_); rintro e w30 ⟨rfl, hb⟩; refine ⟨_, rfl, ?_⟩; replace HO_3 := Aside0.mk (Kd.R_below zq31_ hb); replace HO_12 := Aside0.mk (Kd.R_below zq30_ hb); replace BK304 := Aside0.mk (blk_below (g := gb304) (o := .cells #[.int .i64 a0_0, .int .i64 a0_1, .int .i64 a0_2, .slice A0_3 l0_3.length c0_3, .int .i64 a0_4, .int .i64 a0_5, .int .i64 a0_6, .int .i64 a0_7, .int .i64 a0_8, .int .i64 a0_9, .int .i64 a0_10, .string a0_11, .string a0_12] 26 (0, 0)) zq28_ hb); replace BK309 := Aside0.mk (blk_below (g := gb309) (o := .cells #[.int .i64 ((rd_T23 y305 x14_1).f0), .int .i64 ((rd_T23 y305 x14_1).f1)] 23 (0, 0)) zq22_ hb); replace HB := Aside0.mk (below_step (zqB2_ GE304.out GE309.out) hb); (try clear hb); (try clear hb2); (try clear hk); (try clear hi)))
       go_roundg k1
       case measure => have := HK1.out; omega
       case rel => exact ⟨(x3_1), (wrap64 (x14_1 + 1)), zq8_, H', ⟨by have := HK1.out; omega⟩, ⟨by (with_reducible repeat (first | apply Kd.R_alloc | apply Kd.R_drewN | apply Kd.R_drew)); exact Kd.R_mono HO_3.out (fun _ hk => hk.1)⟩, ⟨by (with_reducible repeat (first | apply Kd.R_alloc | apply Kd.R_drewN | apply Kd.R_drew)); exact Kd.R_mono HO_12.out (fun _ hk => hk.1)⟩, ⟨by (with_reducible repeat (first | refine blk_drewN ?_ _ | refine blk_drew ?_ | refine blk_alloc ?_ _)); exact BK304.out⟩, ⟨by repeat (first | (with_reducible first | exact HB.out | apply below_alloc | apply pw_below_drewN | apply below_drew1 | refine below_set ?_ GE304.out | refine below_set ?_ GE309.out) | exact HB.out)⟩⟩
     ·rw [if_neg c9] at H
      exact absurd H (by simp)
    ·rw [if_neg c8] at H
     exact absurd H (by simp)
   ·rw [if_neg c7] at H
    have c7b0 : decide (x14_1 < (y305.length : Int)) = false := decide_eq_false c7
    clear c7
    replace H := Option.bind_eq_some_iff.mp H
    obtain ⟨t314, A310, H⟩ := H
    replace H : (some t314) = some r := H
    have A31 := Aside0.mk A310
    clear A310
    obtain rfl := Option.some.inj H
    obtain ⟨Ao32, co32, eo32⟩ := Kd.R_slice HO_3.out
    subst eo32
    go_wp2_with (first | ((with_reducible refine gate_callee (f := 57) rfl ?_); refine zqG_ (some 32) rfl Tryz.func57 #[.slice Ao32 x3_1.length co32] rfl ?_; (with_reducible refine (ident_Sort.calls _ _ x3_1 t314 _ ?side1 ?side2 A31.out).mono ?_); (case side1 => repeat (first | exact (Kd.R_reads' HO_3.out).2.2 | (with_reducible refine Kd.C_alloc ?_ _) | (with_reducible refine Kd.C_drewN ?_ _) | (with_reducible refine Kd.C_drew ?_))); (case side2 => exact (Kd.R_reads' HO_3.out).2.1); rintro e w33 ⟨v315, rfl, ho0, hb⟩; refine ⟨_, rfl, ?_⟩; have HO316 := Aside0.mk (Kd.R_lower (Kd.R_new' (Kd.R_new' ho0 (Kd.R_lt zq23_)) (Kd.R_lt zq35_)) (below_size (zqB1_ GE304.out))); replace HO_3 := Aside0.mk (Kd.R_elder' zq23_ (Kd.R_base ho0) hb); replace HO_12 := Aside0.mk (Kd.R_elder' zq35_ (Kd.R_base ho0) hb); replace BK304 := Aside0.mk (blk_below (zqK_ BK304.out) hb); replace HB := Aside0.mk (below_step (zqB1_ GE304.out) hb); (try clear hb); (try clear hb2); (try clear hk); (try clear hi); (try clear ho0)))
    go_ret
    exact ⟨_, by first | rfl | (simp [errW_none, errW_some] <;> rfl) | (simp [*, errW_none, errW_some] <;> rfl), by (with_reducible repeat (first | apply Kd.R_alloc | apply Kd.R_drewN | apply Kd.R_drew)); exact Kd.R_mono HO316.out (fun _ hk => trivial), by repeat (first | (with_reducible first | exact HB.out | apply below_alloc | apply pw_below_drewN | apply below_drew1 | refine below_set ?_ GE304.out) | exact HB.out)⟩

/-! ### topiaryref01_Less: function 20 -/
def topiaryref01_Less.f (a0_0 : Int) (a0_1 : Int) (a1_0 : Int) (a1_1 : Int) : Option (Bool) := if a0_0 < a1_0 then (some true) else (if a0_0 = a1_0 then (some (decide (a0_1 < a1_1))) else (some false))
set_option maxHeartbeats 8000000 in
set_option maxRecDepth 100000 in
theorem topiaryref01_Less.calls (a0_0 : Int) (a0_1 : Int) (a1_0 : Int) (a1_1 : Int) (r : Bool) (w : World) (h : topiaryref01_Less.f a0_0 a0_1 a1_0 a1_1 = some r) :
  Calls Tryz.prog 20 #[.agg #[.int .i64 a0_0, .int .i64 a0_1], .agg #[.int .i64 a1_0, .int .i64 a1_1]] w fun e w' => e = .returned (.bool r) ∧ Below w.heap.size w w' := by
 have hu23 := Tryz.underlying23
 have HB := Aside0.mk (Below.refl w.heap.size w)
 have H : (if a0_0 < a1_0 then (some true) else (if a0_0 = a1_0 then (some (decide (a0_1 < a1_1))) else (some false))) = some r := h
 clear h
 by_cases c3 : a0_0 < a1_0
 focus
  rw [if_pos c3] at H
  have c3b0 : decide (a0_0 < a1_0) = true := decide_eq_true c3
  clear c3
  obtain rfl := Option.some.inj H
 rotate_right
 focus
  rw [if_neg c3] at H
  have c3b0 : decide (a0_0 < a1_0) = false := decide_eq_false c3
  clear c3
  by_cases c9 : a0_0 = a1_0
  focus
   rw [if_pos c9] at H
   have c9b0 : (a0_0 == a1_0) = true := beq_iff_eq.mpr c9
   have c9b1 : (a0_0 != a1_0) = false := bne_eq_false_iff_eq.mpr c9
   clear c9
   obtain rfl := Option.some.inj H
  rotate_right
  focus
   rw [if_neg c9] at H
   have c9b0 : (a0_0 == a1_0) = false := beq_eq_false_iff_ne.mpr c9
   have c9b1 : (a0_0 != a1_0) = true := bne_iff_ne.mpr c9
   obtain rfl := Option.some.inj H
 all_goals
  go_enter Tryz.func20, Tryz.ntmps20
  go_wp2_with (first | ((with_reducible refine gate_dst (N := 2) rfl ?_); refine box_event ?hg (N := 2) ?hd (cs := #[.int .i64 a0_0, .int .i64 a0_1]) (t := 23) ?hr ?_; (case hd => rfl); (case hg => rfl); (case hr => first | (go_simp; done) | (go_simp; rfl)); intro gbz1 hg wz1 hbox hb; have BKz1 := Aside0.mk (hbox); have GWz1 := Aside0.mk ((zq7_ : w.heap.size ≤ gbz1)); have GEz1 := Aside0.mk ((zq7_ : w.heap.size ≤ gbz1)); replace HB := Aside0.mk (below_step zq0_ hb); clear hb hbox hg) | ((with_reducible refine gate_dst (N := 3) rfl ?_); refine box_event ?hg (N := 3) ?hd (cs := #[.int .i64 a1_0, .int .i64 a1_1]) (t := 23) ?hr ?_; (case hd => rfl); (case hg => rfl); (case hr => first | (go_simp; done) | (go_simp; rfl)); intro gbz2 hg wz2 hbox hb; have BKz2 := Aside0.mk (hbox); have GWz2 := Aside0.mk ((zq25_ : w.heap.size ≤ gbz2)); have GEz2 := Aside0.mk ((zq25_ : w.heap.size ≤ gbz2)); replace HB := Aside0.mk (below_step (zqB1_ GEz1.out) hb); have NBz1_z2 := Aside0.mk ((zq37_ : gbz1 ≠ gbz2)); have NBz2_z1 := Aside0.mk ((zq38_ : gbz2 ≠ gbz1)); replace BKz1 := Aside0.mk (blk_below (zqK_ BKz1.out) hb); clear hb hbox hg; have hnbz3 := NBz1_z2.out; have hncz3 := NBz2_z1.out; obtain ⟨hczz4_0, hfzz4_0, hczz4_1, hfzz4_1⟩ := zqC2_ BKz1.out; obtain ⟨hczz5_0, hfzz5_0, hczz5_1, hfzz5_1⟩ := zqC2_ BKz2.out))
 ·go_ret
  exact ⟨by first | rfl | (simp [errW_none, errW_some] <;> rfl) | (simp [*, errW_none, errW_some] <;> rfl), by repeat (first | (with_reducible first | exact HB.out | apply below_alloc | apply pw_below_drewN | apply below_drew1 | refine below_set ?_ GEz1.out | refine below_set ?_ GEz2.out) | exact HB.out)⟩
 ·go_ret
  exact ⟨by first | rfl | (simp [errW_none, errW_some] <;> rfl) | (simp [*, errW_none, errW_some] <;> rfl), by repeat (first | (with_reducible first | exact HB.out | apply below_alloc | apply pw_below_drewN | apply below_drew1 | refine below_set ?_ GEz1.out | refine below_set ?_ GEz2.out) | exact HB.out)⟩
 ·go_ret
  exact ⟨by first | rfl | (simp [errW_none, errW_some] <;> rfl) | (simp [*, errW_none, errW_some] <;> rfl), by repeat (first | (with_reducible first | exact HB.out | apply below_alloc | apply pw_below_drewN | apply below_drew1 | refine below_set ?_ GEz1.out | refine below_set ?_ GEz2.out) | exact HB.out)⟩

/-! ### slices_Equal_int_int: function 58 -/
def slices_Equal_int_int.l0 : Nat → List Int → List Int → Int → Int → Option (Bool)
 | 0, _, _, _, _ => none
 | k + 1, x0, x1, x12, x13 => if x13 < x12 then (if 0 ≤ x13 then (if x13 < (x0.length : Int) then (if x13 < (x1.length : Int) then (if (rd x0 x13) = (rd x1 x13) then (slices_Equal_int_int.l0 k x0 x1 x12 (wrap64 (x13 + 1))) else (some false)) else (none)) else (none)) else (none)) else (some true)
def slices_Equal_int_int.f (k : Nat) (l0 : List Int) (l1 : List Int) : Option (Bool) := if (l0.length : Int) = (l1.length : Int) then (slices_Equal_int_int.l0 k l0 l1 (l0.length : Int) 0) else (some false)
theorem slices_Equal_int_int.mono_l : ∀ k, (∀ y0 y1 y2 y3, LeO (slices_Equal_int_int.l0 k y0 y1 y2 y3) (slices_Equal_int_int.l0 (k + 1) y0 y1 y2 y3))
 | 0 => fun _ _ _ _ r h => by simp [slices_Equal_int_int.l0] at h
 | k + 1 => by
  have ih0 := slices_Equal_int_int.mono_l k
  ·intro y0 y1 y2 y3
   unfold slices_Equal_int_int.l0
   repeat' first
   | (with_reducible exact ih0 _ _ _ _)
   | (with_reducible exact LeO.refl _)
   | (with_reducible exact LeO.none _)
   | (with_reducible refine LeO.ite ?_ ?_)
   | (with_reducible refine LeO.bind ?_ (fun _ => ?_))
   | exact ih0 _ _ _ _
   | exact LeO.none _
   | refine LeO.ite ?_ ?_
   | refine LeO.bind ?_ (fun _ => ?_)
theorem slices_Equal_int_int.mono : ∀ a0 a1 k, LeO (slices_Equal_int_int.f k a0 a1) (slices_Equal_int_int.f (k + 1) a0 a1) := by
 intro a0 a1 k
 have ih0 := slices_Equal_int_int.mono_l k
 unfold slices_Equal_int_int.f
 repeat' first
   | (with_reducible exact ih0 _ _ _ _)
   | (with_reducible exact LeO.refl _)
   | (with_reducible exact LeO.none _)
   | (with_reducible refine LeO.ite ?_ ?_)
   | (with_reducible refine LeO.bind ?_ (fun _ => ?_))
   | exact ih0 _ _ _ _
   | exact LeO.none _
   | refine LeO.ite ?_ ?_
   | refine LeO.bind ?_ (fun _ => ?_)
set_option maxHeartbeats 8000000 in
set_option maxRecDepth 100000 in
theorem slices_Equal_int_int.calls (k : Nat) (A0 : Option Addr) (c0 : Nat) (l0 : List Int) (A1 : Option Addr) (c1 : Nat) (l1 : List Int) (r : Bool) (w : World) (hr0 : Kd.C (Kd.int .i64) w A0 l0.length l0) (hc0 : l0.length ≤ c0) (hr1 : Kd.C (Kd.int .i64) w A1 l1.length l1) (hc1 : l1.length ≤ c1) (h : slices_Equal_int_int.f k l0 l1 = some r) :
  Calls Tryz.prog 58 #[.slice A0 l0.length c0, .slice A1 l1.length c1] w fun e w' => e = .returned (.bool r) ∧ Drawn0 w w' := by
 have HR0 := Aside0.mk hr0
 have HC0 := Aside0.mk hc0
 clear hr0 hc0
 have HR1 := Aside0.mk hr1
 have HC1 := Aside0.mk hc1
 clear hr1 hc1
 have H : (if (l0.length : Int) = (l1.length : Int) then (slices_Equal_int_int.l0 k l0 l1 (l0.length : Int) 0) else (some false)) = some r := h
 clear h
 by_cases c3 : (l0.length : Int) = (l1.length : Int)
 ·rw [if_pos c3] at H
  have c3b0 : ((l0.length : Int) == (l1.length : Int)) = true := beq_iff_eq.mpr c3
  have c3b1 : ((l0.length : Int) != (l1.length : Int)) = false := bne_eq_false_iff_eq.mpr c3
  have c3b2 : (l0.length == l1.length) = true := by first | simpa using c3 | (simp at c3 ⊢; omega)
  clear c3
  have H' := Aside0.mk H
  clear H
  go_enter Tryz.func58, Tryz.ntmps58
  go_wp2
  repeat (go_quiet (fail); try go_wp2)
  go_loopg [13] k (fun kq v13 w' => ∃ (x13_1 : Int), v13 = .int .i64 x13_1 ∧ Aside0 (slices_Equal_int_int.l0 kq l0 l1 (l0.length : Int) x13_1 = some r) ∧ Aside0 (kq ≤ k) ∧ Drawn0 w w')
  case atStart => exact ⟨(0), zq8_, H', ⟨Nat.le_refl _⟩, by repeat (first | exact Drawn0.refl _ | apply Drawn0.step)⟩
  case round =>
   clear H'
   try clear c1
   try clear p2
   try clear c3
   try clear c3b0
   try clear c3b1
   try clear c3b2
   obtain ⟨x13_1, rfl, HA, HK1, ⟨m1, rfl⟩⟩ := hrel
   cases gk with
   | zero => exact absurd HA.out (by simp [slices_Equal_int_int.l0])
   | succ k1 =>
    have H := HA.out
    clear HA
    simp only [slices_Equal_int_int.l0] at H
    by_cases c4 : x13_1 < (l0.length : Int)
    ·rw [if_pos c4] at H
     have c4b0 : decide (x13_1 < (l0.length : Int)) = true := decide_eq_true c4
     clear c4
     by_cases c5 : 0 ≤ x13_1
     ·rw [if_pos c5] at H
      have c5b0 : decide (0 ≤ x13_1) = true := decide_eq_true c5
      clear c5
      by_cases c6 : x13_1 < (l0.length : Int)
      ·rw [if_pos c6] at H
       have c6b0 : decide (x13_1 < (l0.length : Int)) = true := decide_eq_true c6
       clear c6
       by_cases c7 : x13_1 < (l1.length : Int)
       ·rw [if_pos c7] at H
        have c7b0 : decide (x13_1 < (l1.length : Int)) = true := decide_eq_true c7
        clear c7
        by_cases c8 : (rd l0 x13_1) = (rd l1 x13_1)
        ·rw [if_pos c8] at H
         have c8b0 : ((rd l0 x13_1) == (rd l1 x13_1)) = true := beq_iff_eq.mpr c8
         have c8b1 : ((rd l0 x13_1) != (rd l1 x13_1)) = false := bne_eq_false_iff_eq.mpr c8
         clear c8
         have H' := Aside0.mk H
         clear H
         have p319 : 0 ≤ (x13_1 : Int) := of_decide_eq_true zq2_
         have q319 : x13_1 < (l0.length : Int) := of_decide_eq_true zq2_
         obtain ⟨ad319, e319, hx319_0⟩ := Kd.at_int HR0.out x13_1 p319 q319
         cases e319
         replace p319 := eq_true p319
         replace q319 := eq_true q319
         have p320 : 0 ≤ (x13_1 : Int) := of_decide_eq_true zq2_
         have q320 : x13_1 < (l1.length : Int) := of_decide_eq_true zq2_
         obtain ⟨ad320, e320, hx320_0⟩ := Kd.at_int HR1.out x13_1 p320 q320
         cases e320
         replace p320 := eq_true p320
         replace q320 := eq_true q320
         go_wp2
         repeat (go_quiet (fail); try go_wp2)
         go_roundg k1
         case measure => have := HK1.out; omega
         case rel => exact ⟨(wrap64 (x13_1 + 1)), zq8_, H', ⟨by have := HK1.out; omega⟩, by repeat (first | exact Drawn0.refl _ | apply Drawn0.step)⟩
        ·rw [if_neg c8] at H
         have c8b0 : ((rd l0 x13_1) == (rd l1 x13_1)) = false := beq_eq_false_iff_ne.mpr c8
         have c8b1 : ((rd l0 x13_1) != (rd l1 x13_1)) = true := bne_iff_ne.mpr c8
         obtain rfl := Option.some.inj H
         have p319 : 0 ≤ (x13_1 : Int) := of_decide_eq_true zq2_
         have q319 : x13_1 < (l0.length : Int) := of_decide_eq_true zq2_
         obtain ⟨ad319, e319, hx319_0⟩ := Kd.at_int HR0.out x13_1 p319 q319
         cases e319
         replace p319 := eq_true p319
         replace q319 := eq_true q319
         have p320 : 0 ≤ (x13_1 : Int) := of_decide_eq_true zq2_
         have q320 : x13_1 < (l1.length : Int) := of_decide_eq_true zq2_
         obtain ⟨ad320, e320, hx320_0⟩ := Kd.at_int HR1.out x13_1 p320 q320
         cases e320
         replace p320 := eq_true p320
         replace q320 := eq_true q320
         go_wp2
         repeat (go_quiet (fail); try go_wp2)
         go_ret
         exact ⟨by first | rfl | (simp; done) | (simp [*]; done), by repeat (first | exact Drawn0.refl _ | apply Drawn0.step)⟩
       ·rw [if_neg c7] at H
        exact absurd H (by simp)
      ·rw [if_neg c6] at H
       exact absurd H (by simp)
     ·rw [if_neg c5] at H
      exact absurd H (by simp)
    ·rw [if_neg c4] at H
     have c4b0 : decide (x13_1 < (l0.length : Int)) = false := decide_eq_false c4
     clear c4
     obtain rfl := Option.some.inj H
     go_wp2
     repeat (go_quiet (fail); try go_wp2)
     go_ret
     exact ⟨by first | rfl | (simp; done) | (simp [*]; done), by repeat (first | exact Drawn0.refl _ | apply Drawn0.step)⟩
 ·rw [if_neg c3] at H
  have c3b0 : ((l0.length : Int) == (l1.length : Int)) = false := beq_eq_false_iff_ne.mpr c3
  have c3b1 : ((l0.length : Int) != (l1.length : Int)) = true := bne_iff_ne.mpr c3
  have c3b2 : (l0.length == l1.length) = false := by first | simpa using c3 | (simp at c3 ⊢; omega)
  obtain rfl := Option.some.inj H
  go_enter Tryz.func58, Tryz.ntmps58
  go_wp2
  repeat (go_quiet (fail); try go_wp2)
  go_ret
  exact ⟨by first | rfl | (simp; done) | (simp [*]; done), by repeat (first | exact Drawn0.refl _ | apply Drawn0.step)⟩

/-! ### change_Same: function 21 -/
def change_Same.f (k : Nat) (a0_0 : Int) (a0_1 : Int) (a0_2 : Int) (l0_3 : List Int) (a0_4 : Int) (a0_5 : Int) (a0_6 : Int) (a0_7 : Int) (a0_8 : Int) (a0_9 : Int) (a0_10 : Int) (a0_11 : ByteArray) (a0_12 : ByteArray) (a1_0 : Int) (a1_1 : Int) (a1_2 : Int) (l1_3 : List Int) (a1_4 : Int) (a1_5 : Int) (a1_6 : Int) (a1_7 : Int) (a1_8 : Int) (a1_9 : Int) (a1_10 : Int) (a1_11 : ByteArray) (a1_12 : ByteArray) : Option (Bool) := if (a0_0 == a1_0 && (a0_1 == a1_1)) = true then (if a0_2 = a1_2 then ((slices_Equal_int_int.f k l0_3 l1_3).bind fun t323 => (if t323 = true then (if a0_4 = a1_4 then (if (a0_5 == a1_5 && (a0_6 == a1_6)) = true then (if (a0_7 == a1_7 && (a0_8 == a1_8)) = true then (if (a0_9 == a1_9 && (a0_10 == a1_10)) = true then (if a0_11.toList = a1_11.toList then (some (a0_12.toList == a1_12.toList)) else (some false)) else (some false)) else (some false)) else (some false)) else (some false)) else (some false))) else (some false)) else (some false)
theorem change_Same.mono : ∀ a0 a1 a2 a3 a4 a5 a6 a7 a8 a9 a10 a11 a12 a13 a14 a15 a16 a17 a18 a19 a20 a21 a22 a23 a24 a25 k, LeO (change_Same.f k a0 a1 a2 a3 a4 a5 a6 a7 a8 a9 a10 a11 a12 a13 a14 a15 a16 a17 a18 a19 a20 a21 a22 a23 a24 a25) (change_Same.f (k + 1) a0 a1 a2 a3 a4 a5 a6 a7 a8 a9 a10 a11 a12 a13 a14 a15 a16 a17 a18 a19 a20 a21 a22 a23 a24 a25) := by
 intro a0 a1 a2 a3 a4 a5 a6 a7 a8 a9 a10 a11 a12 a13 a14 a15 a16 a17 a18 a19 a20 a21 a22 a23 a24 a25 k
 unfold change_Same.f
 repeat' first
   | (with_reducible exact slices_Equal_int_int.mono _ _ _)
   | (with_reducible exact LeO.refl _)
   | (with_reducible exact LeO.none _)
   | (with_reducible refine LeO.ite ?_ ?_)
   | (with_reducible refine LeO.bind ?_ (fun _ => ?_))
   | exact slices_Equal_int_int.mono _ _ _
   | exact LeO.none _
   | refine LeO.ite ?_ ?_
   | refine LeO.bind ?_ (fun _ => ?_)
set_option maxHeartbeats 8000000 in
set_option maxRecDepth 100000 in
theorem change_Same.calls (k : Nat) (a0_0 : Int) (a0_1 : Int) (a0_2 : Int) (A0_3 : Option Addr) (c0_3 : Nat) (l0_3 : List Int) (a0_4 : Int) (a0_5 : Int) (a0_6 : Int) (a0_7 : Int) (a0_8 : Int) (a0_9 : Int) (a0_10 : Int) (a0_11 : ByteArray) (a0_12 : ByteArray) (a1_0 : Int) (a1_1 : Int) (a1_2 : Int) (A1_3 : Option Addr) (c1_3 : Nat) (l1_3 : List Int) (a1_4 : Int) (a1_5 : Int) (a1_6 : Int) (a1_7 : Int) (a1_8 : Int) (a1_9 : Int) (a1_10 : Int) (a1_11 : ByteArray) (a1_12 : ByteArray) (r : Bool) (w : World) (hr0_3 : Kd.C (Kd.int .i64) w A0_3 l0_3.length l0_3) (hc0_3 : l0_3.length ≤ c0_3) (hr1_3 : Kd.C (Kd.int .i64) w A1_3 l1_3.length l1_3) (hc1_3 : l1_3.length ≤ c1_3) (h : change_Same.f k a0_0 a0_1 a0_2 l0_3 a0_4 a0_5 a0_6 a0_7 a0_8 a0_9 a0_10 a0_11 a0_12 a1_0 a1_1 a1_2 l1_3 a1_4 a1_5 a1_6 a1_7 a1_8 a1_9 a1_10 a1_11 a1_12 = some r) :
  Calls Tryz.prog 21 #[.agg #[.int .i64 a0_0, .int .i64 a0_1, .int .i64 a0_2, .slice A0_3 l0_3.length c0_3, .int .i64 a0_4, .int .i64 a0_5, .int .i64 a0_6, .int .i64 a0_7, .int .i64 a0_8, .int .i64 a0_9, .int .i64 a0_10, .string a0_11, .string a0_12], .agg #[.int .i64 a1_0, .int .i64 a1_1, .int .i64 a1_2, .slice A1_3 l1_3.length c1_3, .int .i64 a1_4, .int .i64 a1_5, .int .i64 a1_6, .int .i64 a1_7, .int .i64 a1_8, .int .i64 a1_9, .int .i64 a1_10, .string a1_11, .string a1_12]] w fun e w' => e = .returned (.bool r) ∧ Below w.heap.size w w' := by
 have hu26 := Tryz.underlying26
 have hu23 := Tryz.underlying23
 have HR0_3 := Aside0.mk hr0_3
 have HC0_3 := Aside0.mk hc0_3
 clear hr0_3 hc0_3
 have HR1_3 := Aside0.mk hr1_3
 have HC1_3 := Aside0.mk hc1_3
 clear hr1_3 hc1_3
 have HB := Aside0.mk (Below.refl w.heap.size w)
 have H : (if (a0_0 == a1_0 && (a0_1 == a1_1)) = true then (if a0_2 = a1_2 then ((slices_Equal_int_int.f k l0_3 l1_3).bind fun t323 => (if t323 = true then (if a0_4 = a1_4 then (if (a0_5 == a1_5 && (a0_6 == a1_6)) = true then (if (a0_7 == a1_7 && (a0_8 == a1_8)) = true then (if (a0_9 == a1_9 && (a0_10 == a1_10)) = true then (if a0_11.toList = a1_11.toList then (some (a0_12.toList == a1_12.toList)) else (some false)) else (some false)) else (some false)) else (some false)) else (some false)) else (some false))) else (some false)) else (some false)) = some r := h
 clear h
 by_cases c3 : (a0_0 == a1_0 && (a0_1 == a1_1)) = true
 focus
  rw [if_pos c3] at H
  have c3b0 : (a0_0 == a1_0 && (a0_1 == a1_1)) = true := c3
  (try (have c3b1 : decide (a0_0 = a1_0 && (a0_1 == a1_1)) = true := by simpa using c3))
  (try (have c3b2 : (a0_0 == a1_0 && (a0_1 == a1_1)) = true := by simpa using c3))
  clear c3
  by_cases c4 : a0_2 = a1_2
  focus
   rw [if_pos c4] at H
   have c4b0 : (a0_2 == a1_2) = true := beq_iff_eq.mpr c4
   have c4b1 : (a0_2 != a1_2) = false := bne_eq_false_iff_eq.mpr c4
   clear c4
   replace H := Option.bind_eq_some_iff.mp H
   obtain ⟨t323, A50, H⟩ := H
   have A5 := Aside0.mk A50
   clear A50
   by_cases c6 : t323 = true
   focus
    subst c6
    have H1 : (if a0_4 = a1_4 then (if (a0_5 == a1_5 && (a0_6 == a1_6)) = true then (if (a0_7 == a1_7 && (a0_8 == a1_8)) = true then (if (a0_9 == a1_9 && (a0_10 == a1_10)) = true then (if a0_11.toList = a1_11.toList then (some (a0_12.toList == a1_12.toList)) else (some false)) else (some false)) else (some false)) else (some false)) else (some false)) = some r := by rw [if_pos rfl] at H; exact H
    clear H
    have H := H1
    clear H1
    by_cases c7 : a0_4 = a1_4
    focus
     rw [if_pos c7] at H
     have c7b0 : (a0_4 == a1_4) = true := beq_iff_eq.mpr c7
     have c7b1 : (a0_4 != a1_4) = false := bne_eq_false_iff_eq.mpr c7
     clear c7
     by_cases c8 : (a0_5 == a1_5 && (a0_6 == a1_6)) = true
     focus
      rw [if_pos c8] at H
      have c8b0 : (a0_5 == a1_5 && (a0_6 == a1_6)) = true := c8
      (try (have c8b1 : decide (a0_5 = a1_5 && (a0_6 == a1_6)) = true := by simpa using c8))
      (try (have c8b2 : (a0_5 == a1_5 && (a0_6 == a1_6)) = true := by simpa using c8))
      clear c8
      by_cases c9 : (a0_7 == a1_7 && (a0_8 == a1_8)) = true
      focus
       rw [if_pos c9] at H
       have c9b0 : (a0_7 == a1_7 && (a0_8 == a1_8)) = true := c9
       (try (have c9b1 : decide (a0_7 = a1_7 && (a0_8 == a1_8)) = true := by simpa using c9))
       (try (have c9b2 : (a0_7 == a1_7 && (a0_8 == a1_8)) = true := by simpa using c9))
       clear c9
       by_cases c10 : (a0_9 == a1_9 && (a0_10 == a1_10)) = true
       focus
        rw [if_pos c10] at H
        have c10b0 : (a0_9 == a1_9 && (a0_10 == a1_10)) = true := c10
        (try (have c10b1 : decide (a0_9 = a1_9 && (a0_10 == a1_10)) = true := by simpa using c10))
        (try (have c10b2 : (a0_9 == a1_9 && (a0_10 == a1_10)) = true := by simpa using c10))
        clear c10
        by_cases c11 : a0_11.toList = a1_11.toList
        focus
         rw [if_pos c11] at H
         have c11b0 : (a0_11.toList == a1_11.toList) = true := beq_iff_eq.mpr c11
         have c11b1 : (a0_11.toList != a1_11.toList) = false := bne_eq_false_iff_eq.mpr c11
         clear c11
         obtain rfl := Option.some.inj H
         have zqm1_ := True.intro
        rotate_right
        focus
         rw [if_neg c11] at H
         have c11b0 : (a0_11.toList == a1_11.toList) = false := beq_eq_false_iff_ne.mpr c11
         have c11b1 : (a0_11.toList != a1_11.toList) = true := bne_iff_ne.mpr c11
         obtain rfl := Option.some.inj H
         have zqm1_ := True.intro
       rotate_right
       focus
        rw [if_neg c10] at H
        have c10b0 : (a0_9 == a1_9 && (a0_10 == a1_10)) = false := by simpa using c10
        (try (have c10b1 : decide (a0_9 = a1_9 && (a0_10 == a1_10)) = false := by simpa using c10))
        (try (have c10b2 : (a0_9 == a1_9 && (a0_10 == a1_10)) = false := by simpa using c10))
        (try (have c10b3 : ¬ (a0_9 = a1_9 && (a0_10 == a1_10)) := by simpa using c10))
        clear c10
        obtain rfl := Option.some.inj H
        have zqm1_ := True.intro
      rotate_right
      focus
       rw [if_neg c9] at H
       have c9b0 : (a0_7 == a1_7 && (a0_8 == a1_8)) = false := by simpa using c9
       (try (have c9b1 : decide (a0_7 = a1_7 && (a0_8 == a1_8)) = false := by simpa using c9))
       (try (have c9b2 : (a0_7 == a1_7 && (a0_8 == a1_8)) = false := by simpa using c9))
       (try (have c9b3 : ¬ (a0_7 = a1_7 && (a0_8 == a1_8)) := by simpa using c9))
       clear c9
       obtain rfl := Option.some.inj H
       have zqm1_ := True.intro
     rotate_right
     focus
      rw [if_neg c8] at H
      have c8b0 : (a0_5 == a1_5 && (a0_6 == a1_6)) = false := by simpa using c8
      (try (have c8b1 : decide (a0_5 = a1_5 && (a0_6 == a1_6)) = false := by simpa using c8))
      (try (have c8b2 : (a0_5 == a1_5 && (a0_6 == a1_6)) = false := by simpa using c8))
      (try (have c8b3 : ¬ (a0_5 = a1_5 && (a0_6 == a1_6)) := by simpa using c8))
      clear c8
      obtain rfl := Option.some.inj H
      have zqm1_ := True.intro
    rotate_right
    focus
     rw [if_neg c7] at H
     have c7b0 : (a0_4 == a1_4) = false := beq_eq_false_iff_ne.mpr c7
     have c7b1 : (a0_4 != a1_4) = true := bne_iff_ne.mpr c7
     obtain rfl := Option.some.inj H
     have zqm1_ := True.intro
   rotate_right
   focus
    replace c6 := Bool.eq_false_iff.mpr c6
    subst c6
    have H1 : (some false) = some r := by rw [if_neg (show ¬ (false = true) by decide)] at H; exact H
    clear H
    have H := H1
    clear H1
    obtain rfl := Option.some.inj H
    have zqm0_ := True.intro
  rotate_right
  focus
   rw [if_neg c4] at H
   have c4b0 : (a0_2 == a1_2) = false := beq_eq_false_iff_ne.mpr c4
   have c4b1 : (a0_2 != a1_2) = true := bne_iff_ne.mpr c4
   obtain rfl := Option.some.inj H
   have zqm0_ := True.intro
 rotate_right
 focus
  rw [if_neg c3] at H
  have c3b0 : (a0_0 == a1_0 && (a0_1 == a1_1)) = false := by simpa using c3
  (try (have c3b1 : decide (a0_0 = a1_0 && (a0_1 == a1_1)) = false := by simpa using c3))
  (try (have c3b2 : (a0_0 == a1_0 && (a0_1 == a1_1)) = false := by simpa using c3))
  (try (have c3b3 : ¬ (a0_0 = a1_0 && (a0_1 == a1_1)) := by simpa using c3))
  clear c3
  obtain rfl := Option.some.inj H
  have zqm0_ := True.intro
 all_goals (try (clear zqm0_; go_enter Tryz.func21, Tryz.ntmps21; go_wp2_with (first | ((with_reducible refine gate_dst (N := 2) rfl ?_); refine box_event ?hg (N := 2) ?hd (cs := #[.int .i64 a0_0, .int .i64 a0_1, .int .i64 a0_2, .slice A0_3 l0_3.length c0_3, .int .i64 a0_4, .int .i64 a0_5, .int .i64 a0_6, .int .i64 a0_7, .int .i64 a0_8, .int .i64 a0_9, .int .i64 a0_10, .string a0_11, .string a0_12]) (t := 26) ?hr ?_; (case hd => rfl); (case hg => rfl); (case hr => first | (go_simp; done) | (go_simp; rfl)); intro gbz1 hg wz1 hbox hb; have BKz1 := Aside0.mk (hbox); have GWz1 := Aside0.mk ((zq7_ : w.heap.size ≤ gbz1)); have GEz1 := Aside0.mk ((zq7_ : w.heap.size ≤ gbz1)); replace HB := Aside0.mk (below_step zq0_ hb); clear hb hbox hg) | ((with_reducible refine gate_dst (N := 3) rfl ?_); refine box_event ?hg (N := 3) ?hd (cs := #[.int .i64 a1_0, .int .i64 a1_1, .int .i64 a1_2, .slice A1_3 l1_3.length c1_3, .int .i64 a1_4, .int .i64 a1_5, .int .i64 a1_6, .int .i64 a1_7, .int .i64 a1_8, .int .i64 a1_9, .int .i64 a1_10, .string a1_11, .string a1_12]) (t := 26) ?hr ?_; (case hd => rfl); (case hg => rfl); (case hr => first | (go_simp; done) | (go_simp; rfl)); intro gbz2 hg wz2 hbox hb; have BKz2 := Aside0.mk (hbox); have GWz2 := Aside0.mk ((zq25_ : w.heap.size ≤ gbz2)); have GEz2 := Aside0.mk ((zq25_ : w.heap.size ≤ gbz2)); replace HB := Aside0.mk (below_step (zqB1_ GEz1.out) hb); have NBz1_z2 := Aside0.mk ((zq37_ : gbz1 ≠ gbz2)); have NBz2_z1 := Aside0.mk ((zq38_ : gbz2 ≠ gbz1)); replace BKz1 := Aside0.mk (blk_below (zqK_ BKz1.out) hb); clear hb hbox hg; have hnbz3 := NBz1_z2.out; have hncz3 := NBz2_z1.out; obtain ⟨hczz4_0, hfzz4_0, hczz4_1, hfzz4_1, hczz4_2, hfzz4_2, hczz4_3, hfzz4_3, hczz4_4, hfzz4_4, hczz4_5, hfzz4_5, hczz4_6, hfzz4_6, hczz4_7, hfzz4_7, hczz4_8, hfzz4_8, hczz4_9, hfzz4_9, hczz4_10, hfzz4_10, hczz4_11, hfzz4_11, hczz4_12, hfzz4_12⟩ := zqC13_ BKz1.out; obtain ⟨hczz5_0, hfzz5_0, hczz5_1, hfzz5_1, hczz5_2, hfzz5_2, hczz5_3, hfzz5_3, hczz5_4, hfzz5_4, hczz5_5, hfzz5_5, hczz5_6, hfzz5_6, hczz5_7, hfzz5_7, hczz5_8, hfzz5_8, hczz5_9, hfzz5_9, hczz5_10, hfzz5_10, hczz5_11, hfzz5_11, hczz5_12, hfzz5_12⟩ := zqC13_ BKz2.out) | (go_at_call 58; (with_reducible refine (slices_Equal_int_int.calls k _ _ l0_3 _ _ l1_3 false _ ?side1 ?side2 ?side3 ?side4 A5.out).mono ?_); (case side1 => repeat (first | exact (Kd.C_below HR0_3.out HB.out) | (with_reducible refine Kd.C_alloc ?_ _) | (with_reducible refine Kd.C_drewN ?_ _) | (with_reducible refine Kd.C_drew ?_))); (case side2 => exact HC0_3.out); (case side3 => repeat (first | exact (Kd.C_below HR1_3.out HB.out) | (with_reducible refine Kd.C_alloc ?_ _) | (with_reducible refine Kd.C_drewN ?_ _) | (with_reducible refine Kd.C_drew ?_))); (case side4 => exact HC1_3.out); rintro e w' ⟨rfl, ⟨nd, rfl⟩⟩))))
 all_goals (try (clear zqm1_; go_enter Tryz.func21, Tryz.ntmps21; go_wp2_with (first | ((with_reducible refine gate_dst (N := 2) rfl ?_); refine box_event ?hg (N := 2) ?hd (cs := #[.int .i64 a0_0, .int .i64 a0_1, .int .i64 a0_2, .slice A0_3 l0_3.length c0_3, .int .i64 a0_4, .int .i64 a0_5, .int .i64 a0_6, .int .i64 a0_7, .int .i64 a0_8, .int .i64 a0_9, .int .i64 a0_10, .string a0_11, .string a0_12]) (t := 26) ?hr ?_; (case hd => rfl); (case hg => rfl); (case hr => first | (go_simp; done) | (go_simp; rfl)); intro gbz1 hg wz1 hbox hb; have BKz1 := Aside0.mk (hbox); have GWz1 := Aside0.mk ((zq7_ : w.heap.size ≤ gbz1)); have GEz1 := Aside0.mk ((zq7_ : w.heap.size ≤ gbz1)); replace HB := Aside0.mk (below_step zq0_ hb); clear hb hbox hg) | ((with_reducible refine gate_dst (N := 3) rfl ?_); refine box_event ?hg (N := 3) ?hd (cs := #[.int .i64 a1_0, .int .i64 a1_1, .int .i64 a1_2, .slice A1_3 l1_3.length c1_3, .int .i64 a1_4, .int .i64 a1_5, .int .i64 a1_6, .int .i64 a1_7, .int .i64 a1_8, .int .i64 a1_9, .int .i64 a1_10, .string a1_11, .string a1_12]) (t := 26) ?hr ?_; (case hd => rfl); (case hg => rfl); (case hr => first | (go_simp; done) | (go_simp; rfl)); intro gbz2 hg wz2 hbox hb; have BKz2 := Aside0.mk (hbox); have GWz2 := Aside0.mk ((zq25_ : w.heap.size ≤ gbz2)); have GEz2 := Aside0.mk ((zq25_ : w.heap.size ≤ gbz2)); replace HB := Aside0.mk (below_step (zqB1_ GEz1.out) hb); have NBz1_z2 := Aside0.mk ((zq37_ : gbz1 ≠ gbz2)); have NBz2_z1 := Aside0.mk ((zq38_ : gbz2 ≠ gbz1)); replace BKz1 := Aside0.mk (blk_below (zqK_ BKz1.out) hb); clear hb hbox hg; have hnbz3 := NBz1_z2.out; have hncz3 := NBz2_z1.out; obtain ⟨hczz4_0, hfzz4_0, hczz4_1, hfzz4_1, hczz4_2, hfzz4_2, hczz4_3, hfzz4_3, hczz4_4, hfzz4_4, hczz4_5, hfzz4_5, hczz4_6, hfzz4_6, hczz4_7, hfzz4_7, hczz4_8, hfzz4_8, hczz4_9, hfzz4_9, hczz4_10, hfzz4_10, hczz4_11, hfzz4_11, hczz4_12, hfzz4_12⟩ := zqC13_ BKz1.out; obtain ⟨hczz5_0, hfzz5_0, hczz5_1, hfzz5_1, hczz5_2, hfzz5_2, hczz5_3, hfzz5_3, hczz5_4, hfzz5_4, hczz5_5, hfzz5_5, hczz5_6, hfzz5_6, hczz5_7, hfzz5_7, hczz5_8, hfzz5_8, hczz5_9, hfzz5_9, hczz5_10, hfzz5_10, hczz5_11, hfzz5_11, hczz5_12, hfzz5_12⟩ := zqC13_ BKz2.out) | (go_at_call 58; (with_reducible refine (slices_Equal_int_int.calls k _ _ l0_3 _ _ l1_3 true _ ?side1 ?side2 ?side3 ?side4 A5.out).mono ?_); (case side1 => repeat (first | exact (Kd.C_below HR0_3.out HB.out) | (with_reducible refine Kd.C_alloc ?_ _) | (with_reducible refine Kd.C_drewN ?_ _) | (with_reducible refine Kd.C_drew ?_))); (case side2 => exact HC0_3.out); (case side3 => repeat (first | exact (Kd.C_below HR1_3.out HB.out) | (with_reducible refine Kd.C_alloc ?_ _) | (with_reducible refine Kd.C_drewN ?_ _) | (with_reducible refine Kd.C_drew ?_))); (case side4 => exact HC1_3.out); rintro e w' ⟨rfl, ⟨nd, rfl⟩⟩))))
 ·go_ret
  exact ⟨by first | rfl | (simp [errW_none, errW_some] <;> rfl) | (simp [*, errW_none, errW_some] <;> rfl), by repeat (first | (with_reducible first | exact HB.out | apply below_alloc | apply pw_below_drewN | apply below_drew1 | refine below_set ?_ GEz1.out | refine below_set ?_ GEz2.out) | exact HB.out)⟩
 ·go_ret
  exact ⟨by first | rfl | (simp [errW_none, errW_some] <;> rfl) | (simp [*, errW_none, errW_some] <;> rfl), by repeat (first | (with_reducible first | exact HB.out | apply below_alloc | apply pw_below_drewN | apply below_drew1 | refine below_set ?_ GEz1.out | refine below_set ?_ GEz2.out) | exact HB.out)⟩
 ·go_ret
  exact ⟨by first | rfl | (simp [errW_none, errW_some] <;> rfl) | (simp [*, errW_none, errW_some] <;> rfl), by repeat (first | (with_reducible first | exact HB.out | apply below_alloc | apply pw_below_drewN | apply below_drew1 | refine below_set ?_ GEz1.out | refine below_set ?_ GEz2.out) | exact HB.out)⟩
 ·go_ret
  exact ⟨by first | rfl | (simp [errW_none, errW_some] <;> rfl) | (simp [*, errW_none, errW_some] <;> rfl), by repeat (first | (with_reducible first | exact HB.out | apply below_alloc | apply pw_below_drewN | apply below_drew1 | refine below_set ?_ GEz1.out | refine below_set ?_ GEz2.out) | exact HB.out)⟩
 ·go_ret
  exact ⟨by first | rfl | (simp [errW_none, errW_some] <;> rfl) | (simp [*, errW_none, errW_some] <;> rfl), by repeat (first | (with_reducible first | exact HB.out | apply below_alloc | apply pw_below_drewN | apply below_drew1 | refine below_set ?_ GEz1.out | refine below_set ?_ GEz2.out) | exact HB.out)⟩
 ·go_ret
  exact ⟨by first | rfl | (simp [errW_none, errW_some] <;> rfl) | (simp [*, errW_none, errW_some] <;> rfl), by repeat (first | (with_reducible first | exact HB.out | apply below_alloc | apply pw_below_drewN | apply below_drew1 | refine below_set ?_ GEz1.out | refine below_set ?_ GEz2.out) | exact HB.out)⟩
 ·go_ret
  exact ⟨by first | rfl | (simp [errW_none, errW_some] <;> rfl) | (simp [*, errW_none, errW_some] <;> rfl), by repeat (first | (with_reducible first | exact HB.out | apply below_alloc | apply pw_below_drewN | apply below_drew1 | refine below_set ?_ GEz1.out | refine below_set ?_ GEz2.out) | exact HB.out)⟩
 ·go_ret
  exact ⟨by first | rfl | (simp [errW_none, errW_some] <;> rfl) | (simp [*, errW_none, errW_some] <;> rfl), by repeat (first | (with_reducible first | exact HB.out | apply below_alloc | apply pw_below_drewN | apply below_drew1 | refine below_set ?_ GEz1.out | refine below_set ?_ GEz2.out) | exact HB.out)⟩
 ·go_ret
  exact ⟨by first | rfl | (simp [errW_none, errW_some] <;> rfl) | (simp [*, errW_none, errW_some] <;> rfl), by repeat (first | (with_reducible first | exact HB.out | apply below_alloc | apply pw_below_drewN | apply below_drew1 | refine below_set ?_ GEz1.out | refine below_set ?_ GEz2.out) | exact HB.out)⟩

/-! ### change_Less: function 22 -/
def change_Less.f (a0_0 : Int) (a0_1 : Int) (a0_2 : Int) (l0_3 : List Int) (a0_4 : Int) (a0_5 : Int) (a0_6 : Int) (a0_7 : Int) (a0_8 : Int) (a0_9 : Int) (a0_10 : Int) (a0_11 : ByteArray) (a0_12 : ByteArray) (a1_0 : Int) (a1_1 : Int) (a1_2 : Int) (l1_3 : List Int) (a1_4 : Int) (a1_5 : Int) (a1_6 : Int) (a1_7 : Int) (a1_8 : Int) (a1_9 : Int) (a1_10 : Int) (a1_11 : ByteArray) (a1_12 : ByteArray) : Option (Bool) := (ident_Less.f a0_0 a0_1 a1_0 a1_1).bind fun t326 => (some t326)
set_option maxHeartbeats 8000000 in
set_option maxRecDepth 100000 in
theorem change_Less.calls (a0_0 : Int) (a0_1 : Int) (a0_2 : Int) (A0_3 : Option Addr) (c0_3 : Nat) (l0_3 : List Int) (a0_4 : Int) (a0_5 : Int) (a0_6 : Int) (a0_7 : Int) (a0_8 : Int) (a0_9 : Int) (a0_10 : Int) (a0_11 : ByteArray) (a0_12 : ByteArray) (a1_0 : Int) (a1_1 : Int) (a1_2 : Int) (A1_3 : Option Addr) (c1_3 : Nat) (l1_3 : List Int) (a1_4 : Int) (a1_5 : Int) (a1_6 : Int) (a1_7 : Int) (a1_8 : Int) (a1_9 : Int) (a1_10 : Int) (a1_11 : ByteArray) (a1_12 : ByteArray) (r : Bool) (w : World) (hr0_3 : Kd.C (Kd.int .i64) w A0_3 l0_3.length l0_3) (hc0_3 : l0_3.length ≤ c0_3) (hr1_3 : Kd.C (Kd.int .i64) w A1_3 l1_3.length l1_3) (hc1_3 : l1_3.length ≤ c1_3) (h : change_Less.f a0_0 a0_1 a0_2 l0_3 a0_4 a0_5 a0_6 a0_7 a0_8 a0_9 a0_10 a0_11 a0_12 a1_0 a1_1 a1_2 l1_3 a1_4 a1_5 a1_6 a1_7 a1_8 a1_9 a1_10 a1_11 a1_12 = some r) :
  Calls Tryz.prog 22 #[.agg #[.int .i64 a0_0, .int .i64 a0_1, .int .i64 a0_2, .slice A0_3 l0_3.length c0_3, .int .i64 a0_4, .int .i64 a0_5, .int .i64 a0_6, .int .i64 a0_7, .int .i64 a0_8, .int .i64 a0_9, .int .i64 a0_10, .string a0_11, .string a0_12], .agg #[.int .i64 a1_0, .int .i64 a1_1, .int .i64 a1_2, .slice A1_3 l1_3.length c1_3, .int .i64 a1_4, .int .i64 a1_5, .int .i64 a1_6, .int .i64 a1_7, .int .i64 a1_8, .int .i64 a1_9, .int .i64 a1_10, .string a1_11, .string a1_12]] w fun e w' => e = .returned (.bool r) ∧ Below w.heap.size w w' := by
 have hu26 := Tryz.underlying26
 have hu23 := Tryz.underlying23
 have HR0_3 := Aside0.mk hr0_3
 have HC0_3 := Aside0.mk hc0_3
 clear hr0_3 hc0_3
 have HR1_3 := Aside0.mk hr1_3
 have HC1_3 := Aside0.mk hc1_3
 clear hr1_3 hc1_3
 have HB := Aside0.mk (Below.refl w.heap.size w)
 have H : ((ident_Less.f a0_0 a0_1 a1_0 a1_1).bind fun t326 => (some t326)) = some r := h
 clear h
 replace H := Option.bind_eq_some_iff.mp H
 obtain ⟨t326, A30, H⟩ := H
 replace H : (some t326) = some r := H
 have A3 := Aside0.mk A30
 clear A30
 obtain rfl := Option.some.inj H
 go_enter Tryz.func22, Tryz.ntmps22
 go_wp2_with (first | ((with_reducible refine gate_dst (N := 2) rfl ?_); refine box_event ?hg (N := 2) ?hd (cs := #[.int .i64 a0_0, .int .i64 a0_1, .int .i64 a0_2, .slice A0_3 l0_3.length c0_3, .int .i64 a0_4, .int .i64 a0_5, .int .i64 a0_6, .int .i64 a0_7, .int .i64 a0_8, .int .i64 a0_9, .int .i64 a0_10, .string a0_11, .string a0_12]) (t := 26) ?hr ?_; (case hd => rfl); (case hg => rfl); (case hr => first | (go_simp; done) | (go_simp; rfl)); intro gb324 hg w4 hbox hb; have BK324 := Aside0.mk (hbox); have GW324 := Aside0.mk ((zq7_ : w.heap.size ≤ gb324)); have GE324 := Aside0.mk ((zq7_ : w.heap.size ≤ gb324)); replace HB := Aside0.mk (below_step zq0_ hb); clear hb hbox hg) | ((with_reducible refine gate_dst (N := 3) rfl ?_); refine box_event ?hg (N := 3) ?hd (cs := #[.int .i64 a1_0, .int .i64 a1_1, .int .i64 a1_2, .slice A1_3 l1_3.length c1_3, .int .i64 a1_4, .int .i64 a1_5, .int .i64 a1_6, .int .i64 a1_7, .int .i64 a1_8, .int .i64 a1_9, .int .i64 a1_10, .string a1_11, .string a1_12]) (t := 26) ?hr ?_; (case hd => rfl); (case hg => rfl); (case hr => first | (go_simp; done) | (go_simp; rfl)); intro gb325 hg w5 hbox hb; have BK325 := Aside0.mk (hbox); have GW325 := Aside0.mk (((by rw [hg]; exact (below_size (zqB1_ GE324.out))) : w.heap.size ≤ gb325)); have GE325 := Aside0.mk (((by rw [hg]; exact (below_size (zqB1_ GE324.out))) : w.heap.size ≤ gb325)); replace HB := Aside0.mk (below_step (zqB1_ GE324.out) hb); have NB324_325 := Aside0.mk (((by rw [hg]; exact Nat.ne_of_lt (blk_lt (zqK_ BK324.out))) : gb324 ≠ gb325)); have NB325_324 := Aside0.mk (((by rw [hg]; exact Nat.ne_of_gt (blk_lt (zqK_ BK324.out))) : gb325 ≠ gb324)); replace BK324 := Aside0.mk (blk_below (zqK_ BK324.out) hb); clear hb hbox hg; have hnb6 := NB324_325.out; have hnc6 := NB325_324.out; obtain ⟨hcz7_0, hfz7_0, hcz7_1, hfz7_1, hcz7_2, hfz7_2, hcz7_3, hfz7_3, hcz7_4, hfz7_4, hcz7_5, hfz7_5, hcz7_6, hfz7_6, hcz7_7, hfz7_7, hcz7_8, hfz7_8, hcz7_9, hfz7_9, hcz7_10, hfz7_10, hcz7_11, hfz7_11, hcz7_12, hfz7_12⟩ := zqC13_ BK324.out; obtain ⟨hcz8_0, hfz8_0, hcz8_1, hfz8_1, hcz8_2, hfz8_2, hcz8_3, hfz8_3, hcz8_4, hfz8_4, hcz8_5, hfz8_5, hcz8_6, hfz8_6, hcz8_7, hfz8_7, hcz8_8, hfz8_8, hcz8_9, hfz8_9, hcz8_10, hfz8_10, hcz8_11, hfz8_11, hcz8_12, hfz8_12⟩ := zqC13_ BK325.out) | ((with_reducible refine gate_callee (f := 59) rfl ?_); refine zqG_ (some 9) rfl Tryz.func59 #[.agg #[.int .i64 a0_0, .int .i64 a0_1], .agg #[.int .i64 a1_0, .int .i64 a1_1]] rfl ?_; (with_reducible refine (ident_Less.calls a0_0 a0_1 a1_0 a1_1 t326 _ A3.out).mono ?_); rintro e w9 ⟨rfl, hb⟩; refine ⟨_, rfl, ?_⟩; replace BK324 := Aside0.mk (blk_below (zqK_ BK324.out) hb); replace BK325 := Aside0.mk (blk_below (zqK_ BK325.out) hb); replace HB := Aside0.mk (below_step (zqB2_ GE324.out GE325.out) hb); (try clear hb); (try clear hb2); (try clear hk); (try clear hi)))
 go_ret
 exact ⟨by first | rfl | (simp [errW_none, errW_some] <;> rfl) | (simp [*, errW_none, errW_some] <;> rfl), by repeat (first | (with_reducible first | exact HB.out | apply below_alloc | apply pw_below_drewN | apply below_drew1 | refine below_set ?_ GE324.out | refine below_set ?_ GE325.out) | exact HB.out)⟩

/-! ### topiaryref01_Same: function 23 -/
def topiaryref01_Same.l0 : Nat → List (S23) → List (S23) → Int → Option (Bool)
 | 0, _, _, _ => none
 | k + 1, x0, x1, x5 => if x5 < (x0.length : Int) then (if 0 ≤ x5 then (if x5 < (x1.length : Int) then (if (!(((rd_T23 x0 x5).f0) == ((rd_T23 x1 x5).f0)) || (!(((rd_T23 x0 x5).f1) == ((rd_T23 x1 x5).f1)))) = true then (some false) else (topiaryref01_Same.l0 k x0 x1 (wrap64 (x5 + 1)))) else (none)) else (none)) else (some true)
def topiaryref01_Same.f (k : Nat) (l0 : List (S23)) (l1 : List (S23)) : Option (Bool) := if (l0.length : Int) = (l1.length : Int) then (topiaryref01_Same.l0 k l0 l1 0) else (some false)
theorem topiaryref01_Same.mono_l : ∀ k, (∀ y0 y1 y2, LeO (topiaryref01_Same.l0 k y0 y1 y2) (topiaryref01_Same.l0 (k + 1) y0 y1 y2))
 | 0 => fun _ _ _ r h => by simp [topiaryref01_Same.l0] at h
 | k + 1 => by
  have ih0 := topiaryref01_Same.mono_l k
  ·intro y0 y1 y2
   unfold topiaryref01_Same.l0
   repeat' first
   | (with_reducible exact ih0 _ _ _)
   | (with_reducible exact LeO.refl _)
   | (with_reducible exact LeO.none _)
   | (with_reducible refine LeO.ite ?_ ?_)
   | (with_reducible refine LeO.bind ?_ (fun _ => ?_))
   | exact ih0 _ _ _
   | exact LeO.none _
   | refine LeO.ite ?_ ?_
   | refine LeO.bind ?_ (fun _ => ?_)
theorem topiaryref01_Same.mono : ∀ a0 a1 k, LeO (topiaryref01_Same.f k a0 a1) (topiaryref01_Same.f (k + 1) a0 a1) := by
 intro a0 a1 k
 have ih0 := topiaryref01_Same.mono_l k
 unfold topiaryref01_Same.f
 repeat' first
   | (with_reducible exact ih0 _ _ _)
   | (with_reducible exact LeO.refl _)
   | (with_reducible exact LeO.none _)
   | (with_reducible refine LeO.ite ?_ ?_)
   | (with_reducible refine LeO.bind ?_ (fun _ => ?_))
   | exact ih0 _ _ _
   | exact LeO.none _
   | refine LeO.ite ?_ ?_
   | refine LeO.bind ?_ (fun _ => ?_)
set_option maxHeartbeats 8000000 in
set_option maxRecDepth 100000 in
theorem topiaryref01_Same.calls (k : Nat) (A0 : Option Addr) (c0 : Nat) (l0 : List (S23)) (A1 : Option Addr) (c1 : Nat) (l1 : List (S23)) (r : Bool) (w : World) (hr0 : Kd.C k23 w A0 l0.length l0) (hc0 : l0.length ≤ c0) (hr1 : Kd.C k23 w A1 l1.length l1) (hc1 : l1.length ≤ c1) (h : topiaryref01_Same.f k l0 l1 = some r) :
  Calls Tryz.prog 23 #[.slice A0 l0.length c0, .slice A1 l1.length c1] w fun e w' => e = .returned (.bool r) ∧ Drawn0 w w' := by
 have hu23 := Tryz.underlying23
 have HR0 := Aside0.mk hr0
 have HC0 := Aside0.mk hc0
 clear hr0 hc0
 have HR1 := Aside0.mk hr1
 have HC1 := Aside0.mk hc1
 clear hr1 hc1
 have H : (if (l0.length : Int) = (l1.length : Int) then (topiaryref01_Same.l0 k l0 l1 0) else (some false)) = some r := h
 clear h
 by_cases c3 : (l0.length : Int) = (l1.length : Int)
 ·rw [if_pos c3] at H
  have c3b0 : ((l0.length : Int) == (l1.length : Int)) = true := beq_iff_eq.mpr c3
  have c3b1 : ((l0.length : Int) != (l1.length : Int)) = false := bne_eq_false_iff_eq.mpr c3
  have c3b2 : (l0.length == l1.length) = true := by first | simpa using c3 | (simp at c3 ⊢; omega)
  clear c3
  have H' := Aside0.mk H
  clear H
  go_enter Tryz.func23, Tryz.ntmps23
  go_wp2
  repeat (go_quiet (fail); try go_wp2)
  go_loopg [5] k (fun kq v5 w' => ∃ (x5_1 : Int), v5 = .int .i64 x5_1 ∧ Aside0 (topiaryref01_Same.l0 kq l0 l1 x5_1 = some r) ∧ Aside0 (kq ≤ k) ∧ Drawn0 w w')
  case atStart => exact ⟨(0), zq8_, H', ⟨Nat.le_refl _⟩, by repeat (first | exact Drawn0.refl _ | apply Drawn0.step)⟩
  case round =>
   clear H'
   try clear c1
   try clear c2
   try clear p2
   try clear c3
   try clear c3b0
   try clear c3b1
   try clear c3b2
   obtain ⟨x5_1, rfl, HA, HK1, ⟨m1, rfl⟩⟩ := hrel
   cases gk with
   | zero => exact absurd HA.out (by simp [topiaryref01_Same.l0])
   | succ k1 =>
    have H := HA.out
    clear HA
    simp only [topiaryref01_Same.l0] at H
    by_cases c4 : x5_1 < (l0.length : Int)
    ·rw [if_pos c4] at H
     have c4b0 : decide (x5_1 < (l0.length : Int)) = true := decide_eq_true c4
     clear c4
     by_cases c5 : 0 ≤ x5_1
     ·rw [if_pos c5] at H
      have c5b0 : decide (0 ≤ x5_1) = true := decide_eq_true c5
      clear c5
      by_cases c6 : x5_1 < (l1.length : Int)
      ·rw [if_pos c6] at H
       have c6b0 : decide (x5_1 < (l1.length : Int)) = true := decide_eq_true c6
       clear c6
       by_cases c7 : (!(((rd_T23 l0 x5_1).f0) == ((rd_T23 l1 x5_1).f0)) || (!(((rd_T23 l0 x5_1).f1) == ((rd_T23 l1 x5_1).f1)))) = true
       ·rw [if_pos c7] at H
        have c7b0 : (!(((rd_T23 l0 x5_1).f0) == ((rd_T23 l1 x5_1).f0)) || (!(((rd_T23 l0 x5_1).f1) == ((rd_T23 l1 x5_1).f1)))) = true := c7
        clear c7
        obtain rfl := Option.some.inj H
        have p327 : 0 ≤ (x5_1 : Int) := of_decide_eq_true zq2_
        have q327 : x5_1 < (l0.length : Int) := of_decide_eq_true zq2_
        obtain ⟨ad327, e327, hx327_0, hx327_1⟩ := at_T23 HR0.out x5_1 p327 q327
        cases e327
        replace p327 := eq_true p327
        replace q327 := eq_true q327
        have p328 : 0 ≤ (x5_1 : Int) := of_decide_eq_true zq2_
        have q328 : x5_1 < (l1.length : Int) := of_decide_eq_true zq2_
        obtain ⟨ad328, e328, hx328_0, hx328_1⟩ := at_T23 HR1.out x5_1 p328 q328
        cases e328
        replace p328 := eq_true p328
        replace q328 := eq_true q328
        go_wp2
        repeat (go_quiet (fail); try go_wp2)
        go_ret
        exact ⟨by first | rfl | (simp; done) | (simp [*]; done), by repeat (first | exact Drawn0.refl _ | apply Drawn0.step)⟩
       ·rw [if_neg c7] at H
        have c7b0 : (!(((rd_T23 l0 x5_1).f0) == ((rd_T23 l1 x5_1).f0)) || (!(((rd_T23 l0 x5_1).f1) == ((rd_T23 l1 x5_1).f1)))) = false := by simpa using c7
        clear c7
        have H' := Aside0.mk H
        clear H
        have p327 : 0 ≤ (x5_1 : Int) := of_decide_eq_true zq2_
        have q327 : x5_1 < (l0.length : Int) := of_decide_eq_true zq2_
        obtain ⟨ad327, e327, hx327_0, hx327_1⟩ := at_T23 HR0.out x5_1 p327 q327
        cases e327
        replace p327 := eq_true p327
        replace q327 := eq_true q327
        have p328 : 0 ≤ (x5_1 : Int) := of_decide_eq_true zq2_
        have q328 : x5_1 < (l1.length : Int) := of_decide_eq_true zq2_
        obtain ⟨ad328, e328, hx328_0, hx328_1⟩ := at_T23 HR1.out x5_1 p328 q328
        cases e328
        replace p328 := eq_true p328
        replace q328 := eq_true q328
        go_wp2
        repeat (go_quiet (fail); try go_wp2)
        go_roundg k1
        case measure => have := HK1.out; omega
        case rel => exact ⟨(wrap64 (x5_1 + 1)), zq8_, H', ⟨by have := HK1.out; omega⟩, by repeat (first | exact Drawn0.refl _ | apply Drawn0.step)⟩
      ·rw [if_neg c6] at H
       exact absurd H (by simp)
     ·rw [if_neg c5] at H
      exact absurd H (by simp)
    ·rw [if_neg c4] at H
     have c4b0 : decide (x5_1 < (l0.length : Int)) = false := decide_eq_false c4
     clear c4
     obtain rfl := Option.some.inj H
     go_wp2
     repeat (go_quiet (fail); try go_wp2)
     go_ret
     exact ⟨by first | rfl | (simp; done) | (simp [*]; done), by repeat (first | exact Drawn0.refl _ | apply Drawn0.step)⟩
 ·rw [if_neg c3] at H
  have c3b0 : ((l0.length : Int) == (l1.length : Int)) = false := beq_eq_false_iff_ne.mpr c3
  have c3b1 : ((l0.length : Int) != (l1.length : Int)) = true := bne_iff_ne.mpr c3
  have c3b2 : (l0.length == l1.length) = false := by first | simpa using c3 | (simp at c3 ⊢; omega)
  obtain rfl := Option.some.inj H
  go_enter Tryz.func23, Tryz.ntmps23
  go_wp2
  repeat (go_quiet (fail); try go_wp2)
  go_ret
  exact ⟨by first | rfl | (simp; done) | (simp [*]; done), by repeat (first | exact Drawn0.refl _ | apply Drawn0.step)⟩

/-! ### topiaryref01_Right: function 30 -/
def topiaryref01_Right.f (a0_0 : Int) (a0_1 : Int) : Option (Bool) := if a0_0 ≥ 1 then (if a0_0 ≤ 1099511627776 then (if a0_1 ≥ 0 then (some (decide (a0_1 < 64))) else (some false)) else (some false)) else (some false)
set_option maxHeartbeats 8000000 in
set_option maxRecDepth 100000 in
theorem topiaryref01_Right.calls (a0_0 : Int) (a0_1 : Int) (r : Bool) (w : World) (h : topiaryref01_Right.f a0_0 a0_1 = some r) :
  Calls Tryz.prog 30 #[.agg #[.int .i64 a0_0, .int .i64 a0_1]] w fun e w' => e = .returned (.bool r) ∧ Below w.heap.size w w' := by
 have hu23 := Tryz.underlying23
 have HB := Aside0.mk (Below.refl w.heap.size w)
 have H : (if a0_0 ≥ 1 then (if a0_0 ≤ 1099511627776 then (if a0_1 ≥ 0 then (some (decide (a0_1 < 64))) else (some false)) else (some false)) else (some false)) = some r := h
 clear h
 by_cases c2 : a0_0 ≥ 1
 focus
  rw [if_pos c2] at H
  have c2b0 : decide (1 ≤ a0_0) = true := decide_eq_true c2
  clear c2
  by_cases c3 : a0_0 ≤ 1099511627776
  focus
   rw [if_pos c3] at H
   have c3b0 : decide (a0_0 ≤ 1099511627776) = true := decide_eq_true c3
   clear c3
   by_cases c4 : a0_1 ≥ 0
   focus
    rw [if_pos c4] at H
    have c4b0 : decide (0 ≤ a0_1) = true := decide_eq_true c4
    clear c4
    obtain rfl := Option.some.inj H
   rotate_right
   focus
    rw [if_neg c4] at H
    have c4b0 : decide (0 ≤ a0_1) = false := decide_eq_false c4
    clear c4
    obtain rfl := Option.some.inj H
  rotate_right
  focus
   rw [if_neg c3] at H
   have c3b0 : decide (a0_0 ≤ 1099511627776) = false := decide_eq_false c3
   clear c3
   obtain rfl := Option.some.inj H
 rotate_right
 focus
  rw [if_neg c2] at H
  have c2b0 : decide (1 ≤ a0_0) = false := decide_eq_false c2
  clear c2
  obtain rfl := Option.some.inj H
 all_goals
  go_enter Tryz.func30, Tryz.ntmps30
  go_wp2_with ((with_reducible refine gate_dst (N := 1) rfl ?_); refine box_event ?hg (N := 1) ?hd (cs := #[.int .i64 a0_0, .int .i64 a0_1]) (t := 23) ?hr ?_; (case hd => rfl); (case hg => rfl); (case hr => first | (go_simp; done) | (go_simp; rfl)); intro gbz1 hg wz1 hbox hb; have BKz1 := Aside0.mk (hbox); have GWz1 := Aside0.mk ((zq7_ : w.heap.size ≤ gbz1)); have GEz1 := Aside0.mk ((zq7_ : w.heap.size ≤ gbz1)); replace HB := Aside0.mk (below_step zq0_ hb); clear hb hbox hg; obtain ⟨hczz2_0, hfzz2_0, hczz2_1, hfzz2_1⟩ := zqC2_ BKz1.out)
 ·go_ret
  exact ⟨by first | rfl | (simp [errW_none, errW_some] <;> rfl) | (simp [*, errW_none, errW_some] <;> rfl), by repeat (first | (with_reducible first | exact HB.out | apply below_alloc | apply pw_below_drewN | apply below_drew1 | refine below_set ?_ GEz1.out) | exact HB.out)⟩
 ·go_ret
  exact ⟨by first | rfl | (simp [errW_none, errW_some] <;> rfl) | (simp [*, errW_none, errW_some] <;> rfl), by repeat (first | (with_reducible first | exact HB.out | apply below_alloc | apply pw_below_drewN | apply below_drew1 | refine below_set ?_ GEz1.out) | exact HB.out)⟩
 ·go_ret
  exact ⟨by first | rfl | (simp [errW_none, errW_some] <;> rfl) | (simp [*, errW_none, errW_some] <;> rfl), by repeat (first | (with_reducible first | exact HB.out | apply below_alloc | apply pw_below_drewN | apply below_drew1 | refine below_set ?_ GEz1.out) | exact HB.out)⟩
 ·go_ret
  exact ⟨by first | rfl | (simp [errW_none, errW_some] <;> rfl) | (simp [*, errW_none, errW_some] <;> rfl), by repeat (first | (with_reducible first | exact HB.out | apply below_alloc | apply pw_below_drewN | apply below_drew1 | refine below_set ?_ GEz1.out) | exact HB.out)⟩

end Go.Proofs.YtgoolgmcbnikkaaGreatDoor.QChangeSames
