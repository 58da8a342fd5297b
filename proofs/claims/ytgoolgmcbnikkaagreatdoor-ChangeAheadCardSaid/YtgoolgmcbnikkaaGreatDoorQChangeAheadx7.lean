-- Own text of this seat, laid by the session's program ownprint.py (wip/tools). Lean checks it.
import Derived.Test.YtgoolgmcbnikkaaGreatDoorQChangeAheadx0
import Derived.Test.YtgoolgmcbnikkaaGreatDoorQChangeAheadx6
namespace Go.Proofs.YtgoolgmcbnikkaaGreatDoor.QChangeAhead
open Go.RowKit Go.Proofs.YtgoolgmcbnikkaaGreatDoorW.PrintWords Go.Proofs.YtgoolgmcbnikkaaGreatDoorW.PrintLast Go.Proofs.YtgoolgmcbnikkaaGreatDoorW.PrintMore
attribute [local go_sem] max2_int min2_int max_two min_two max_three min_three max_four min_four   -- for this text's walks alone
set_option linter.unusedVariables false
set_option linter.unusedSimpArgs false

/-! ### topiaryref01_Less: function 20 -/
def topiaryref01_Less.f (a0_0 : Int) (a0_1 : Int) (a1_0 : Int) (a1_1 : Int) : Option (Bool) := if a0_0 < a1_0 then (some true) else (if a0_0 = a1_0 then (some (decide (a0_1 < a1_1))) else (some false))
set_option maxHeartbeats 8000000 in
set_option maxRecDepth 100000 in
theorem topiaryref01_Less.calls (a0_0 : Int) (a0_1 : Int) (a1_0 : Int) (a1_1 : Int) (r : Bool) (w : World) (h : topiaryref01_Less.f a0_0 a0_1 a1_0 a1_1 = some r) :
  Calls Tryz.prog 20 #[.agg #[.int .i64 a0_0, .int .i64 a0_1], .agg #[.int .i64 a1_0, .int .i64 a1_1]] w fun e w' => e = .returned (.bool r) ∧ Below w.heap.size w w' := by
 have hu23 := Tryz.underlying23
 have HB := Aside0.mk (Below.refl w.heap.size w)
 have H : (if a0_0 < a1_0 then (some true) else (if a0_0 = a1_0 then (some (decide (a0_1 < a1_1))) else (some false))) = some r := h
 clear h
 by_cases c3 : a0_0 < a1_0
 focus
  rw [if_pos c3] at H
  have c3b0 : decide (a0_0 < a1_0) = true := decide_eq_true c3
  clear c3
  obtain rfl := Option.some.inj H
 rotate_right
 focus
  rw [if_neg c3] at H
  have c3b0 : decide (a0_0 < a1_0) = false := decide_eq_false c3
  clear c3
  by_cases c9 : a0_0 = a1_0
  focus
   rw [if_pos c9] at H
   have c9b0 : (a0_0 == a1_0) = true := beq_iff_eq.mpr c9
   have c9b1 : (a0_0 != a1_0) = false := bne_eq_false_iff_eq.mpr c9
   clear c9
   obtain rfl := Option.some.inj H
  rotate_right
  focus
   rw [if_neg c9] at H
   have c9b0 : (a0_0 == a1_0) = false := beq_eq_false_iff_ne.mpr c9
   have c9b1 : (a0_0 != a1_0) = true := bne_iff_ne.mpr c9
   obtain rfl := Option.some.inj H
 all_goals
  go_enter Tryz.func20, Tryz.ntmps20
  go_wp2_with (first | ((with_reducible refine gate_dst (N := 2) rfl ?_); refine box_event ?hg (N := 2) ?hd (cs := #[.int .i64 a0_0, .int .i64 a0_1]) (t := 23) ?hr ?_; (case hd => rfl); (case hg => rfl); (case hr => first | (go_simp; done) | (go_simp; rfl)); intro gbz1 hg wz1 hbox hb; have BKz1 := Aside0.mk (hbox); have GWz1 := Aside0.mk ((zq9_ : w.heap.size ≤ gbz1)); have GEz1 := Aside0.mk ((zq9_ : w.heap.size ≤ gbz1)); replace HB := Aside0.mk (below_step zq0_ hb); clear hb hbox hg) | ((with_reducible refine gate_dst (N := 3) rfl ?_); refine box_event ?hg (N := 3) ?hd (cs := #[.int .i64 a1_0, .int .i64 a1_1]) (t := 23) ?hr ?_; (case hd => rfl); (case hg => rfl); (case hr => first | (go_simp; done) | (go_simp; rfl)); intro gbz2 hg wz2 hbox hb; have BKz2 := Aside0.mk (hbox); have GWz2 := Aside0.mk ((zq31_ : w.heap.size ≤ gbz2)); have GEz2 := Aside0.mk ((zq31_ : w.heap.size ≤ gbz2)); replace HB := Aside0.mk (below_step (zqB1_ GEz1.out) hb); have NBz1_z2 := Aside0.mk (((by rw [hg]; exact Nat.ne_of_lt (blk_lt (zqK_ BKz1.out))) : gbz1 ≠ gbz2)); have NBz2_z1 := Aside0.mk (((by rw [hg]; exact Nat.ne_of_gt (blk_lt (zqK_ BKz1.out))) : gbz2 ≠ gbz1)); replace BKz1 := Aside0.mk (blk_below (zqK_ BKz1.out) hb); clear hb hbox hg; have hnbz3 := NBz1_z2.out; have hncz3 := NBz2_z1.out; obtain ⟨hczz4_0, hfzz4_0, hczz4_1, hfzz4_1⟩ := zqC2_ BKz1.out; obtain ⟨hczz5_0, hfzz5_0, hczz5_1, hfzz5_1⟩ := zqC2_ BKz2.out))
 ·go_ret
  exact ⟨by first | rfl | (simp [errW_none, errW_some] <;> rfl) | (simp [*, errW_none, errW_some] <;> rfl), by repeat (first | (with_reducible first | exact HB.out | apply below_alloc | apply pw_below_drewN | apply below_drew1 | refine below_set ?_ GEz1.out | refine below_set ?_ GEz2.out) | exact HB.out)⟩
 ·go_ret
  exact ⟨by first | rfl | (simp [errW_none, errW_some] <;> rfl) | (simp [*, errW_none, errW_some] <;> rfl), by repeat (first | (with_reducible first | exact HB.out | apply below_alloc | apply pw_below_drewN | apply below_drew1 | refine below_set ?_ GEz1.out | refine below_set ?_ GEz2.out) | exact HB.out)⟩
 ·go_ret
  exact ⟨by first | rfl | (simp [errW_none, errW_some] <;> rfl) | (simp [*, errW_none, errW_some] <;> rfl), by repeat (first | (with_reducible first | exact HB.out | apply below_alloc | apply pw_below_drewN | apply below_drew1 | refine below_set ?_ GEz1.out | refine below_set ?_ GEz2.out) | exact HB.out)⟩

/-! ### topiaryref05_ahead: function 65 -/
def topiaryref05_ahead.f (a0_0 : Int) (a0_1 : Int) (a1_0 : Int) (a1_1 : Int) : Option (Bool) := (topiaryref01_Right.f a0_0 a0_1).bind fun t152 => (if t152 = true then ((topiaryref01_Less.f a0_0 a0_1 a1_0 a1_1).bind fun t153 => (some t153)) else (some false))
set_option maxHeartbeats 8000000 in
set_option maxRecDepth 100000 in
theorem topiaryref05_ahead.calls (a0_0 : Int) (a0_1 : Int) (a1_0 : Int) (a1_1 : Int) (r : Bool) (w : World) (h : topiaryref05_ahead.f a0_0 a0_1 a1_0 a1_1 = some r) :
  Calls Tryz.prog 65 #[.agg #[.int .i64 a0_0, .int .i64 a0_1], .agg #[.int .i64 a1_0, .int .i64 a1_1]] w fun e w' => e = .returned (.bool r) ∧ Below w.heap.size w w' := by
 have hu23 := Tryz.underlying23
 have HB := Aside0.mk (Below.refl w.heap.size w)
 have H : ((topiaryref01_Right.f a0_0 a0_1).bind fun t152 => (if t152 = true then ((topiaryref01_Less.f a0_0 a0_1 a1_0 a1_1).bind fun t153 => (some t153)) else (some false))) = some r := h
 clear h
 replace H := Option.bind_eq_some_iff.mp H
 obtain ⟨t152, A30, H⟩ := H
 have A3 := Aside0.mk A30
 clear A30
 by_cases c4 : t152 = true
 ·subst c4
  have H1 : ((topiaryref01_Less.f a0_0 a0_1 a1_0 a1_1).bind fun t153 => (some t153)) = some r := by rw [if_pos rfl] at H; exact H
  clear H
  have H := H1
  clear H1
  replace H := Option.bind_eq_some_iff.mp H
  obtain ⟨t153, A50, H⟩ := H
  replace H : (some t153) = some r := H
  have A5 := Aside0.mk A50
  clear A50
  obtain rfl := Option.some.inj H
  go_enter Tryz.func65, Tryz.ntmps65
  go_wp2_with (first | ((with_reducible refine gate_dst (N := 2) rfl ?_); refine box_event ?hg (N := 2) ?hd (cs := #[.int .i64 a0_0, .int .i64 a0_1]) (t := 23) ?hr ?_; (case hd => rfl); (case hg => rfl); (case hr => first | (go_simp; done) | (go_simp; rfl)); intro gb150 hg w6 hbox hb; have BK150 := Aside0.mk (hbox); have GW150 := Aside0.mk ((zq9_ : w.heap.size ≤ gb150)); have GE150 := Aside0.mk ((zq9_ : w.heap.size ≤ gb150)); replace HB := Aside0.mk (below_step zq0_ hb); clear hb hbox hg) | ((with_reducible refine gate_dst (N := 3) rfl ?_); refine box_event ?hg (N := 3) ?hd (cs := #[.int .i64 a1_0, .int .i64 a1_1]) (t := 23) ?hr ?_; (case hd => rfl); (case hg => rfl); (case hr => first | (go_simp; done) | (go_simp; rfl)); intro gb151 hg w7 hbox hb; have BK151 := Aside0.mk (hbox); have GW151 := Aside0.mk (((by rw [hg]; exact (below_size (zqB1_ GE150.out))) : w.heap.size ≤ gb151)); have GE151 := Aside0.mk (((by rw [hg]; exact (below_size (zqB1_ GE150.out))) : w.heap.size ≤ gb151)); replace HB := Aside0.mk (below_step (zqB1_ GE150.out) hb); have NB150_151 := Aside0.mk (((by rw [hg]; exact Nat.ne_of_lt (blk_lt (zqK_ BK150.out))) : gb150 ≠ gb151)); have NB151_150 := Aside0.mk (((by rw [hg]; exact Nat.ne_of_gt (blk_lt (zqK_ BK150.out))) : gb151 ≠ gb150)); replace BK150 := Aside0.mk (blk_below (zqK_ BK150.out) hb); clear hb hbox hg; have hnb8 := NB150_151.out; have hnc8 := NB151_150.out; obtain ⟨hcz9_0, hfz9_0, hcz9_1, hfz9_1⟩ := zqC2_ BK150.out) | ((with_reducible refine gate_callee (f := 30) rfl ?_); refine zqG_ (some 6) rfl Tryz.func30 #[.agg #[.int .i64 a0_0, .int .i64 a0_1]] rfl ?_; (with_reducible refine (topiaryref01_Right.calls a0_0 a0_1 true _ A3.out).mono ?_); rintro e w10 ⟨rfl, hb⟩; refine ⟨_, rfl, ?_⟩; replace BK150 := Aside0.mk (blk_below (zqK_ BK150.out) hb); replace BK151 := Aside0.mk (blk_below (zqK_ BK151.out) hb); replace HB := Aside0.mk (below_step (zqB2_ GE150.out GE151.out) hb); (try clear hb); (try clear hb2); (try clear hk); (try clear hi); obtain ⟨hcz11_0, hfz11_0, hcz11_1, hfz11_1⟩ := zqC2_ BK150.out; obtain ⟨hcz12_0, hfz12_0, hcz12_1, hfz12_1⟩ := zqC2_ BK151.out) | (go_at_call 20; (with_reducible refine (topiaryref01_Less.calls a0_0 a0_1 a1_0 a1_1 t153 _ A5.out).mono ?_); rintro e w13 ⟨rfl, hb⟩; replace BK150 := Aside0.mk (blk_below (zqK_ BK150.out) hb); replace BK151 := Aside0.mk (blk_below (zqK_ BK151.out) hb); replace HB := Aside0.mk (below_step (zqB2_ GE150.out GE151.out) hb); (try clear hb); (try clear hb2); (try clear hk); (try clear hi)))
  go_ret
  exact ⟨by first | rfl | (simp [errW_none, errW_some] <;> rfl) | (simp [*, errW_none, errW_some] <;> rfl), by repeat (first | (with_reducible first | exact HB.out | apply below_alloc | apply pw_below_drewN | apply below_drew1 | refine below_set ?_ GE150.out | refine below_set ?_ GE151.out) | exact HB.out)⟩
 ·replace c4 := Bool.eq_false_iff.mpr c4
  subst c4
  have H1 : (some false) = some r := by rw [if_neg (show ¬ (false = true) by decide)] at H; exact H
  clear H
  have H := H1
  clear H1
  obtain rfl := Option.some.inj H
  go_enter Tryz.func65, Tryz.ntmps65
  go_wp2_with (first | ((with_reducible refine gate_dst (N := 2) rfl ?_); refine box_event ?hg (N := 2) ?hd (cs := #[.int .i64 a0_0, .int .i64 a0_1]) (t := 23) ?hr ?_; (case hd => rfl); (case hg => rfl); (case hr => first | (go_simp; done) | (go_simp; rfl)); intro gb150 hg w14 hbox hb; have BK150 := Aside0.mk (hbox); have GW150 := Aside0.mk ((zq9_ : w.heap.size ≤ gb150)); have GE150 := Aside0.mk ((zq9_ : w.heap.size ≤ gb150)); replace HB := Aside0.mk (below_step zq0_ hb); clear hb hbox hg) | ((with_reducible refine gate_dst (N := 3) rfl ?_); refine box_event ?hg (N := 3) ?hd (cs := #[.int .i64 a1_0, .int .i64 a1_1]) (t := 23) ?hr ?_; (case hd => rfl); (case hg => rfl); (case hr => first | (go_simp; done) | (go_simp; rfl)); intro gb151 hg w15 hbox hb; have BK151 := Aside0.mk (hbox); have GW151 := Aside0.mk (((by rw [hg]; exact (below_size (zqB1_ GE150.out))) : w.heap.size ≤ gb151)); have GE151 := Aside0.mk (((by rw [hg]; exact (below_size (zqB1_ GE150.out))) : w.heap.size ≤ gb151)); replace HB := Aside0.mk (below_step (zqB1_ GE150.out) hb); have NB150_151 := Aside0.mk (((by rw [hg]; exact Nat.ne_of_lt (blk_lt (zqK_ BK150.out))) : gb150 ≠ gb151)); have NB151_150 := Aside0.mk (((by rw [hg]; exact Nat.ne_of_gt (blk_lt (zqK_ BK150.out))) : gb151 ≠ gb150)); replace BK150 := Aside0.mk (blk_below (zqK_ BK150.out) hb); clear hb hbox hg; have hnb16 := NB150_151.out; have hnc16 := NB151_150.out; obtain ⟨hcz17_0, hfz17_0, hcz17_1, hfz17_1⟩ := zqC2_ BK150.out) | ((with_reducible refine gate_callee (f := 30) rfl ?_); refine zqG_ (some 6) rfl Tryz.func30 #[.agg #[.int .i64 a0_0, .int .i64 a0_1]] rfl ?_; (with_reducible refine (topiaryref01_Right.calls a0_0 a0_1 false _ A3.out).mono ?_); rintro e w18 ⟨rfl, hb⟩; refine ⟨_, rfl, ?_⟩; replace BK150 := Aside0.mk (blk_below (zqK_ BK150.out) hb); replace BK151 := Aside0.mk (blk_below (zqK_ BK151.out) hb); replace HB := Aside0.mk (below_step (zqB2_ GE150.out GE151.out) hb); (try clear hb); (try clear hb2); (try clear hk); (try clear hi)))
  go_ret
  exact ⟨by first | rfl | (simp [errW_none, errW_some] <;> rfl) | (simp [*, errW_none, errW_some] <;> rfl), by repeat (first | (with_reducible first | exact HB.out | apply below_alloc | apply pw_below_drewN | apply below_drew1 | refine below_set ?_ GE150.out | refine below_set ?_ GE151.out) | exact HB.out)⟩

/-! ### topiaryref01_Node: function 66 -/
def topiaryref01_Node.f (a0_0 : Int) (a0_1 : Int) : Option (Bool) := (topiaryref01_Right.f a0_0 a0_1).bind fun t155 => (if t155 = true then (some true) else (if a0_0 = 0 then (if a0_1 = 0 then (some true) else (some (a0_1 == 1))) else (some false)))
set_option maxHeartbeats 8000000 in
set_option maxRecDepth 100000 in
theorem topiaryref01_Node.calls (a0_0 : Int) (a0_1 : Int) (r : Bool) (w : World) (h : topiaryref01_Node.f a0_0 a0_1 = some r) :
  Calls Tryz.prog 66 #[.agg #[.int .i64 a0_0, .int .i64 a0_1]] w fun e w' => e = .returned (.bool r) ∧ Below w.heap.size w w' := by
 have hu23 := Tryz.underlying23
 have HB := Aside0.mk (Below.refl w.heap.size w)
 have H : ((topiaryref01_Right.f a0_0 a0_1).bind fun t155 => (if t155 = true then (some true) else (if a0_0 = 0 then (if a0_1 = 0 then (some true) else (some (a0_1 == 1))) else (some false)))) = some r := h
 clear h
 replace H := Option.bind_eq_some_iff.mp H
 obtain ⟨t155, A20, H⟩ := H
 have A2 := Aside0.mk A20
 clear A20
 by_cases c3 : t155 = true
 focus
  subst c3
  have H1 : (some true) = some r := by rw [if_pos rfl] at H; exact H
  clear H
  have H := H1
  clear H1
  obtain rfl := Option.some.inj H
 rotate_right
 focus
  replace c3 := Bool.eq_false_iff.mpr c3
  subst c3
  have H1 : (if a0_0 = 0 then (if a0_1 = 0 then (some true) else (some (a0_1 == 1))) else (some false)) = some r := by rw [if_neg (show ¬ (false = true) by decide)] at H; exact H
  clear H
  have H := H1
  clear H1
  by_cases c7 : a0_0 = 0
  focus
   rw [if_pos c7] at H
   have c7b0 : (a0_0 == 0) = true := beq_iff_eq.mpr c7
   have c7b1 : (a0_0 != 0) = false := bne_eq_false_iff_eq.mpr c7
   clear c7
   by_cases c8 : a0_1 = 0
   focus
    rw [if_pos c8] at H
    have c8b0 : (a0_1 == 0) = true := beq_iff_eq.mpr c8
    have c8b1 : (a0_1 != 0) = false := bne_eq_false_iff_eq.mpr c8
    clear c8
    obtain rfl := Option.some.inj H
    have zqm0_ := True.intro
   rotate_right
   focus
    rw [if_neg c8] at H
    have c8b0 : (a0_1 == 0) = false := beq_eq_false_iff_ne.mpr c8
    have c8b1 : (a0_1 != 0) = true := bne_iff_ne.mpr c8
    obtain rfl := Option.some.inj H
    have zqm0_ := True.intro
  rotate_right
  focus
   rw [if_neg c7] at H
   have c7b0 : (a0_0 == 0) = false := beq_eq_false_iff_ne.mpr c7
   have c7b1 : (a0_0 != 0) = true := bne_iff_ne.mpr c7
   obtain rfl := Option.some.inj H
   have zqm0_ := True.intro
 all_goals (try (clear zqm0_; go_enter Tryz.func66, Tryz.ntmps66; go_wp2_with (first | ((with_reducible refine gate_dst (N := 1) rfl ?_); refine box_event ?hg (N := 1) ?hd (cs := #[.int .i64 a0_0, .int .i64 a0_1]) (t := 23) ?hr ?_; (case hd => rfl); (case hg => rfl); (case hr => first | (go_simp; done) | (go_simp; rfl)); intro gbz1 hg wz1 hbox hb; have BKz1 := Aside0.mk (hbox); have GWz1 := Aside0.mk ((zq9_ : w.heap.size ≤ gbz1)); have GEz1 := Aside0.mk ((zq9_ : w.heap.size ≤ gbz1)); replace HB := Aside0.mk (below_step zq0_ hb); clear hb hbox hg; obtain ⟨hczz2_0, hfzz2_0, hczz2_1, hfzz2_1⟩ := zqC2_ BKz1.out) | ((with_reducible refine gate_callee (f := 30) rfl ?_); refine zqG_ (some 4) rfl Tryz.func30 #[.agg #[.int .i64 a0_0, .int .i64 a0_1]] rfl ?_; (with_reducible refine (topiaryref01_Right.calls a0_0 a0_1 false _ A2.out).mono ?_); rintro e wz2 ⟨rfl, hb⟩; refine ⟨_, rfl, ?_⟩; replace BKz1 := Aside0.mk (blk_below (zqK_ BKz1.out) hb); replace HB := Aside0.mk (below_step (zqB1_ GEz1.out) hb); (try clear hb); (try clear hb2); (try clear hk); (try clear hi); obtain ⟨hczz3_0, hfzz3_0, hczz3_1, hfzz3_1⟩ := zqC2_ BKz1.out))))
 ·go_ret
  exact ⟨by first | rfl | (simp [errW_none, errW_some] <;> rfl) | (simp [*, errW_none, errW_some] <;> rfl), by repeat (first | (with_reducible first | exact HB.out | apply below_alloc | apply pw_below_drewN | apply below_drew1 | refine below_set ?_ GEz1.out) | exact HB.out)⟩
 ·go_ret
  exact ⟨by first | rfl | (simp [errW_none, errW_some] <;> rfl) | (simp [*, errW_none, errW_some] <;> rfl), by repeat (first | (with_reducible first | exact HB.out | apply below_alloc | apply pw_below_drewN | apply below_drew1 | refine below_set ?_ GEz1.out) | exact HB.out)⟩
 ·go_ret
  exact ⟨by first | rfl | (simp [errW_none, errW_some] <;> rfl) | (simp [*, errW_none, errW_some] <;> rfl), by repeat (first | (with_reducible first | exact HB.out | apply below_alloc | apply pw_below_drewN | apply below_drew1 | refine below_set ?_ GEz1.out) | exact HB.out)⟩
 ·go_enter Tryz.func66, Tryz.ntmps66
  go_wp2_with (first | ((with_reducible refine gate_dst (N := 1) rfl ?_); refine box_event ?hg (N := 1) ?hd (cs := #[.int .i64 a0_0, .int .i64 a0_1]) (t := 23) ?hr ?_; (case hd => rfl); (case hg => rfl); (case hr => first | (go_simp; done) | (go_simp; rfl)); intro gbz1 hg wz1 hbox hb; have BKz1 := Aside0.mk (hbox); have GWz1 := Aside0.mk ((zq9_ : w.heap.size ≤ gbz1)); have GEz1 := Aside0.mk ((zq9_ : w.heap.size ≤ gbz1)); replace HB := Aside0.mk (below_step zq0_ hb); clear hb hbox hg; obtain ⟨hczz2_0, hfzz2_0, hczz2_1, hfzz2_1⟩ := zqC2_ BKz1.out) | ((with_reducible refine gate_callee (f := 30) rfl ?_); refine zqG_ (some 4) rfl Tryz.func30 #[.agg #[.int .i64 a0_0, .int .i64 a0_1]] rfl ?_; (with_reducible refine (topiaryref01_Right.calls a0_0 a0_1 true _ A2.out).mono ?_); rintro e wz2 ⟨rfl, hb⟩; refine ⟨_, rfl, ?_⟩; replace BKz1 := Aside0.mk (blk_below (zqK_ BKz1.out) hb); replace HB := Aside0.mk (below_step (zqB1_ GEz1.out) hb); (try clear hb); (try clear hb2); (try clear hk); (try clear hi)))
  go_ret
  exact ⟨by first | rfl | (simp [errW_none, errW_some] <;> rfl) | (simp [*, errW_none, errW_some] <;> rfl), by repeat (first | (with_reducible first | exact HB.out | apply below_alloc | apply pw_below_drewN | apply below_drew1 | refine below_set ?_ GEz1.out) | exact HB.out)⟩

end Go.Proofs.YtgoolgmcbnikkaaGreatDoor.QChangeAhead
