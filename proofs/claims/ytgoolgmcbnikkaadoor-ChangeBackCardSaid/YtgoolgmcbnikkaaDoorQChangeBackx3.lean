-- Own text of this seat, laid by the session's program ownprint.py (wip/tools). Lean checks it.
import Derived.Test.YtgoolgmcbnikkaaDoorQChangeBackx0
import Derived.Test.YtgoolgmcbnikkaaDoorQChangeBackx1
import Derived.Test.YtgoolgmcbnikkaaDoorQChangeBackx2
namespace Go.Proofs.YtgoolgmcbnikkaaDoor.QChangeBack
open Go.RowKit Go.Proofs.YtgoolgmcbnikkaaDoorW.PrintWords Go.Proofs.YtgoolgmcbnikkaaDoorW.PrintLast Go.Proofs.YtgoolgmcbnikkaaDoorW.PrintMore
attribute [local go_sem] max2_int min2_int max_two min_two max_three min_three max_four min_four   -- for this text's walks alone
set_option linter.unusedVariables false
set_option linter.unusedSimpArgs false

attribute [local go_sem high] eqA28
/-! ### ident_Less: function 52 -/
def ident_Less.f (a0_0 : Int) (a0_1 : Int) (a1_0 : Int) (a1_1 : Int) : Option (Bool) := (ident_Compare.f a0_0 a0_1 a1_0 a1_1).bind fun t130 => (some (decide (t130 < 0)))
set_option maxHeartbeats 8000000 in
set_option maxRecDepth 100000 in
theorem ident_Less.calls (a0_0 : Int) (a0_1 : Int) (a1_0 : Int) (a1_1 : Int) (r : Bool) (w : World) (h : ident_Less.f a0_0 a0_1 a1_0 a1_1 = some r) :
  Calls Tryd.prog 52 #[.agg #[.int .i64 a0_0, .int .i64 a0_1], .agg #[.int .i64 a1_0, .int .i64 a1_1]] w fun e w' => e = .returned (.bool r) ∧ Below w.heap.size w w' := by
 have hu28 := Tryd.underlying28
 have HB := Aside0.mk (Below.refl w.heap.size w)
 have H : ((ident_Compare.f a0_0 a0_1 a1_0 a1_1).bind fun t130 => (some (decide (t130 < 0)))) = some r := h
 clear h
 replace H := Option.bind_eq_some_iff.mp H
 obtain ⟨t130, A30, H⟩ := H
 replace H : (some (decide (t130 < 0))) = some r := H
 have A3 := Aside0.mk A30
 clear A30
 obtain rfl := Option.some.inj H
 go_enter Tryd.func52, Tryd.ntmps52
 go_wp2_with (first | ((with_reducible refine gate_dst (N := 2) rfl ?_); refine box_event ?hg (N := 2) ?hd (cs := #[.int .i64 a0_0, .int .i64 a0_1]) (t := 28) ?hr ?_; (case hd => rfl); (case hg => rfl); (case hr => first | (go_simp; done) | (go_simp; rfl)); intro gb128 hg w4 hbox hb; have n0_ := Aside0.mk (below_step zq0_ hb); have n1_ := Aside0.mk (hbox); have n2_ := Aside0.mk ((zq9_ : w.heap.size ≤ gb128)); have n3_ := Aside0.mk ((zq9_ : w.heap.size ≤ gb128)); clear HB; have HB := n0_; have BK128 := n1_; have GW128 := n2_; have GE128 := n3_; clear n0_ n1_ n2_ n3_; clear hb hbox hg) | ((with_reducible refine gate_dst (N := 3) rfl ?_); refine box_event ?hg (N := 3) ?hd (cs := #[.int .i64 a1_0, .int .i64 a1_1]) (t := 28) ?hr ?_; (case hd => rfl); (case hg => rfl); (case hr => first | (go_simp; done) | (go_simp; rfl)); intro gb129 hg w5 hbox hb; have n0_ := Aside0.mk (blk_below (zqK_ BK128.out) hb); have n1_ := Aside0.mk (below_step (zqB1_ GE128.out) hb); have n2_ := Aside0.mk (hbox); have n3_ := Aside0.mk (((by rw [hg]; exact (below_size (zqB1_ GE128.out))) : w.heap.size ≤ gb129)); have n4_ := Aside0.mk (((by rw [hg]; exact (below_size (zqB1_ GE128.out))) : w.heap.size ≤ gb129)); have n5_ := Aside0.mk (((by rw [hg]; exact Nat.ne_of_lt (blk_lt (zqK_ BK128.out))) : gb128 ≠ gb129)); have n6_ := Aside0.mk (((by rw [hg]; exact Nat.ne_of_gt (blk_lt (zqK_ BK128.out))) : gb129 ≠ gb128)); clear BK128; clear HB; have BK128 := n0_; have HB := n1_; have BK129 := n2_; have GW129 := n3_; have GE129 := n4_; have NB128_129 := n5_; have NB129_128 := n6_; clear n0_ n1_ n2_ n3_ n4_ n5_ n6_; clear hb hbox hg; have hnb6 := NB128_129.out; have hnc6 := NB129_128.out; obtain ⟨hcz7_0, hfz7_0, hcz7_1, hfz7_1⟩ := zqC2_ BK128.out; obtain ⟨hcz8_0, hfz8_0, hcz8_1, hfz8_1⟩ := zqC2_ BK129.out) | ((with_reducible refine gate_callee (f := 64) rfl ?_); refine zqG_ (some 7) rfl Tryd.func64 #[.agg #[.int .i64 a0_0, .int .i64 a0_1], .agg #[.int .i64 a1_0, .int .i64 a1_1]] rfl ?_; (with_reducible refine (ident_Compare.calls a0_0 a0_1 a1_0 a1_1 t130 _ A3.out).mono ?_); rintro e w9 ⟨rfl, hb⟩; refine ⟨_, rfl, ?_⟩; have n0_ := Aside0.mk (blk_below (zqK_ BK128.out) hb); have n1_ := Aside0.mk (blk_below (zqK_ BK129.out) hb); have n2_ := Aside0.mk (below_step (zqB2_ GE128.out GE129.out) hb); clear BK128; clear BK129; clear HB; have BK128 := n0_; have BK129 := n1_; have HB := n2_; clear n0_ n1_ n2_; (try clear hb); (try clear hb2); (try clear hk); (try clear hi)))
 go_ret
 exact ⟨by first | rfl | (simp [errW_none, errW_some] <;> rfl) | (simp [*, errW_none, errW_some] <;> rfl), by repeat (first | (with_reducible first | exact HB.out | apply below_alloc | apply pw_below_drewN | apply below_drew1 | refine below_set ?_ GE128.out | refine below_set ?_ GE129.out) | exact HB.out)⟩

/-! ### change_node: function 35 -/
def change_node.f (a0_0 : Int) (a0_1 : Int) (a0_2 : Int) (l0_3 : List Int) (a0_4 : Int) (a0_5 : Int) (a0_6 : Int) (a0_7 : Int) (a0_8 : Int) (a0_9 : Int) (a0_10 : Int) (a0_11 : ByteArray) (a0_12 : ByteArray) : Option (Bool) := if a0_4 = 1 then (some (a0_5 == a0_0 && (a0_6 == a0_1))) else (if a0_4 = 2 then ((ident_Right.f a0_5 a0_6).bind fun t132 => (if t132 = true then ((ident_Less.f a0_5 a0_6 a0_0 a0_1).bind fun t133 => (some t133)) else (some false))) else (if (a0_5 == 0 && (a0_6 == 0)) = true then (some true) else ((ident_Right.f a0_5 a0_6).bind fun t134 => (if t134 = true then ((ident_Less.f a0_5 a0_6 a0_0 a0_1).bind fun t135 => (some t135)) else (some false)))))
set_option maxHeartbeats 8000000 in
set_option maxRecDepth 100000 in
theorem change_node.calls (a0_0 : Int) (a0_1 : Int) (a0_2 : Int) (A0_3 : Option Addr) (c0_3 : Nat) (l0_3 : List Int) (a0_4 : Int) (a0_5 : Int) (a0_6 : Int) (a0_7 : Int) (a0_8 : Int) (a0_9 : Int) (a0_10 : Int) (a0_11 : ByteArray) (a0_12 : ByteArray) (r : Bool) (w : World) (hr0_3 : Kd.C (Kd.int .i64) w A0_3 l0_3.length l0_3) (hc0_3 : l0_3.length ≤ c0_3) (h : change_node.f a0_0 a0_1 a0_2 l0_3 a0_4 a0_5 a0_6 a0_7 a0_8 a0_9 a0_10 a0_11 a0_12 = some r) :
  Calls Tryd.prog 35 #[.agg #[.int .i64 a0_0, .int .i64 a0_1, .int .i64 a0_2, .slice A0_3 l0_3.length c0_3, .int .i64 a0_4, .int .i64 a0_5, .int .i64 a0_6, .int .i64 a0_7, .int .i64 a0_8, .int .i64 a0_9, .int .i64 a0_10, .string a0_11, .string a0_12]] w fun e w' => e = .returned (.bool r) ∧ Below w.heap.size w w' := by
 have hu31 := Tryd.underlying31
 have hu28 := Tryd.underlying28
 have HR0_3 := Aside0.mk hr0_3
 have HC0_3 := Aside0.mk hc0_3
 clear hr0_3 hc0_3
 have HB := Aside0.mk (Below.refl w.heap.size w)
 have H : (if a0_4 = 1 then (some (a0_5 == a0_0 && (a0_6 == a0_1))) else (if a0_4 = 2 then ((ident_Right.f a0_5 a0_6).bind fun t132 => (if t132 = true then ((ident_Less.f a0_5 a0_6 a0_0 a0_1).bind fun t133 => (some t133)) else (some false))) else (if (a0_5 == 0 && (a0_6 == 0)) = true then (some true) else ((ident_Right.f a0_5 a0_6).bind fun t134 => (if t134 = true then ((ident_Less.f a0_5 a0_6 a0_0 a0_1).bind fun t135 => (some t135)) else (some false)))))) = some r := h
 clear h
 by_cases c2 : a0_4 = 1
 focus
  rw [if_pos c2] at H
  have c2b0 : (a0_4 == 1) = true := beq_iff_eq.mpr c2
  have c2b1 : (a0_4 != 1) = false := bne_eq_false_iff_eq.mpr c2
  clear c2
  obtain rfl := Option.some.inj H
  have zqm0_ := True.intro
 rotate_right
 focus
  rw [if_neg c2] at H
  have c2b0 : (a0_4 == 1) = false := beq_eq_false_iff_ne.mpr c2
  have c2b1 : (a0_4 != 1) = true := bne_iff_ne.mpr c2
  by_cases c5 : a0_4 = 2
  focus
   rw [if_pos c5] at H
   have c5b0 : (a0_4 == 2) = true := beq_iff_eq.mpr c5
   have c5b1 : (a0_4 != 2) = false := bne_eq_false_iff_eq.mpr c5
   clear c5
   replace H := Option.bind_eq_some_iff.mp H
   obtain ⟨t132, A60, H⟩ := H
   replace H : (if t132 = true then ((ident_Less.f a0_5 a0_6 a0_0 a0_1).bind fun t133 => (some t133)) else (some false)) = some r := H
   have A6 := Aside0.mk A60
   clear A60
   by_cases c7 : t132 = true
   focus
    subst c7
    have H1 : ((ident_Less.f a0_5 a0_6 a0_0 a0_1).bind fun t133 => (some t133)) = some r := by rw [if_pos rfl] at H; exact H
    clear H
    have H := H1
    clear H1
    replace H := Option.bind_eq_some_iff.mp H
    obtain ⟨t133, A80, H⟩ := H
    replace H : (some t133) = some r := H
    have A8 := Aside0.mk A80
    clear A80
    obtain rfl := Option.some.inj H
   rotate_right
   focus
    replace c7 := Bool.eq_false_iff.mpr c7
    subst c7
    have H1 : (some false) = some r := by rw [if_neg (show ¬ (false = true) by decide)] at H; exact H
    clear H
    have H := H1
    clear H1
    obtain rfl := Option.some.inj H
    have zqm0_ := True.intro
  rotate_right
  focus
   rw [if_neg c5] at H
   have c5b0 : (a0_4 == 2) = false := beq_eq_false_iff_ne.mpr c5
   have c5b1 : (a0_4 != 2) = true := bne_iff_ne.mpr c5
   by_cases c17 : (a0_5 == 0 && (a0_6 == 0)) = true
   focus
    rw [if_pos c17] at H
    have c17b0 : (a0_5 == 0 && (a0_6 == 0)) = true := c17
    (try (have c17b1 : decide (a0_5 = 0 && (a0_6 == 0)) = true := by simpa using c17))
    (try (have c17b2 : (a0_5 == 0 && (a0_6 == 0)) = true := by simpa using c17))
    clear c17
    obtain rfl := Option.some.inj H
    have zqm0_ := True.intro
   rotate_right
   focus
    rw [if_neg c17] at H
    have c17b0 : (a0_5 == 0 && (a0_6 == 0)) = false := by simpa using c17
    (try (have c17b1 : decide (a0_5 = 0 && (a0_6 == 0)) = false := by simpa using c17))
    (try (have c17b2 : (a0_5 == 0 && (a0_6 == 0)) = false := by simpa using c17))
    (try (have c17b3 : ¬ (a0_5 = 0 && (a0_6 == 0)) := by simpa using c17))
    clear c17
    replace H := Option.bind_eq_some_iff.mp H
    obtain ⟨t134, A200, H⟩ := H
    replace H : (if t134 = true then ((ident_Less.f a0_5 a0_6 a0_0 a0_1).bind fun t135 => (some t135)) else (some false)) = some r := H
    have A20 := Aside0.mk A200
    clear A200
    by_cases c21 : t134 = true
    focus
     subst c21
     have H1 : ((ident_Less.f a0_5 a0_6 a0_0 a0_1).bind fun t135 => (some t135)) = some r := by rw [if_pos rfl] at H; exact H
     clear H
     have H := H1
     clear H1
     replace H := Option.bind_eq_some_iff.mp H
     obtain ⟨t135, A220, H⟩ := H
     replace H : (some t135) = some r := H
     have A22 := Aside0.mk A220
     clear A220
     obtain rfl := Option.some.inj H
    rotate_right
    focus
     replace c21 := Bool.eq_false_iff.mpr c21
     subst c21
     have H1 : (some false) = some r := by rw [if_neg (show ¬ (false = true) by decide)] at H; exact H
     clear H
     have H := H1
     clear H1
     obtain rfl := Option.some.inj H
     have zqm0_ := True.intro
 all_goals (try (clear zqm0_; go_enter Tryd.func35, Tryd.ntmps35; go_wp2_with (first | ((with_reducible refine gate_dst (N := 1) rfl ?_); refine box_event ?hg (N := 1) ?hd (cs := #[.int .i64 a0_0, .int .i64 a0_1, .int .i64 a0_2, .slice A0_3 l0_3.length c0_3, .int .i64 a0_4, .int .i64 a0_5, .int .i64 a0_6, .int .i64 a0_7, .int .i64 a0_8, .int .i64 a0_9, .int .i64 a0_10, .string a0_11, .string a0_12]) (t := 31) ?hr ?_; (case hd => rfl); (case hg => rfl); (case hr => first | (go_simp; done) | (go_simp; rfl)); intro gbz1 hg wz1 hbox hb; have n0_ := Aside0.mk (below_step zq0_ hb); have n1_ := Aside0.mk (hbox); have n2_ := Aside0.mk ((zq9_ : w.heap.size ≤ gbz1)); have n3_ := Aside0.mk ((zq9_ : w.heap.size ≤ gbz1)); clear HB; have HB := n0_; have BKz1 := n1_; have GWz1 := n2_; have GEz1 := n3_; clear n0_ n1_ n2_ n3_; clear hb hbox hg; obtain ⟨hczz2_0, hfzz2_0, hczz2_1, hfzz2_1, hczz2_2, hfzz2_2, hczz2_3, hfzz2_3, hczz2_4, hfzz2_4, hczz2_5, hfzz2_5, hczz2_6, hfzz2_6, hczz2_7, hfzz2_7, hczz2_8, hfzz2_8, hczz2_9, hfzz2_9, hczz2_10, hfzz2_10, hczz2_11, hfzz2_11, hczz2_12, hfzz2_12⟩ := zqC13_ BKz1.out) | (go_at_call 33; (with_reducible refine (ident_Right.calls a0_5 a0_6 false _ A20.out).mono ?_); rintro e wz2 ⟨rfl, hb⟩; have n0_ := Aside0.mk (blk_below (zqK_ BKz1.out) hb); have n1_ := Aside0.mk (below_step (zqB1_ GEz1.out) hb); clear BKz1; clear HB; have BKz1 := n0_; have HB := n1_; clear n0_ n1_; (try clear hb); (try clear hb2); (try clear hk); (try clear hi)) | ((with_reducible refine gate_callee (f := 33) rfl ?_); refine zqG_ (some 16) rfl Tryd.func33 #[.agg #[.int .i64 a0_5, .int .i64 a0_6]] rfl ?_; (with_reducible refine (ident_Right.calls a0_5 a0_6 false _ A6.out).mono ?_); rintro e wz2 ⟨rfl, hb⟩; refine ⟨_, rfl, ?_⟩; have n0_ := Aside0.mk (blk_below (zqK_ BKz1.out) hb); have n1_ := Aside0.mk (below_step (zqB1_ GEz1.out) hb); clear BKz1; clear HB; have BKz1 := n0_; have HB := n1_; clear n0_ n1_; (try clear hb); (try clear hb2); (try clear hk); (try clear hi)))))
 ·go_ret
  exact ⟨by first | rfl | (simp [errW_none, errW_some] <;> rfl) | (simp [*, errW_none, errW_some] <;> rfl), by repeat (first | (with_reducible first | exact HB.out | apply below_alloc | apply pw_below_drewN | apply below_drew1 | refine below_set ?_ GEz1.out) | exact HB.out)⟩
 ·go_enter Tryd.func35, Tryd.ntmps35
  go_wp2_with (first | ((with_reducible refine gate_dst (N := 1) rfl ?_); refine box_event ?hg (N := 1) ?hd (cs := #[.int .i64 a0_0, .int .i64 a0_1, .int .i64 a0_2, .slice A0_3 l0_3.length c0_3, .int .i64 a0_4, .int .i64 a0_5, .int .i64 a0_6, .int .i64 a0_7, .int .i64 a0_8, .int .i64 a0_9, .int .i64 a0_10, .string a0_11, .string a0_12]) (t := 31) ?hr ?_; (case hd => rfl); (case hg => rfl); (case hr => first | (go_simp; done) | (go_simp; rfl)); intro gbz1 hg wz1 hbox hb; have n0_ := Aside0.mk (below_step zq0_ hb); have n1_ := Aside0.mk (hbox); have n2_ := Aside0.mk ((zq9_ : w.heap.size ≤ gbz1)); have n3_ := Aside0.mk ((zq9_ : w.heap.size ≤ gbz1)); clear HB; have HB := n0_; have BKz1 := n1_; have GWz1 := n2_; have GEz1 := n3_; clear n0_ n1_ n2_ n3_; clear hb hbox hg; obtain ⟨hczz2_0, hfzz2_0, hczz2_1, hfzz2_1, hczz2_2, hfzz2_2, hczz2_3, hfzz2_3, hczz2_4, hfzz2_4, hczz2_5, hfzz2_5, hczz2_6, hfzz2_6, hczz2_7, hfzz2_7, hczz2_8, hfzz2_8, hczz2_9, hfzz2_9, hczz2_10, hfzz2_10, hczz2_11, hfzz2_11, hczz2_12, hfzz2_12⟩ := zqC13_ BKz1.out) | (go_at_call 33; (with_reducible refine (ident_Right.calls a0_5 a0_6 true _ A20.out).mono ?_); rintro e wz2 ⟨rfl, hb⟩; have n0_ := Aside0.mk (blk_below (zqK_ BKz1.out) hb); have n1_ := Aside0.mk (below_step (zqB1_ GEz1.out) hb); clear BKz1; clear HB; have BKz1 := n0_; have HB := n1_; clear n0_ n1_; (try clear hb); (try clear hb2); (try clear hk); (try clear hi); obtain ⟨hczz3_0, hfzz3_0, hczz3_1, hfzz3_1, hczz3_2, hfzz3_2, hczz3_3, hfzz3_3, hczz3_4, hfzz3_4, hczz3_5, hfzz3_5, hczz3_6, hfzz3_6, hczz3_7, hfzz3_7, hczz3_8, hfzz3_8, hczz3_9, hfzz3_9, hczz3_10, hfzz3_10, hczz3_11, hfzz3_11, hczz3_12, hfzz3_12⟩ := zqC13_ BKz1.out) | (go_at_call 52; (with_reducible refine (ident_Less.calls a0_5 a0_6 a0_0 a0_1 t135 _ A22.out).mono ?_); rintro e wz3 ⟨rfl, hb⟩; have n0_ := Aside0.mk (blk_below (zqK_ BKz1.out) hb); have n1_ := Aside0.mk (below_step (zqB1_ GEz1.out) hb); clear BKz1; clear HB; have BKz1 := n0_; have HB := n1_; clear n0_ n1_; (try clear hb); (try clear hb2); (try clear hk); (try clear hi)))
  go_ret
  exact ⟨by first | rfl | (simp [errW_none, errW_some] <;> rfl) | (simp [*, errW_none, errW_some] <;> rfl), by repeat (first | (with_reducible first | exact HB.out | apply below_alloc | apply pw_below_drewN | apply below_drew1 | refine below_set ?_ GEz1.out) | exact HB.out)⟩
 ·go_ret
  exact ⟨by first | rfl | (simp [errW_none, errW_some] <;> rfl) | (simp [*, errW_none, errW_some] <;> rfl), by repeat (first | (with_reducible first | exact HB.out | apply below_alloc | apply pw_below_drewN | apply below_drew1 | refine below_set ?_ GEz1.out) | exact HB.out)⟩
 ·go_ret
  exact ⟨by first | rfl | (simp [errW_none, errW_some] <;> rfl) | (simp [*, errW_none, errW_some] <;> rfl), by repeat (first | (with_reducible first | exact HB.out | apply below_alloc | apply pw_below_drewN | apply below_drew1 | refine below_set ?_ GEz1.out) | exact HB.out)⟩
 ·go_enter Tryd.func35, Tryd.ntmps35
  go_wp2_with (first | ((with_reducible refine gate_dst (N := 1) rfl ?_); refine box_event ?hg (N := 1) ?hd (cs := #[.int .i64 a0_0, .int .i64 a0_1, .int .i64 a0_2, .slice A0_3 l0_3.length c0_3, .int .i64 a0_4, .int .i64 a0_5, .int .i64 a0_6, .int .i64 a0_7, .int .i64 a0_8, .int .i64 a0_9, .int .i64 a0_10, .string a0_11, .string a0_12]) (t := 31) ?hr ?_; (case hd => rfl); (case hg => rfl); (case hr => first | (go_simp; done) | (go_simp; rfl)); intro gbz1 hg wz1 hbox hb; have n0_ := Aside0.mk (below_step zq0_ hb); have n1_ := Aside0.mk (hbox); have n2_ := Aside0.mk ((zq9_ : w.heap.size ≤ gbz1)); have n3_ := Aside0.mk ((zq9_ : w.heap.size ≤ gbz1)); clear HB; have HB := n0_; have BKz1 := n1_; have GWz1 := n2_; have GEz1 := n3_; clear n0_ n1_ n2_ n3_; clear hb hbox hg; obtain ⟨hczz2_0, hfzz2_0, hczz2_1, hfzz2_1, hczz2_2, hfzz2_2, hczz2_3, hfzz2_3, hczz2_4, hfzz2_4, hczz2_5, hfzz2_5, hczz2_6, hfzz2_6, hczz2_7, hfzz2_7, hczz2_8, hfzz2_8, hczz2_9, hfzz2_9, hczz2_10, hfzz2_10, hczz2_11, hfzz2_11, hczz2_12, hfzz2_12⟩ := zqC13_ BKz1.out) | ((with_reducible refine gate_callee (f := 33) rfl ?_); refine zqG_ (some 16) rfl Tryd.func33 #[.agg #[.int .i64 a0_5, .int .i64 a0_6]] rfl ?_; (with_reducible refine (ident_Right.calls a0_5 a0_6 true _ A6.out).mono ?_); rintro e wz2 ⟨rfl, hb⟩; refine ⟨_, rfl, ?_⟩; have n0_ := Aside0.mk (blk_below (zqK_ BKz1.out) hb); have n1_ := Aside0.mk (below_step (zqB1_ GEz1.out) hb); clear BKz1; clear HB; have BKz1 := n0_; have HB := n1_; clear n0_ n1_; (try clear hb); (try clear hb2); (try clear hk); (try clear hi); obtain ⟨hczz3_0, hfzz3_0, hczz3_1, hfzz3_1, hczz3_2, hfzz3_2, hczz3_3, hfzz3_3, hczz3_4, hfzz3_4, hczz3_5, hfzz3_5, hczz3_6, hfzz3_6, hczz3_7, hfzz3_7, hczz3_8, hfzz3_8, hczz3_9, hfzz3_9, hczz3_10, hfzz3_10, hczz3_11, hfzz3_11, hczz3_12, hfzz3_12⟩ := zqC13_ BKz1.out) | (go_at_call 52; (with_reducible refine (ident_Less.calls a0_5 a0_6 a0_0 a0_1 t133 _ A8.out).mono ?_); rintro e wz3 ⟨rfl, hb⟩; have n0_ := Aside0.mk (blk_below (zqK_ BKz1.out) hb); have n1_ := Aside0.mk (below_step (zqB1_ GEz1.out) hb); clear BKz1; clear HB; have BKz1 := n0_; have HB := n1_; clear n0_ n1_; (try clear hb); (try clear hb2); (try clear hk); (try clear hi)))
  go_ret
  exact ⟨by first | rfl | (simp [errW_none, errW_some] <;> rfl) | (simp [*, errW_none, errW_some] <;> rfl), by repeat (first | (with_reducible first | exact HB.out | apply below_alloc | apply pw_below_drewN | apply below_drew1 | refine below_set ?_ GEz1.out) | exact HB.out)⟩
 ·go_ret
  exact ⟨by first | rfl | (simp [errW_none, errW_some] <;> rfl) | (simp [*, errW_none, errW_some] <;> rfl), by repeat (first | (with_reducible first | exact HB.out | apply below_alloc | apply pw_below_drewN | apply below_drew1 | refine below_set ?_ GEz1.out) | exact HB.out)⟩

/-! ### ident_Node: function 53 -/
def ident_Node.f (a0_0 : Int) (a0_1 : Int) : Option (Bool) := (ident_Right.f a0_0 a0_1).bind fun t137 => (if t137 = true then (some true) else (if (a0_0 == 0 && (a0_1 == 0)) = true then (some true) else (some (a0_0 == 0 && (a0_1 == 1)))))
set_option maxHeartbeats 8000000 in
set_option maxRecDepth 100000 in
theorem ident_Node.calls (a0_0 : Int) (a0_1 : Int) (r : Bool) (w : World) (h : ident_Node.f a0_0 a0_1 = some r) :
  Calls Tryd.prog 53 #[.agg #[.int .i64 a0_0, .int .i64 a0_1]] w fun e w' => e = .returned (.bool r) ∧ Below w.heap.size w w' := by
 have hu28 := Tryd.underlying28
 have HB := Aside0.mk (Below.refl w.heap.size w)
 have H : ((ident_Right.f a0_0 a0_1).bind fun t137 => (if t137 = true then (some true) else (if (a0_0 == 0 && (a0_1 == 0)) = true then (some true) else (some (a0_0 == 0 && (a0_1 == 1)))))) = some r := h
 clear h
 replace H := Option.bind_eq_some_iff.mp H
 obtain ⟨t137, A20, H⟩ := H
 replace H : (if t137 = true then (some true) else (if (a0_0 == 0 && (a0_1 == 0)) = true then (some true) else (some (a0_0 == 0 && (a0_1 == 1))))) = some r := H
 have A2 := Aside0.mk A20
 clear A20
 by_cases c3 : t137 = true
 focus
  subst c3
  have H1 : (some true) = some r := by rw [if_pos rfl] at H; exact H
  clear H
  have H := H1
  clear H1
  obtain rfl := Option.some.inj H
 rotate_right
 focus
  replace c3 := Bool.eq_false_iff.mpr c3
  subst c3
  have H1 : (if (a0_0 == 0 && (a0_1 == 0)) = true then (some true) else (some (a0_0 == 0 && (a0_1 == 1)))) = some r := by rw [if_neg (show ¬ (false = true) by decide)] at H; exact H
  clear H
  have H := H1
  clear H1
  by_cases c7 : (a0_0 == 0 && (a0_1 == 0)) = true
  focus
   rw [if_pos c7] at H
   have c7b0 : (a0_0 == 0 && (a0_1 == 0)) = true := c7
   (try (have c7b1 : decide (a0_0 = 0 && (a0_1 == 0)) = true := by simpa using c7))
   (try (have c7b2 : (a0_0 == 0 && (a0_1 == 0)) = true := by simpa using c7))
   clear c7
   obtain rfl := Option.some.inj H
   have zqm0_ := True.intro
  rotate_right
  focus
   rw [if_neg c7] at H
   have c7b0 : (a0_0 == 0 && (a0_1 == 0)) = false := by simpa using c7
   (try (have c7b1 : decide (a0_0 = 0 && (a0_1 == 0)) = false := by simpa using c7))
   (try (have c7b2 : (a0_0 == 0 && (a0_1 == 0)) = false := by simpa using c7))
   (try (have c7b3 : ¬ (a0_0 = 0 && (a0_1 == 0)) := by simpa using c7))
   clear c7
   obtain rfl := Option.some.inj H
   have zqm0_ := True.intro
 all_goals (try (clear zqm0_; go_enter Tryd.func53, Tryd.ntmps53; go_wp2_with (first | ((with_reducible refine gate_dst (N := 1) rfl ?_); refine box_event ?hg (N := 1) ?hd (cs := #[.int .i64 a0_0, .int .i64 a0_1]) (t := 28) ?hr ?_; (case hd => rfl); (case hg => rfl); (case hr => first | (go_simp; done) | (go_simp; rfl)); intro gbz1 hg wz1 hbox hb; have n0_ := Aside0.mk (below_step zq0_ hb); have n1_ := Aside0.mk (hbox); have n2_ := Aside0.mk ((zq9_ : w.heap.size ≤ gbz1)); have n3_ := Aside0.mk ((zq9_ : w.heap.size ≤ gbz1)); clear HB; have HB := n0_; have BKz1 := n1_; have GWz1 := n2_; have GEz1 := n3_; clear n0_ n1_ n2_ n3_; clear hb hbox hg; obtain ⟨hczz2_0, hfzz2_0, hczz2_1, hfzz2_1⟩ := zqC2_ BKz1.out) | ((with_reducible refine gate_callee (f := 33) rfl ?_); refine zqG_ (some 4) rfl Tryd.func33 #[.agg #[.int .i64 a0_0, .int .i64 a0_1]] rfl ?_; (with_reducible refine (ident_Right.calls a0_0 a0_1 false _ A2.out).mono ?_); rintro e wz2 ⟨rfl, hb⟩; refine ⟨_, rfl, ?_⟩; have n0_ := Aside0.mk (blk_below (zqK_ BKz1.out) hb); have n1_ := Aside0.mk (below_step (zqB1_ GEz1.out) hb); clear BKz1; clear HB; have BKz1 := n0_; have HB := n1_; clear n0_ n1_; (try clear hb); (try clear hb2); (try clear hk); (try clear hi); obtain ⟨hczz3_0, hfzz3_0, hczz3_1, hfzz3_1⟩ := zqC2_ BKz1.out))))
 ·go_ret
  exact ⟨by first | rfl | (simp [errW_none, errW_some] <;> rfl) | (simp [*, errW_none, errW_some] <;> rfl), by repeat (first | (with_reducible first | exact HB.out | apply below_alloc | apply pw_below_drewN | apply below_drew1 | refine below_set ?_ GEz1.out) | exact HB.out)⟩
 ·go_ret
  exact ⟨by first | rfl | (simp [errW_none, errW_some] <;> rfl) | (simp [*, errW_none, errW_some] <;> rfl), by repeat (first | (with_reducible first | exact HB.out | apply below_alloc | apply pw_below_drewN | apply below_drew1 | refine below_set ?_ GEz1.out) | exact HB.out)⟩
 ·go_enter Tryd.func53, Tryd.ntmps53
  go_wp2_with (first | ((with_reducible refine gate_dst (N := 1) rfl ?_); refine box_event ?hg (N := 1) ?hd (cs := #[.int .i64 a0_0, .int .i64 a0_1]) (t := 28) ?hr ?_; (case hd => rfl); (case hg => rfl); (case hr => first | (go_simp; done) | (go_simp; rfl)); intro gbz1 hg wz1 hbox hb; have n0_ := Aside0.mk (below_step zq0_ hb); have n1_ := Aside0.mk (hbox); have n2_ := Aside0.mk ((zq9_ : w.heap.size ≤ gbz1)); have n3_ := Aside0.mk ((zq9_ : w.heap.size ≤ gbz1)); clear HB; have HB := n0_; have BKz1 := n1_; have GWz1 := n2_; have GEz1 := n3_; clear n0_ n1_ n2_ n3_; clear hb hbox hg; obtain ⟨hczz2_0, hfzz2_0, hczz2_1, hfzz2_1⟩ := zqC2_ BKz1.out) | ((with_reducible refine gate_callee (f := 33) rfl ?_); refine zqG_ (some 4) rfl Tryd.func33 #[.agg #[.int .i64 a0_0, .int .i64 a0_1]] rfl ?_; (with_reducible refine (ident_Right.calls a0_0 a0_1 true _ A2.out).mono ?_); rintro e wz2 ⟨rfl, hb⟩; refine ⟨_, rfl, ?_⟩; have n0_ := Aside0.mk (blk_below (zqK_ BKz1.out) hb); have n1_ := Aside0.mk (below_step (zqB1_ GEz1.out) hb); clear BKz1; clear HB; have BKz1 := n0_; have HB := n1_; clear n0_ n1_; (try clear hb); (try clear hb2); (try clear hk); (try clear hi)))
  go_ret
  exact ⟨by first | rfl | (simp [errW_none, errW_some] <;> rfl) | (simp [*, errW_none, errW_some] <;> rfl), by repeat (first | (with_reducible first | exact HB.out | apply below_alloc | apply pw_below_drewN | apply below_drew1 | refine below_set ?_ GEz1.out) | exact HB.out)⟩

end Go.Proofs.YtgoolgmcbnikkaaDoor.QChangeBack
