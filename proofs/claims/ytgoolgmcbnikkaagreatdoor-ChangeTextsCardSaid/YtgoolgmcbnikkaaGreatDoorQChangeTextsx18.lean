-- Own text of this seat, laid by the session's program ownprint.py (wip/tools). Lean checks it.
import Derived.Test.YtgoolgmcbnikkaaGreatDoorQChangeTextsx0
import Derived.Test.YtgoolgmcbnikkaaGreatDoorQChangeTextsx5
import Derived.Test.YtgoolgmcbnikkaaGreatDoorQChangeTextsx8
import Derived.Test.YtgoolgmcbnikkaaGreatDoorQChangeTextsx11
import Derived.Test.YtgoolgmcbnikkaaGreatDoorQChangeTextsx17
namespace Go.Proofs.YtgoolgmcbnikkaaGreatDoor.QChangeTexts
open Go.RowKit Go.Proofs.YtgoolgmcbnikkaaGreatDoorW.PrintWords Go.Proofs.YtgoolgmcbnikkaaGreatDoorW.PrintLast Go.Proofs.YtgoolgmcbnikkaaGreatDoorW.PrintMore
attribute [local go_sem] max2_int min2_int max_two min_two max_three min_three max_four min_four   -- for this text's walks alone
set_option linter.unusedVariables false
set_option linter.unusedSimpArgs false

/-! ### topiarylaw05_ChangeTexts: function 4 -/
def topiarylaw05_ChangeTexts.f (k : Nat) (a0_0 : Int) (a0_1 : Int) (a0_2 : Int) (l0_3 : List Int) (a0_4 : Int) (a0_5 : Int) (a0_6 : Int) (a0_7 : Int) (a0_8 : Int) (a0_9 : Int) (a0_10 : Int) (a0_11 : ByteArray) (a0_12 : ByteArray) : Option (Bool) := (change_Text.f k a0_0 a0_1 a0_2 l0_3 a0_4 a0_5 a0_6 a0_7 a0_8 a0_9 a0_10 a0_11 a0_12).bind fun bt398 => ((topiaryref05_Text.f k a0_0 a0_1 a0_2 l0_3 a0_4 a0_5 a0_6 a0_7 a0_8 a0_9 a0_10 a0_11 a0_12).bind fun bt400 => (if bt398.1.toList = bt400.1.toList then (if bt398.2 = bt400.2 then ((topiarylaw05_awake.f k).bind fun t402 => (some t402)) else (some false)) else (some false)))
theorem topiarylaw05_ChangeTexts.mono : ∀ a0 a1 a2 a3 a4 a5 a6 a7 a8 a9 a10 a11 a12 k, LeO (topiarylaw05_ChangeTexts.f k a0 a1 a2 a3 a4 a5 a6 a7 a8 a9 a10 a11 a12) (topiarylaw05_ChangeTexts.f (k + 1) a0 a1 a2 a3 a4 a5 a6 a7 a8 a9 a10 a11 a12) := by
 intro a0 a1 a2 a3 a4 a5 a6 a7 a8 a9 a10 a11 a12 k
 unfold topiarylaw05_ChangeTexts.f
 repeat' first
   | (with_reducible exact change_Text.mono _ _ _ _ _ _ _ _ _ _ _ _ _ _)
   | (with_reducible exact topiarylaw05_awake.mono _)
   | (with_reducible exact topiaryref05_Text.mono _ _ _ _ _ _ _ _ _ _ _ _ _ _)
   | (with_reducible exact LeO.refl _)
   | (with_reducible exact LeO.none _)
   | (with_reducible refine LeO.ite ?_ ?_)
   | (with_reducible refine LeO.bind ?_ (fun _ => ?_))
   | exact change_Text.mono _ _ _ _ _ _ _ _ _ _ _ _ _ _
   | exact topiarylaw05_awake.mono _
   | exact topiaryref05_Text.mono _ _ _ _ _ _ _ _ _ _ _ _ _ _
   | exact LeO.none _
   | refine LeO.ite ?_ ?_
   | refine LeO.bind ?_ (fun _ => ?_)
set_option maxHeartbeats 8000000 in
set_option maxRecDepth 100000 in
theorem topiarylaw05_ChangeTexts.calls (k : Nat) (a0_0 : Int) (a0_1 : Int) (a0_2 : Int) (A0_3 : Option Addr) (c0_3 : Nat) (l0_3 : List Int) (a0_4 : Int) (a0_5 : Int) (a0_6 : Int) (a0_7 : Int) (a0_8 : Int) (a0_9 : Int) (a0_10 : Int) (a0_11 : ByteArray) (a0_12 : ByteArray) (r : Bool) (w : World) (hr0_3 : Kd.C (Kd.int .i64) w A0_3 l0_3.length l0_3) (hc0_3 : l0_3.length ≤ c0_3) (htab : TabW_ w) (h : topiarylaw05_ChangeTexts.f k a0_0 a0_1 a0_2 l0_3 a0_4 a0_5 a0_6 a0_7 a0_8 a0_9 a0_10 a0_11 a0_12 = some r) :
  Calls Tryz.prog 4 #[.agg #[.int .i64 a0_0, .int .i64 a0_1, .int .i64 a0_2, .slice A0_3 l0_3.length c0_3, .int .i64 a0_4, .int .i64 a0_5, .int .i64 a0_6, .int .i64 a0_7, .int .i64 a0_8, .int .i64 a0_9, .int .i64 a0_10, .string a0_11, .string a0_12]] w fun e w' => e = .returned (.bool r) ∧ Below w.heap.size w w' := by
 have HTAB := Aside0.mk htab
 clear htab
 have hu26 := Tryz.underlying26
 have HR0_3 := Aside0.mk hr0_3
 have HC0_3 := Aside0.mk hc0_3
 clear hr0_3 hc0_3
 have HB := Aside0.mk (Below.refl w.heap.size w)
 have H : ((change_Text.f k a0_0 a0_1 a0_2 l0_3 a0_4 a0_5 a0_6 a0_7 a0_8 a0_9 a0_10 a0_11 a0_12).bind fun bt398 => ((topiaryref05_Text.f k a0_0 a0_1 a0_2 l0_3 a0_4 a0_5 a0_6 a0_7 a0_8 a0_9 a0_10 a0_11 a0_12).bind fun bt400 => (if bt398.1.toList = bt400.1.toList then (if bt398.2 = bt400.2 then ((topiarylaw05_awake.f k).bind fun t402 => (some t402)) else (some false)) else (some false)))) = some r := h
 clear h
 replace H := Option.bind_eq_some_iff.mp H
 obtain ⟨⟨t398, t399⟩, A20, H⟩ := H
 (try dsimp only at H)
 have A2 := Aside0.mk A20
 clear A20
 replace H := Option.bind_eq_some_iff.mp H
 obtain ⟨⟨t400, t401⟩, A30, H⟩ := H
 (try dsimp only at H)
 have A3 := Aside0.mk A30
 clear A30
 by_cases c4 : t398.toList = t400.toList
 focus
  rw [if_pos c4] at H
  have c4b0 : (t398.toList == t400.toList) = true := beq_iff_eq.mpr c4
  have c4b1 : (t398.toList != t400.toList) = false := bne_eq_false_iff_eq.mpr c4
  clear c4
  by_cases c5 : t399 = t401
  focus
   rw [if_pos c5] at H
   have c5b0 : (t399 == t401) = true := beq_iff_eq.mpr c5
   have c5b1 : (t399 != t401) = false := bne_eq_false_iff_eq.mpr c5
   clear c5
   replace H := Option.bind_eq_some_iff.mp H
   obtain ⟨t402, A60, H⟩ := H
   replace H : (some t402) = some r := H
   have A6 := Aside0.mk A60
   clear A60
   obtain rfl := Option.some.inj H
  rotate_right
  focus
   rw [if_neg c5] at H
   have c5b0 : (t399 == t401) = false := beq_eq_false_iff_ne.mpr c5
   have c5b1 : (t399 != t401) = true := bne_iff_ne.mpr c5
   obtain rfl := Option.some.inj H
 rotate_right
 focus
  rw [if_neg c4] at H
  have c4b0 : (t398.toList == t400.toList) = false := beq_eq_false_iff_ne.mpr c4
  have c4b1 : (t398.toList != t400.toList) = true := bne_iff_ne.mpr c4
  obtain rfl := Option.some.inj H
 all_goals
  go_enter Tryz.func4, Tryz.ntmps4
  go_wp2_with (first | ((with_reducible refine gate_dst (N := 1) rfl ?_); refine box_event ?hg (N := 1) ?hd (cs := #[.int .i64 a0_0, .int .i64 a0_1, .int .i64 a0_2, .slice A0_3 l0_3.length c0_3, .int .i64 a0_4, .int .i64 a0_5, .int .i64 a0_6, .int .i64 a0_7, .int .i64 a0_8, .int .i64 a0_9, .int .i64 a0_10, .string a0_11, .string a0_12]) (t := 26) ?hr ?_; (case hd => rfl); (case hg => rfl); (case hr => first | (go_simp; done) | (go_simp; rfl)); intro gbz1 hg wz1 hbox hb; have BKz1 := Aside0.mk (hbox); have GWz1 := Aside0.mk ((zq10_ : w.heap.size ≤ gbz1)); have GEz1 := Aside0.mk ((zq10_ : w.heap.size ≤ gbz1)); replace HB := Aside0.mk (below_step zq0_ hb); clear hb hbox hg; obtain ⟨hczz2_0, hfzz2_0, hczz2_1, hfzz2_1, hczz2_2, hfzz2_2, hczz2_3, hfzz2_3, hczz2_4, hfzz2_4, hczz2_5, hfzz2_5, hczz2_6, hfzz2_6, hczz2_7, hfzz2_7, hczz2_8, hfzz2_8, hczz2_9, hfzz2_9, hczz2_10, hfzz2_10, hczz2_11, hfzz2_11, hczz2_12, hfzz2_12⟩ := zqC13_ BKz1.out) | ((with_reducible refine gate_callee (f := 14) rfl ?_); refine zqG_ (some 9) rfl Tryz.func14 #[.agg #[.int .i64 a0_0, .int .i64 a0_1, .int .i64 a0_2, .slice A0_3 l0_3.length c0_3, .int .i64 a0_4, .int .i64 a0_5, .int .i64 a0_6, .int .i64 a0_7, .int .i64 a0_8, .int .i64 a0_9, .int .i64 a0_10, .string a0_11, .string a0_12]] rfl ?_; (with_reducible refine (change_Text.calls k a0_0 a0_1 a0_2 _ _ l0_3 a0_4 a0_5 a0_6 a0_7 a0_8 a0_9 a0_10 a0_11 a0_12 t398 t399 _ ?side1 ?side2 (tabW_below_ HTAB.out (zqB1_ GEz1.out)) A2.out).mono ?_); (case side1 => repeat (first | exact (Kd.C_below HR0_3.out HB.out) | (with_reducible refine Kd.C_alloc ?_ _) | (with_reducible refine Kd.C_drewN ?_ _) | (with_reducible refine Kd.C_drew ?_))); (case side2 => exact HC0_3.out); rintro e wz2 ⟨rfl, hb⟩; refine ⟨_, rfl, ?_⟩; replace BKz1 := Aside0.mk (blk_below (zqK_ BKz1.out) hb); replace HB := Aside0.mk (below_step (zqB1_ GEz1.out) hb); (try clear hb); (try clear hb2); (try clear hk); (try clear hi); obtain ⟨hczz3_0, hfzz3_0, hczz3_1, hfzz3_1, hczz3_2, hfzz3_2, hczz3_3, hfzz3_3, hczz3_4, hfzz3_4, hczz3_5, hfzz3_5, hczz3_6, hfzz3_6, hczz3_7, hfzz3_7, hczz3_8, hfzz3_8, hczz3_9, hfzz3_9, hczz3_10, hfzz3_10, hczz3_11, hfzz3_11, hczz3_12, hfzz3_12⟩ := zqC13_ BKz1.out) | ((with_reducible refine gate_callee (f := 15) rfl ?_); refine zqG_ (some 14) rfl Tryz.func15 #[.agg #[.int .i64 a0_0, .int .i64 a0_1, .int .i64 a0_2, .slice A0_3 l0_3.length c0_3, .int .i64 a0_4, .int .i64 a0_5, .int .i64 a0_6, .int .i64 a0_7, .int .i64 a0_8, .int .i64 a0_9, .int .i64 a0_10, .string a0_11, .string a0_12]] rfl ?_; (with_reducible refine (topiaryref05_Text.calls k a0_0 a0_1 a0_2 _ _ l0_3 a0_4 a0_5 a0_6 a0_7 a0_8 a0_9 a0_10 a0_11 a0_12 t400 t401 _ ?side1 ?side2 A3.out).mono ?_); (case side1 => repeat (first | exact (Kd.C_below HR0_3.out HB.out) | (with_reducible refine Kd.C_alloc ?_ _) | (with_reducible refine Kd.C_drewN ?_ _) | (with_reducible refine Kd.C_drew ?_))); (case side2 => exact HC0_3.out); rintro e wz3 ⟨rfl, hb⟩; refine ⟨_, rfl, ?_⟩; replace BKz1 := Aside0.mk (blk_below (zqK_ BKz1.out) hb); replace HB := Aside0.mk (below_step (zqB1_ GEz1.out) hb); (try clear hb); (try clear hb2); (try clear hk); (try clear hi)) | (go_at_call 13; (with_reducible refine (topiarylaw05_awake.calls k  t402 _ (tabW_below_ HTAB.out (zqB1_ GEz1.out)) A6.out).mono ?_); rintro e wz4 ⟨rfl, hb⟩; replace BKz1 := Aside0.mk (blk_below (zqK_ BKz1.out) hb); replace HB := Aside0.mk (below_step (zqB1_ GEz1.out) hb); (try clear hb); (try clear hb2); (try clear hk); (try clear hi)))
 ·go_ret
  exact ⟨by first | rfl | (simp [errW_none, errW_some] <;> rfl) | (simp [*, errW_none, errW_some] <;> rfl), by repeat (first | (with_reducible first | exact HB.out | apply below_alloc | apply pw_below_drewN | apply below_drew1 | refine below_set ?_ GEz1.out) | exact HB.out)⟩
 ·go_ret
  exact ⟨by first | rfl | (simp [errW_none, errW_some] <;> rfl) | (simp [*, errW_none, errW_some] <;> rfl), by repeat (first | (with_reducible first | exact HB.out | apply below_alloc | apply pw_below_drewN | apply below_drew1 | refine below_set ?_ GEz1.out) | exact HB.out)⟩
 ·go_ret
  exact ⟨by first | rfl | (simp [errW_none, errW_some] <;> rfl) | (simp [*, errW_none, errW_some] <;> rfl), by repeat (first | (with_reducible first | exact HB.out | apply below_alloc | apply pw_below_drewN | apply below_drew1 | refine below_set ?_ GEz1.out) | exact HB.out)⟩

end Go.Proofs.YtgoolgmcbnikkaaGreatDoor.QChangeTexts
