-- Own text of this seat, laid by the session's program ownprint.py (wip/tools). Lean checks it.
import Derived.Test.YtgoolgmcbnikkaaGreatDoorQChangeTextsx0
import Derived.Test.YtgoolgmcbnikkaaGreatDoorQChangeTextsx1
import Derived.Test.YtgoolgmcbnikkaaGreatDoorQChangeTextsx12
namespace Go.Proofs.YtgoolgmcbnikkaaGreatDoor.QChangeTexts
open Go.RowKit Go.Proofs.YtgoolgmcbnikkaaGreatDoorW.PrintWords Go.Proofs.YtgoolgmcbnikkaaGreatDoorW.PrintLast Go.Proofs.YtgoolgmcbnikkaaGreatDoorW.PrintMore
attribute [local go_sem] max2_int min2_int max_two min_two max_three min_three max_four min_four   -- for this text's walks alone
set_option linter.unusedVariables false
set_option linter.unusedSimpArgs false

attribute [local go_sem high] eqA23
/-! ### topiaryref05_placed: function 34 -/
def topiaryref05_placed.j0 : Nat → Bool → Int → Int → Int → List Int → Int → Int → Int → Int → Int → Int → Int → ByteArray → ByteArray → Int → Int → Option (Bool)
 | 0, _, _, _, _, _, _, _, _, _, _, _, _, _, _, _, _ => none
 | k + 1, x47, x317000, x317001, x317002, x317003, x317004, x317005, x317006, x317007, x317008, x317009, x317010, x317011, x317012, x318000, x318001 => if x47 = true then (some false) else (if x317004 > 2 then (if (x317007 == x318000 && (x317008 == x318001)) = true then (some (x317009 == x318000 && (x317010 == x318001))) else (some false)) else ((topiaryref01_Node.f x317007 x317008).bind fun t324 => (if t324 = true then ((topiaryref01_Less.f x317007 x317008 x317000 x317001).bind fun t325 => (if t325 = true then (if (!(x317007 == x317005) || (!(x317008 == x317006))) = true then (if (x317009 == x318000 && (x317010 == x318001)) = true then (some true) else ((topiaryref05_ahead.f x317009 x317010 x317000 x317001).bind fun t326 => (some t326))) else (some false)) else (some false))) else (some false))))
def topiaryref05_placed.f (k : Nat) (a0_0 : Int) (a0_1 : Int) (a0_2 : Int) (l0_3 : List Int) (a0_4 : Int) (a0_5 : Int) (a0_6 : Int) (a0_7 : Int) (a0_8 : Int) (a0_9 : Int) (a0_10 : Int) (a0_11 : ByteArray) (a0_12 : ByteArray) : Option (Bool) := if a0_4 = 1 then (if (!(a0_5 == a0_0) || (!(a0_6 == a0_1))) = true then (topiaryref05_placed.j0 k true a0_0 a0_1 a0_2 l0_3 a0_4 a0_5 a0_6 a0_7 a0_8 a0_9 a0_10 a0_11 a0_12 0 0) else (if a0_4 = 2 then ((topiaryref05_ahead.f a0_5 a0_6 a0_0 a0_1).bind fun t318 => (if t318 = true then (if a0_4 > 2 then (if (!(a0_5 == 0) || (!(a0_6 == 0))) = true then ((topiaryref05_ahead.f a0_5 a0_6 a0_0 a0_1).bind fun t319 => (topiaryref05_placed.j0 k (!t319) a0_0 a0_1 a0_2 l0_3 a0_4 a0_5 a0_6 a0_7 a0_8 a0_9 a0_10 a0_11 a0_12 0 0)) else (topiaryref05_placed.j0 k false a0_0 a0_1 a0_2 l0_3 a0_4 a0_5 a0_6 a0_7 a0_8 a0_9 a0_10 a0_11 a0_12 0 0)) else (topiaryref05_placed.j0 k false a0_0 a0_1 a0_2 l0_3 a0_4 a0_5 a0_6 a0_7 a0_8 a0_9 a0_10 a0_11 a0_12 0 0)) else (topiaryref05_placed.j0 k true a0_0 a0_1 a0_2 l0_3 a0_4 a0_5 a0_6 a0_7 a0_8 a0_9 a0_10 a0_11 a0_12 0 0))) else (if a0_4 > 2 then (if (!(a0_5 == 0) || (!(a0_6 == 0))) = true then ((topiaryref05_ahead.f a0_5 a0_6 a0_0 a0_1).bind fun t320 => (topiaryref05_placed.j0 k (!t320) a0_0 a0_1 a0_2 l0_3 a0_4 a0_5 a0_6 a0_7 a0_8 a0_9 a0_10 a0_11 a0_12 0 0)) else (topiaryref05_placed.j0 k false a0_0 a0_1 a0_2 l0_3 a0_4 a0_5 a0_6 a0_7 a0_8 a0_9 a0_10 a0_11 a0_12 0 0)) else (topiaryref05_placed.j0 k false a0_0 a0_1 a0_2 l0_3 a0_4 a0_5 a0_6 a0_7 a0_8 a0_9 a0_10 a0_11 a0_12 0 0)))) else (if a0_4 = 2 then ((topiaryref05_ahead.f a0_5 a0_6 a0_0 a0_1).bind fun t321 => (if t321 = true then (if a0_4 > 2 then (if (!(a0_5 == 0) || (!(a0_6 == 0))) = true then ((topiaryref05_ahead.f a0_5 a0_6 a0_0 a0_1).bind fun t322 => (topiaryref05_placed.j0 k (!t322) a0_0 a0_1 a0_2 l0_3 a0_4 a0_5 a0_6 a0_7 a0_8 a0_9 a0_10 a0_11 a0_12 0 0)) else (topiaryref05_placed.j0 k false a0_0 a0_1 a0_2 l0_3 a0_4 a0_5 a0_6 a0_7 a0_8 a0_9 a0_10 a0_11 a0_12 0 0)) else (topiaryref05_placed.j0 k false a0_0 a0_1 a0_2 l0_3 a0_4 a0_5 a0_6 a0_7 a0_8 a0_9 a0_10 a0_11 a0_12 0 0)) else (topiaryref05_placed.j0 k true a0_0 a0_1 a0_2 l0_3 a0_4 a0_5 a0_6 a0_7 a0_8 a0_9 a0_10 a0_11 a0_12 0 0))) else (if a0_4 > 2 then (if (!(a0_5 == 0) || (!(a0_6 == 0))) = true then ((topiaryref05_ahead.f a0_5 a0_6 a0_0 a0_1).bind fun t323 => (topiaryref05_placed.j0 k (!t323) a0_0 a0_1 a0_2 l0_3 a0_4 a0_5 a0_6 a0_7 a0_8 a0_9 a0_10 a0_11 a0_12 0 0)) else (topiaryref05_placed.j0 k false a0_0 a0_1 a0_2 l0_3 a0_4 a0_5 a0_6 a0_7 a0_8 a0_9 a0_10 a0_11 a0_12 0 0)) else (topiaryref05_placed.j0 k false a0_0 a0_1 a0_2 l0_3 a0_4 a0_5 a0_6 a0_7 a0_8 a0_9 a0_10 a0_11 a0_12 0 0)))
theorem topiaryref05_placed.mono_l : ∀ k, (∀ y0 y1 y2 y3 y4 y5 y6 y7 y8 y9 y10 y11 y12 y13 y14 y15, LeO (topiaryref05_placed.j0 k y0 y1 y2 y3 y4 y5 y6 y7 y8 y9 y10 y11 y12 y13 y14 y15) (topiaryref05_placed.j0 (k + 1) y0 y1 y2 y3 y4 y5 y6 y7 y8 y9 y10 y11 y12 y13 y14 y15))
 | 0 => fun _ _ _ _ _ _ _ _ _ _ _ _ _ _ _ _ r h => by simp [topiaryref05_placed.j0] at h
 | k + 1 => by
  have ih0 := topiaryref05_placed.mono_l k
  ·intro y0 y1 y2 y3 y4 y5 y6 y7 y8 y9 y10 y11 y12 y13 y14 y15
   unfold topiaryref05_placed.j0
   repeat' first
   | (with_reducible exact ih0 _ _ _ _ _ _ _ _ _ _ _ _ _ _ _ _)
   | (with_reducible exact LeO.refl _)
   | (with_reducible exact LeO.none _)
   | (with_reducible refine LeO.ite ?_ ?_)
   | (with_reducible refine LeO.bind ?_ (fun _ => ?_))
   | exact ih0 _ _ _ _ _ _ _ _ _ _ _ _ _ _ _ _
   | exact LeO.none _
   | refine LeO.ite ?_ ?_
   | refine LeO.bind ?_ (fun _ => ?_)
theorem topiaryref05_placed.mono : ∀ a0 a1 a2 a3 a4 a5 a6 a7 a8 a9 a10 a11 a12 k, LeO (topiaryref05_placed.f k a0 a1 a2 a3 a4 a5 a6 a7 a8 a9 a10 a11 a12) (topiaryref05_placed.f (k + 1) a0 a1 a2 a3 a4 a5 a6 a7 a8 a9 a10 a11 a12) := by
 intro a0 a1 a2 a3 a4 a5 a6 a7 a8 a9 a10 a11 a12 k
 have ih0 := topiaryref05_placed.mono_l k
 unfold topiaryref05_placed.f
 repeat' first
   | (with_reducible exact ih0 _ _ _ _ _ _ _ _ _ _ _ _ _ _ _ _)
   | (with_reducible exact LeO.refl _)
   | (with_reducible exact LeO.none _)
   | (with_reducible refine LeO.ite ?_ ?_)
   | (with_reducible refine LeO.bind ?_ (fun _ => ?_))
   | exact ih0 _ _ _ _ _ _ _ _ _ _ _ _ _ _ _ _
   | exact LeO.none _
   | refine LeO.ite ?_ ?_
   | refine LeO.bind ?_ (fun _ => ?_)
set_option maxHeartbeats 8000000 in
set_option maxRecDepth 100000 in
theorem topiaryref05_placed.calls (k : Nat) (a0_0 : Int) (a0_1 : Int) (a0_2 : Int) (A0_3 : Option Addr) (c0_3 : Nat) (l0_3 : List Int) (a0_4 : Int) (a0_5 : Int) (a0_6 : Int) (a0_7 : Int) (a0_8 : Int) (a0_9 : Int) (a0_10 : Int) (a0_11 : ByteArray) (a0_12 : ByteArray) (r : Bool) (w : World) (hr0_3 : Kd.C (Kd.int .i64) w A0_3 l0_3.length l0_3) (hc0_3 : l0_3.length ≤ c0_3) (h : topiaryref05_placed.f k a0_0 a0_1 a0_2 l0_3 a0_4 a0_5 a0_6 a0_7 a0_8 a0_9 a0_10 a0_11 a0_12 = some r) :
  Calls Tryz.prog 34 #[.agg #[.int .i64 a0_0, .int .i64 a0_1, .int .i64 a0_2, .slice A0_3 l0_3.length c0_3, .int .i64 a0_4, .int .i64 a0_5, .int .i64 a0_6, .int .i64 a0_7, .int .i64 a0_8, .int .i64 a0_9, .int .i64 a0_10, .string a0_11, .string a0_12]] w fun e w' => e = .returned (.bool r) ∧ Below w.heap.size w w' := by
 have hu26 := Tryz.underlying26
 have hu23 := Tryz.underlying23
 have HR0_3 := Aside0.mk hr0_3
 have HC0_3 := Aside0.mk hc0_3
 clear hr0_3 hc0_3
 have HB := Aside0.mk (Below.refl w.heap.size w)
 have H : (if a0_4 = 1 then (if (!(a0_5 == a0_0) || (!(a0_6 == a0_1))) = true then (topiaryref05_placed.j0 k true a0_0 a0_1 a0_2 l0_3 a0_4 a0_5 a0_6 a0_7 a0_8 a0_9 a0_10 a0_11 a0_12 0 0) else (if a0_4 = 2 then ((topiaryref05_ahead.f a0_5 a0_6 a0_0 a0_1).bind fun t318 => (if t318 = true then (if a0_4 > 2 then (if (!(a0_5 == 0) || (!(a0_6 == 0))) = true then ((topiaryref05_ahead.f a0_5 a0_6 a0_0 a0_1).bind fun t319 => (topiaryref05_placed.j0 k (!t319) a0_0 a0_1 a0_2 l0_3 a0_4 a0_5 a0_6 a0_7 a0_8 a0_9 a0_10 a0_11 a0_12 0 0)) else (topiaryref05_placed.j0 k false a0_0 a0_1 a0_2 l0_3 a0_4 a0_5 a0_6 a0_7 a0_8 a0_9 a0_10 a0_11 a0_12 0 0)) else (topiaryref05_placed.j0 k false a0_0 a0_1 a0_2 l0_3 a0_4 a0_5 a0_6 a0_7 a0_8 a0_9 a0_10 a0_11 a0_12 0 0)) else (topiaryref05_placed.j0 k true a0_0 a0_1 a0_2 l0_3 a0_4 a0_5 a0_6 a0_7 a0_8 a0_9 a0_10 a0_11 a0_12 0 0))) else (if a0_4 > 2 then (if (!(a0_5 == 0) || (!(a0_6 == 0))) = true then ((topiaryref05_ahead.f a0_5 a0_6 a0_0 a0_1).bind fun t320 => (topiaryref05_placed.j0 k (!t320) a0_0 a0_1 a0_2 l0_3 a0_4 a0_5 a0_6 a0_7 a0_8 a0_9 a0_10 a0_11 a0_12 0 0)) else (topiaryref05_placed.j0 k false a0_0 a0_1 a0_2 l0_3 a0_4 a0_5 a0_6 a0_7 a0_8 a0_9 a0_10 a0_11 a0_12 0 0)) else (topiaryref05_placed.j0 k false a0_0 a0_1 a0_2 l0_3 a0_4 a0_5 a0_6 a0_7 a0_8 a0_9 a0_10 a0_11 a0_12 0 0)))) else (if a0_4 = 2 then ((topiaryref05_ahead.f a0_5 a0_6 a0_0 a0_1).bind fun t321 => (if t321 = true then (if a0_4 > 2 then (if (!(a0_5 == 0) || (!(a0_6 == 0))) = true then ((topiaryref05_ahead.f a0_5 a0_6 a0_0 a0_1).bind fun t322 => (topiaryref05_placed.j0 k (!t322) a0_0 a0_1 a0_2 l0_3 a0_4 a0_5 a0_6 a0_7 a0_8 a0_9 a0_10 a0_11 a0_12 0 0)) else (topiaryref05_placed.j0 k false a0_0 a0_1 a0_2 l0_3 a0_4 a0_5 a0_6 a0_7 a0_8 a0_9 a0_10 a0_11 a0_12 0 0)) else (topiaryref05_placed.j0 k false a0_0 a0_1 a0_2 l0_3 a0_4 a0_5 a0_6 a0_7 a0_8 a0_9 a0_10 a0_11 a0_12 0 0)) else (topiaryref05_placed.j0 k true a0_0 a0_1 a0_2 l0_3 a0_4 a0_5 a0_6 a0_7 a0_8 a0_9 a0_10 a0_11 a0_12 0 0))) else (if a0_4 > 2 then (if (!(a0_5 == 0) || (!(a0_6 == 0))) = true then ((topiaryref05_ahead.f a0_5 a0_6 a0_0 a0_1).bind fun t323 => (topiaryref05_placed.j0 k (!t323) a0_0 a0_1 a0_2 l0_3 a0_4 a0_5 a0_6 a0_7 a0_8 a0_9 a0_10 a0_11 a0_12 0 0)) else (topiaryref05_placed.j0 k false a0_0 a0_1 a0_2 l0_3 a0_4 a0_5 a0_6 a0_7 a0_8 a0_9 a0_10 a0_11 a0_12 0 0)) else (topiaryref05_placed.j0 k false a0_0 a0_1 a0_2 l0_3 a0_4 a0_5 a0_6 a0_7 a0_8 a0_9 a0_10 a0_11 a0_12 0 0)))) = some r := h
 clear h
 have HC2 := Aside0.mk H
 clear H
 go_enter Tryz.func34, Tryz.ntmps34
 go_upto_region 2 with (first | ((with_reducible refine gate_dst (N := 1) rfl ?_); refine box_event ?hg (N := 1) ?hd (cs := #[.int .i64 a0_0, .int .i64 a0_1, .int .i64 a0_2, .slice A0_3 l0_3.length c0_3, .int .i64 a0_4, .int .i64 a0_5, .int .i64 a0_6, .int .i64 a0_7, .int .i64 a0_8, .int .i64 a0_9, .int .i64 a0_10, .string a0_11, .string a0_12]) (t := 26) ?hr ?_; (case hd => rfl); (case hg => rfl); (case hr => first | (go_simp; done) | (go_simp; rfl)); intro gb316 hg w3 hbox hb; have BK316 := Aside0.mk (hbox); have GW316 := Aside0.mk ((zq10_ : w.heap.size ≤ gb316)); have GE316 := Aside0.mk ((zq10_ : w.heap.size ≤ gb316)); replace HB := Aside0.mk (below_step zq0_ hb); clear hb hbox hg) | ((with_reducible refine gate_dst (N := 3) rfl ?_); refine box_event ?hg (N := 3) ?hd (cs := #[.int .i64 0, .int .i64 0]) (t := 23) ?hr ?_; (case hd => rfl); (case hg => rfl); (case hr => first | (go_simp; done) | (go_simp; rfl)); intro gb317 hg w4 hbox hb; have BK317 := Aside0.mk (hbox); have GW317 := Aside0.mk (((by rw [hg]; exact (below_size (zqB1_ GE316.out))) : w.heap.size ≤ gb317)); have GE317 := Aside0.mk (((by rw [hg]; exact (below_size (zqB1_ GE316.out))) : w.heap.size ≤ gb317)); replace HB := Aside0.mk (below_step (zqB1_ GE316.out) hb); have NB316_317 := Aside0.mk (((by rw [hg]; exact Nat.ne_of_lt (blk_lt (zqK_ BK316.out))) : gb316 ≠ gb317)); have NB317_316 := Aside0.mk (((by rw [hg]; exact Nat.ne_of_gt (blk_lt (zqK_ BK316.out))) : gb317 ≠ gb316)); replace BK316 := Aside0.mk (blk_below (zqK_ BK316.out) hb); clear hb hbox hg; have hnb5 := NB317_316.out; have hnc5 := NB316_317.out; obtain ⟨hcz6_0, hfz6_0, hcz6_1, hfz6_1⟩ := zqC2_ BK317.out))
 (try simp only [Act.put, List.setIfInBounds_toArray, List.set_cons_zero, List.set_cons_succ])
 go_cut [47] (fun v47 wc => ∃ (kq : Nat) (x47_1 : Bool), v47 = .bool x47_1 ∧ Aside0 (topiaryref05_placed.j0 kq x47_1 a0_0 a0_1 a0_2 l0_3 a0_4 a0_5 a0_6 a0_7 a0_8 a0_9 a0_10 a0_11 a0_12 0 0 = some r) ∧ Aside0 (kq ≤ k) ∧ Aside0 (wc.heap[gb316]? = some (.cells #[.int .i64 a0_0, .int .i64 a0_1, .int .i64 a0_2, (.slice A0_3 l0_3.length c0_3), .int .i64 a0_4, .int .i64 a0_5, .int .i64 a0_6, .int .i64 a0_7, .int .i64 a0_8, .int .i64 a0_9, .int .i64 a0_10, .string a0_11, .string a0_12] 26 (0, 0))) ∧ Aside0 (wc.heap[gb317]? = some (.cells #[.int .i64 0, .int .i64 0] 23 (0, 0))) ∧ Aside0 (Below w.heap.size w wc))
 case first =>
  have H := HC2.out
  clear HC2
  by_cases c7 : a0_4 = 1
  ·rw [if_pos c7] at H
   have c7b0 : (a0_4 == 1) = true := beq_iff_eq.mpr c7
   have c7b1 : (a0_4 != 1) = false := bne_eq_false_iff_eq.mpr c7
   clear c7
   (first | rw [c7b0] | (simp only [i64_w, i32_w]; rw [c7b0]) | skip)
   by_cases c8 : (!(a0_5 == a0_0) || (!(a0_6 == a0_1))) = true
   ·rw [if_pos c8] at H
    have c8b0 : (!(a0_5 == a0_0) || (!(a0_6 == a0_1))) = true := c8
    clear c8
    have H' := Aside0.mk H
    clear H
    have hnb9 := NB316_317.out
    have hnc9 := NB317_316.out
    obtain ⟨hcz10_0, hfz10_0, hcz10_1, hfz10_1, hcz10_2, hfz10_2, hcz10_3, hfz10_3, hcz10_4, hfz10_4, hcz10_5, hfz10_5, hcz10_6, hfz10_6, hcz10_7, hfz10_7, hcz10_8, hfz10_8, hcz10_9, hfz10_9, hcz10_10, hfz10_10, hcz10_11, hfz10_11, hcz10_12, hfz10_12⟩ := zqC13_ BK316.out
    go_wp2
    go_meet
    case rel => exact ⟨_, (true), zq5_, H', ⟨by first | omega | exact Nat.le_refl _⟩, ⟨by (with_reducible repeat (first | refine blk_drewN ?_ _ | refine blk_drew ?_ | refine blk_alloc ?_ _)); refine blk_far ?_ NB316_317.out _; (with_reducible repeat (first | refine blk_drewN ?_ _ | refine blk_drew ?_ | refine blk_alloc ?_ _)); refine blk_far ?_ NB316_317.out _; (with_reducible repeat (first | refine blk_drewN ?_ _ | refine blk_drew ?_ | refine blk_alloc ?_ _)); exact BK316.out⟩, ⟨by (with_reducible repeat (first | refine blk_drewN ?_ _ | refine blk_drew ?_ | refine blk_alloc ?_ _)); refine blk_put (cs := #[.int .i64 0, .int .i64 0]) ?_ 1 _ rfl; (with_reducible repeat (first | refine blk_drewN ?_ _ | refine blk_drew ?_ | refine blk_alloc ?_ _)); refine blk_put (cs := #[.int .i64 0, .int .i64 0]) ?_ 0 _ rfl; (with_reducible repeat (first | refine blk_drewN ?_ _ | refine blk_drew ?_ | refine blk_alloc ?_ _)); exact BK317.out⟩, ⟨by repeat (first | (with_reducible first | exact HB.out | apply below_alloc | apply pw_below_drewN | apply below_drew1 | refine below_set ?_ GE316.out | refine below_set ?_ GE317.out) | exact HB.out)⟩⟩
   ·rw [if_neg c8] at H
    have c8b0 : (!(a0_5 == a0_0) || (!(a0_6 == a0_1))) = false := by simpa using c8
    clear c8
    by_cases c11 : a0_4 = 2
    ·rw [if_pos c11] at H
     have c11b0 : (a0_4 == 2) = true := beq_iff_eq.mpr c11
     have c11b1 : (a0_4 != 2) = false := bne_eq_false_iff_eq.mpr c11
     clear c11
     replace H := Option.bind_eq_some_iff.mp H
     obtain ⟨t318, A120, H⟩ := H
     have A12 := Aside0.mk A120
     clear A120
     by_cases c13 : t318 = true
     ·subst c13
      have H1 : (if a0_4 > 2 then (if (!(a0_5 == 0) || (!(a0_6 == 0))) = true then ((topiaryref05_ahead.f a0_5 a0_6 a0_0 a0_1).bind fun t319 => (topiaryref05_placed.j0 k (!t319) a0_0 a0_1 a0_2 l0_3 a0_4 a0_5 a0_6 a0_7 a0_8 a0_9 a0_10 a0_11 a0_12 0 0)) else (topiaryref05_placed.j0 k false a0_0 a0_1 a0_2 l0_3 a0_4 a0_5 a0_6 a0_7 a0_8 a0_9 a0_10 a0_11 a0_12 0 0)) else (topiaryref05_placed.j0 k false a0_0 a0_1 a0_2 l0_3 a0_4 a0_5 a0_6 a0_7 a0_8 a0_9 a0_10 a0_11 a0_12 0 0)) = some r := by rw [if_pos rfl] at H; exact H
      clear H
      have H := H1
      clear H1
      by_cases c14 : a0_4 > 2
      ·rw [if_pos c14] at H
       have c14b0 : decide (2 < a0_4) = true := decide_eq_true c14
       clear c14
       by_cases c15 : (!(a0_5 == 0) || (!(a0_6 == 0))) = true
       ·rw [if_pos c15] at H
        have c15b0 : (!(a0_5 == 0) || (!(a0_6 == 0))) = true := c15
        clear c15
        replace H := Option.bind_eq_some_iff.mp H
        obtain ⟨t319, A160, H⟩ := H
        have A16 := Aside0.mk A160
        clear A160
        have H' := Aside0.mk H
        clear H
        have hnb17 := NB316_317.out
        have hnc17 := NB317_316.out
        obtain ⟨hcz18_0, hfz18_0, hcz18_1, hfz18_1, hcz18_2, hfz18_2, hcz18_3, hfz18_3, hcz18_4, hfz18_4, hcz18_5, hfz18_5, hcz18_6, hfz18_6, hcz18_7, hfz18_7, hcz18_8, hfz18_8, hcz18_9, hfz18_9, hcz18_10, hfz18_10, hcz18_11, hfz18_11, hcz18_12, hfz18_12⟩ := zqC13_ BK316.out
        go_wp2_with (first | (go_at_call 65; (with_reducible refine (topiaryref05_ahead.calls a0_5 a0_6 a0_0 a0_1 true _ A12.out).mono ?_); rintro e w19 ⟨rfl, hb⟩; replace BK316 := Aside0.mk (blk_below (g := gb316) (o := .cells #[.int .i64 a0_0, .int .i64 a0_1, .int .i64 a0_2, .slice A0_3 l0_3.length c0_3, .int .i64 a0_4, .int .i64 a0_5, .int .i64 a0_6, .int .i64 a0_7, .int .i64 a0_8, .int .i64 a0_9, .int .i64 a0_10, .string a0_11, .string a0_12] 26 (0, 0)) zq9_ hb); replace BK317 := Aside0.mk (blk_below (g := gb317) (o := .cells #[.int .i64 0, .int .i64 0] 23 (0, 0)) zq6_ hb); replace HB := Aside0.mk (below_step (zqB2_ GE316.out GE317.out) hb); (try clear hb); (try clear hb2); (try clear hk); (try clear hi); obtain ⟨hcz20_0, hfz20_0, hcz20_1, hfz20_1, hcz20_2, hfz20_2, hcz20_3, hfz20_3, hcz20_4, hfz20_4, hcz20_5, hfz20_5, hcz20_6, hfz20_6, hcz20_7, hfz20_7, hcz20_8, hfz20_8, hcz20_9, hfz20_9, hcz20_10, hfz20_10, hcz20_11, hfz20_11, hcz20_12, hfz20_12⟩ := zqC13_ BK316.out; obtain ⟨hcz21_0, hfz21_0, hcz21_1, hfz21_1⟩ := zqC2_ BK317.out) | (go_at_call 65; (with_reducible refine (topiaryref05_ahead.calls a0_5 a0_6 a0_0 a0_1 t319 _ A16.out).mono ?_); rintro e w22 ⟨rfl, hb⟩; replace BK316 := Aside0.mk (blk_below (zqK_ BK316.out) hb); replace BK317 := Aside0.mk (blk_below (zqK_ BK317.out) hb); replace HB := Aside0.mk (below_step (zqB2_ GE316.out GE317.out) hb); (try clear hb); (try clear hb2); (try clear hk); (try clear hi)))
        go_meet
        case rel => exact ⟨_, (!t319), zq5_, H', ⟨by first | omega | exact Nat.le_refl _⟩, ⟨by (with_reducible repeat (first | refine blk_drewN ?_ _ | refine blk_drew ?_ | refine blk_alloc ?_ _)); exact BK316.out⟩, ⟨by (with_reducible repeat (first | refine blk_drewN ?_ _ | refine blk_drew ?_ | refine blk_alloc ?_ _)); exact BK317.out⟩, ⟨by repeat (first | (with_reducible first | exact HB.out | apply below_alloc | apply pw_below_drewN | apply below_drew1 | refine below_set ?_ GE316.out | refine below_set ?_ GE317.out) | exact HB.out)⟩⟩
       ·rw [if_neg c15] at H
        have c15b0 : (!(a0_5 == 0) || (!(a0_6 == 0))) = false := by simpa using c15
        clear c15
        have H' := Aside0.mk H
        clear H
        have hnb23 := NB316_317.out
        have hnc23 := NB317_316.out
        obtain ⟨hcz24_0, hfz24_0, hcz24_1, hfz24_1, hcz24_2, hfz24_2, hcz24_3, hfz24_3, hcz24_4, hfz24_4, hcz24_5, hfz24_5, hcz24_6, hfz24_6, hcz24_7, hfz24_7, hcz24_8, hfz24_8, hcz24_9, hfz24_9, hcz24_10, hfz24_10, hcz24_11, hfz24_11, hcz24_12, hfz24_12⟩ := zqC13_ BK316.out
        go_wp2_with (first | (go_at_call 65; (with_reducible refine (topiaryref05_ahead.calls a0_5 a0_6 a0_0 a0_1 true _ A12.out).mono ?_); rintro e w25 ⟨rfl, hb⟩; replace BK316 := Aside0.mk (blk_below (g := gb316) (o := .cells #[.int .i64 a0_0, .int .i64 a0_1, .int .i64 a0_2, .slice A0_3 l0_3.length c0_3, .int .i64 a0_4, .int .i64 a0_5, .int .i64 a0_6, .int .i64 a0_7, .int .i64 a0_8, .int .i64 a0_9, .int .i64 a0_10, .string a0_11, .string a0_12] 26 (0, 0)) zq9_ hb); replace BK317 := Aside0.mk (blk_below (g := gb317) (o := .cells #[.int .i64 0, .int .i64 0] 23 (0, 0)) zq6_ hb); replace HB := Aside0.mk (below_step (zqB2_ GE316.out GE317.out) hb); (try clear hb); (try clear hb2); (try clear hk); (try clear hi); obtain ⟨hcz26_0, hfz26_0, hcz26_1, hfz26_1, hcz26_2, hfz26_2, hcz26_3, hfz26_3, hcz26_4, hfz26_4, hcz26_5, hfz26_5, hcz26_6, hfz26_6, hcz26_7, hfz26_7, hcz26_8, hfz26_8, hcz26_9, hfz26_9, hcz26_10, hfz26_10, hcz26_11, hfz26_11, hcz26_12, hfz26_12⟩ := zqC13_ BK316.out; obtain ⟨hcz27_0, hfz27_0, hcz27_1, hfz27_1⟩ := zqC2_ BK317.out))
        go_meet
        case rel => exact ⟨_, (false), zq5_, H', ⟨by first | omega | exact Nat.le_refl _⟩, ⟨by (with_reducible repeat (first | refine blk_drewN ?_ _ | refine blk_drew ?_ | refine blk_alloc ?_ _)); exact BK316.out⟩, ⟨by (with_reducible repeat (first | refine blk_drewN ?_ _ | refine blk_drew ?_ | refine blk_alloc ?_ _)); exact BK317.out⟩, ⟨by repeat (first | (with_reducible first | exact HB.out | apply below_alloc | apply pw_below_drewN | apply below_drew1 | refine below_set ?_ GE316.out | refine below_set ?_ GE317.out) | exact HB.out)⟩⟩
      ·rw [if_neg c14] at H
       have c14b0 : decide (2 < a0_4) = false := decide_eq_false c14
       clear c14
       have H' := Aside0.mk H
       clear H
       have hnb28 := NB316_317.out
       have hnc28 := NB317_316.out
       obtain ⟨hcz29_0, hfz29_0, hcz29_1, hfz29_1, hcz29_2, hfz29_2, hcz29_3, hfz29_3, hcz29_4, hfz29_4, hcz29_5, hfz29_5, hcz29_6, hfz29_6, hcz29_7, hfz29_7, hcz29_8, hfz29_8, hcz29_9, hfz29_9, hcz29_10, hfz29_10, hcz29_11, hfz29_11, hcz29_12, hfz29_12⟩ := zqC13_ BK316.out
       go_wp2_with (first | (go_at_call 65; (with_reducible refine (topiaryref05_ahead.calls a0_5 a0_6 a0_0 a0_1 true _ A12.out).mono ?_); rintro e w30 ⟨rfl, hb⟩; replace BK316 := Aside0.mk (blk_below (g := gb316) (o := .cells #[.int .i64 a0_0, .int .i64 a0_1, .int .i64 a0_2, .slice A0_3 l0_3.length c0_3, .int .i64 a0_4, .int .i64 a0_5, .int .i64 a0_6, .int .i64 a0_7, .int .i64 a0_8, .int .i64 a0_9, .int .i64 a0_10, .string a0_11, .string a0_12] 26 (0, 0)) zq9_ hb); replace BK317 := Aside0.mk (blk_below (g := gb317) (o := .cells #[.int .i64 0, .int .i64 0] 23 (0, 0)) zq6_ hb); replace HB := Aside0.mk (below_step (zqB2_ GE316.out GE317.out) hb); (try clear hb); (try clear hb2); (try clear hk); (try clear hi); obtain ⟨hcz31_0, hfz31_0, hcz31_1, hfz31_1, hcz31_2, hfz31_2, hcz31_3, hfz31_3, hcz31_4, hfz31_4, hcz31_5, hfz31_5, hcz31_6, hfz31_6, hcz31_7, hfz31_7, hcz31_8, hfz31_8, hcz31_9, hfz31_9, hcz31_10, hfz31_10, hcz31_11, hfz31_11, hcz31_12, hfz31_12⟩ := zqC13_ BK316.out))
       go_meet
       case rel => exact ⟨_, (false), zq5_, H', ⟨by first | omega | exact Nat.le_refl _⟩, ⟨by (with_reducible repeat (first | refine blk_drewN ?_ _ | refine blk_drew ?_ | refine blk_alloc ?_ _)); exact BK316.out⟩, ⟨by (with_reducible repeat (first | refine blk_drewN ?_ _ | refine blk_drew ?_ | refine blk_alloc ?_ _)); exact BK317.out⟩, ⟨by repeat (first | (with_reducible first | exact HB.out | apply below_alloc | apply pw_below_drewN | apply below_drew1 | refine below_set ?_ GE316.out | refine below_set ?_ GE317.out) | exact HB.out)⟩⟩
     ·replace c13 := Bool.eq_false_iff.mpr c13
      subst c13
      have H1 : (topiaryref05_placed.j0 k true a0_0 a0_1 a0_2 l0_3 a0_4 a0_5 a0_6 a0_7 a0_8 a0_9 a0_10 a0_11 a0_12 0 0) = some r := by rw [if_neg (show ¬ (false = true) by decide)] at H; exact H
      clear H
      have H := H1
      clear H1
      have H' := Aside0.mk H
      clear H
      have hnb32 := NB316_317.out
      have hnc32 := NB317_316.out
      obtain ⟨hcz33_0, hfz33_0, hcz33_1, hfz33_1, hcz33_2, hfz33_2, hcz33_3, hfz33_3, hcz33_4, hfz33_4, hcz33_5, hfz33_5, hcz33_6, hfz33_6, hcz33_7, hfz33_7, hcz33_8, hfz33_8, hcz33_9, hfz33_9, hcz33_10, hfz33_10, hcz33_11, hfz33_11, hcz33_12, hfz33_12⟩ := zqC13_ BK316.out
      go_wp2_with (first | (go_at_call 65; (with_reducible refine (topiaryref05_ahead.calls a0_5 a0_6 a0_0 a0_1 false _ A12.out).mono ?_); rintro e w34 ⟨rfl, hb⟩; replace BK316 := Aside0.mk (blk_below (g := gb316) (o := .cells #[.int .i64 a0_0, .int .i64 a0_1, .int .i64 a0_2, .slice A0_3 l0_3.length c0_3, .int .i64 a0_4, .int .i64 a0_5, .int .i64 a0_6, .int .i64 a0_7, .int .i64 a0_8, .int .i64 a0_9, .int .i64 a0_10, .string a0_11, .string a0_12] 26 (0, 0)) zq9_ hb); replace BK317 := Aside0.mk (blk_below (g := gb317) (o := .cells #[.int .i64 0, .int .i64 0] 23 (0, 0)) zq6_ hb); replace HB := Aside0.mk (below_step (zqB2_ GE316.out GE317.out) hb); (try clear hb); (try clear hb2); (try clear hk); (try clear hi)))
      go_meet
      case rel => exact ⟨_, (true), zq5_, H', ⟨by first | omega | exact Nat.le_refl _⟩, ⟨by (with_reducible repeat (first | refine blk_drewN ?_ _ | refine blk_drew ?_ | refine blk_alloc ?_ _)); exact BK316.out⟩, ⟨by (with_reducible repeat (first | refine blk_drewN ?_ _ | refine blk_drew ?_ | refine blk_alloc ?_ _)); exact BK317.out⟩, ⟨by repeat (first | (with_reducible first | exact HB.out | apply below_alloc | apply pw_below_drewN | apply below_drew1 | refine below_set ?_ GE316.out | refine below_set ?_ GE317.out) | exact HB.out)⟩⟩
    ·rw [if_neg c11] at H
     have c11b0 : (a0_4 == 2) = false := beq_eq_false_iff_ne.mpr c11
     have c11b1 : (a0_4 != 2) = true := bne_iff_ne.mpr c11
     by_cases c35 : a0_4 > 2
     ·rw [if_pos c35] at H
      have c35b0 : decide (2 < a0_4) = true := decide_eq_true c35
      clear c35
      by_cases c36 : (!(a0_5 == 0) || (!(a0_6 == 0))) = true
      ·rw [if_pos c36] at H
       have c36b0 : (!(a0_5 == 0) || (!(a0_6 == 0))) = true := c36
       clear c36
       replace H := Option.bind_eq_some_iff.mp H
       obtain ⟨t320, A370, H⟩ := H
       have A37 := Aside0.mk A370
       clear A370
       have H' := Aside0.mk H
       clear H
       have hnb38 := NB316_317.out
       have hnc38 := NB317_316.out
       obtain ⟨hcz39_0, hfz39_0, hcz39_1, hfz39_1, hcz39_2, hfz39_2, hcz39_3, hfz39_3, hcz39_4, hfz39_4, hcz39_5, hfz39_5, hcz39_6, hfz39_6, hcz39_7, hfz39_7, hcz39_8, hfz39_8, hcz39_9, hfz39_9, hcz39_10, hfz39_10, hcz39_11, hfz39_11, hcz39_12, hfz39_12⟩ := zqC13_ BK316.out
       obtain ⟨hcz40_0, hfz40_0, hcz40_1, hfz40_1⟩ := zqC2_ BK317.out
       go_wp2_with (first | (go_at_call 65; (with_reducible refine (topiaryref05_ahead.calls a0_5 a0_6 a0_0 a0_1 t320 _ A37.out).mono ?_); rintro e w41 ⟨rfl, hb⟩; replace BK316 := Aside0.mk (blk_below (g := gb316) (o := .cells #[.int .i64 a0_0, .int .i64 a0_1, .int .i64 a0_2, .slice A0_3 l0_3.length c0_3, .int .i64 a0_4, .int .i64 a0_5, .int .i64 a0_6, .int .i64 a0_7, .int .i64 a0_8, .int .i64 a0_9, .int .i64 a0_10, .string a0_11, .string a0_12] 26 (0, 0)) zq9_ hb); replace BK317 := Aside0.mk (blk_below (g := gb317) (o := .cells #[.int .i64 0, .int .i64 0] 23 (0, 0)) zq6_ hb); replace HB := Aside0.mk (below_step (zqB2_ GE316.out GE317.out) hb); (try clear hb); (try clear hb2); (try clear hk); (try clear hi)))
       go_meet
       case rel => exact ⟨_, (!t320), zq5_, H', ⟨by first | omega | exact Nat.le_refl _⟩, ⟨by (with_reducible repeat (first | refine blk_drewN ?_ _ | refine blk_drew ?_ | refine blk_alloc ?_ _)); exact BK316.out⟩, ⟨by (with_reducible repeat (first | refine blk_drewN ?_ _ | refine blk_drew ?_ | refine blk_alloc ?_ _)); exact BK317.out⟩, ⟨by repeat (first | (with_reducible first | exact HB.out | apply below_alloc | apply pw_below_drewN | apply below_drew1 | refine below_set ?_ GE316.out | refine below_set ?_ GE317.out) | exact HB.out)⟩⟩
      ·rw [if_neg c36] at H
       have c36b0 : (!(a0_5 == 0) || (!(a0_6 == 0))) = false := by simpa using c36
       clear c36
       have H' := Aside0.mk H
       clear H
       have hnb42 := NB316_317.out
       have hnc42 := NB317_316.out
       obtain ⟨hcz43_0, hfz43_0, hcz43_1, hfz43_1, hcz43_2, hfz43_2, hcz43_3, hfz43_3, hcz43_4, hfz43_4, hcz43_5, hfz43_5, hcz43_6, hfz43_6, hcz43_7, hfz43_7, hcz43_8, hfz43_8, hcz43_9, hfz43_9, hcz43_10, hfz43_10, hcz43_11, hfz43_11, hcz43_12, hfz43_12⟩ := zqC13_ BK316.out
       obtain ⟨hcz44_0, hfz44_0, hcz44_1, hfz44_1⟩ := zqC2_ BK317.out
       go_wp2
       go_meet
       case rel => exact ⟨_, (false), zq5_, H', ⟨by first | omega | exact Nat.le_refl _⟩, ⟨by (with_reducible repeat (first | refine blk_drewN ?_ _ | refine blk_drew ?_ | refine blk_alloc ?_ _)); refine blk_far ?_ NB316_317.out _; (with_reducible repeat (first | refine blk_drewN ?_ _ | refine blk_drew ?_ | refine blk_alloc ?_ _)); refine blk_far ?_ NB316_317.out _; (with_reducible repeat (first | refine blk_drewN ?_ _ | refine blk_drew ?_ | refine blk_alloc ?_ _)); exact BK316.out⟩, ⟨by (with_reducible repeat (first | refine blk_drewN ?_ _ | refine blk_drew ?_ | refine blk_alloc ?_ _)); refine blk_put (cs := #[.int .i64 0, .int .i64 0]) ?_ 1 _ rfl; (with_reducible repeat (first | refine blk_drewN ?_ _ | refine blk_drew ?_ | refine blk_alloc ?_ _)); refine blk_put (cs := #[.int .i64 0, .int .i64 0]) ?_ 0 _ rfl; (with_reducible repeat (first | refine blk_drewN ?_ _ | refine blk_drew ?_ | refine blk_alloc ?_ _)); exact BK317.out⟩, ⟨by repeat (first | (with_reducible first | exact HB.out | apply below_alloc | apply pw_below_drewN | apply below_drew1 | refine below_set ?_ GE316.out | refine below_set ?_ GE317.out) | exact HB.out)⟩⟩
     ·rw [if_neg c35] at H
      have c35b0 : decide (2 < a0_4) = false := decide_eq_false c35
      clear c35
      have H' := Aside0.mk H
      clear H
      have hnb45 := NB316_317.out
      have hnc45 := NB317_316.out
      obtain ⟨hcz46_0, hfz46_0, hcz46_1, hfz46_1, hcz46_2, hfz46_2, hcz46_3, hfz46_3, hcz46_4, hfz46_4, hcz46_5, hfz46_5, hcz46_6, hfz46_6, hcz46_7, hfz46_7, hcz46_8, hfz46_8, hcz46_9, hfz46_9, hcz46_10, hfz46_10, hcz46_11, hfz46_11, hcz46_12, hfz46_12⟩ := zqC13_ BK316.out
      go_wp2
      go_meet
      case rel => exact ⟨_, (false), zq5_, H', ⟨by first | omega | exact Nat.le_refl _⟩, ⟨by (with_reducible repeat (first | refine blk_drewN ?_ _ | refine blk_drew ?_ | refine blk_alloc ?_ _)); refine blk_far ?_ NB316_317.out _; (with_reducible repeat (first | refine blk_drewN ?_ _ | refine blk_drew ?_ | refine blk_alloc ?_ _)); refine blk_far ?_ NB316_317.out _; (with_reducible repeat (first | refine blk_drewN ?_ _ | refine blk_drew ?_ | refine blk_alloc ?_ _)); exact BK316.out⟩, ⟨by (with_reducible repeat (first | refine blk_drewN ?_ _ | refine blk_drew ?_ | refine blk_alloc ?_ _)); refine blk_put (cs := #[.int .i64 0, .int .i64 0]) ?_ 1 _ rfl; (with_reducible repeat (first | refine blk_drewN ?_ _ | refine blk_drew ?_ | refine blk_alloc ?_ _)); refine blk_put (cs := #[.int .i64 0, .int .i64 0]) ?_ 0 _ rfl; (with_reducible repeat (first | refine blk_drewN ?_ _ | refine blk_drew ?_ | refine blk_alloc ?_ _)); exact BK317.out⟩, ⟨by repeat (first | (with_reducible first | exact HB.out | apply below_alloc | apply pw_below_drewN | apply below_drew1 | refine below_set ?_ GE316.out | refine below_set ?_ GE317.out) | exact HB.out)⟩⟩
  ·rw [if_neg c7] at H
   have c7b0 : (a0_4 == 1) = false := beq_eq_false_iff_ne.mpr c7
   have c7b1 : (a0_4 != 1) = true := bne_iff_ne.mpr c7
   (first | rw [c7b0] | (simp only [i64_w, i32_w]; rw [c7b0]) | skip)
   by_cases c47 : a0_4 = 2
   ·rw [if_pos c47] at H
    have c47b0 : (a0_4 == 2) = true := beq_iff_eq.mpr c47
    have c47b1 : (a0_4 != 2) = false := bne_eq_false_iff_eq.mpr c47
    clear c47
    replace H := Option.bind_eq_some_iff.mp H
    obtain ⟨t321, A480, H⟩ := H
    have A48 := Aside0.mk A480
    clear A480
    by_cases c49 : t321 = true
    ·subst c49
     have H1 : (if a0_4 > 2 then (if (!(a0_5 == 0) || (!(a0_6 == 0))) = true then ((topiaryref05_ahead.f a0_5 a0_6 a0_0 a0_1).bind fun t322 => (topiaryref05_placed.j0 k (!t322) a0_0 a0_1 a0_2 l0_3 a0_4 a0_5 a0_6 a0_7 a0_8 a0_9 a0_10 a0_11 a0_12 0 0)) else (topiaryref05_placed.j0 k false a0_0 a0_1 a0_2 l0_3 a0_4 a0_5 a0_6 a0_7 a0_8 a0_9 a0_10 a0_11 a0_12 0 0)) else (topiaryref05_placed.j0 k false a0_0 a0_1 a0_2 l0_3 a0_4 a0_5 a0_6 a0_7 a0_8 a0_9 a0_10 a0_11 a0_12 0 0)) = some r := by rw [if_pos rfl] at H; exact H
     clear H
     have H := H1
     clear H1
     by_cases c50 : a0_4 > 2
     ·rw [if_pos c50] at H
      have c50b0 : decide (2 < a0_4) = true := decide_eq_true c50
      clear c50
      by_cases c51 : (!(a0_5 == 0) || (!(a0_6 == 0))) = true
      ·rw [if_pos c51] at H
       have c51b0 : (!(a0_5 == 0) || (!(a0_6 == 0))) = true := c51
       clear c51
       replace H := Option.bind_eq_some_iff.mp H
       obtain ⟨t322, A520, H⟩ := H
       have A52 := Aside0.mk A520
       clear A520
       have H' := Aside0.mk H
       clear H
       have hnb53 := NB316_317.out
       have hnc53 := NB317_316.out
       obtain ⟨hcz54_0, hfz54_0, hcz54_1, hfz54_1, hcz54_2, hfz54_2, hcz54_3, hfz54_3, hcz54_4, hfz54_4, hcz54_5, hfz54_5, hcz54_6, hfz54_6, hcz54_7, hfz54_7, hcz54_8, hfz54_8, hcz54_9, hfz54_9, hcz54_10, hfz54_10, hcz54_11, hfz54_11, hcz54_12, hfz54_12⟩ := zqC13_ BK316.out
       go_wp2_with (first | (go_at_call 65; (with_reducible refine (topiaryref05_ahead.calls a0_5 a0_6 a0_0 a0_1 true _ A48.out).mono ?_); rintro e w55 ⟨rfl, hb⟩; replace BK316 := Aside0.mk (blk_below (g := gb316) (o := .cells #[.int .i64 a0_0, .int .i64 a0_1, .int .i64 a0_2, .slice A0_3 l0_3.length c0_3, .int .i64 a0_4, .int .i64 a0_5, .int .i64 a0_6, .int .i64 a0_7, .int .i64 a0_8, .int .i64 a0_9, .int .i64 a0_10, .string a0_11, .string a0_12] 26 (0, 0)) zq9_ hb); replace BK317 := Aside0.mk (blk_below (g := gb317) (o := .cells #[.int .i64 0, .int .i64 0] 23 (0, 0)) zq6_ hb); replace HB := Aside0.mk (below_step (zqB2_ GE316.out GE317.out) hb); (try clear hb); (try clear hb2); (try clear hk); (try clear hi); obtain ⟨hcz56_0, hfz56_0, hcz56_1, hfz56_1, hcz56_2, hfz56_2, hcz56_3, hfz56_3, hcz56_4, hfz56_4, hcz56_5, hfz56_5, hcz56_6, hfz56_6, hcz56_7, hfz56_7, hcz56_8, hfz56_8, hcz56_9, hfz56_9, hcz56_10, hfz56_10, hcz56_11, hfz56_11, hcz56_12, hfz56_12⟩ := zqC13_ BK316.out; obtain ⟨hcz57_0, hfz57_0, hcz57_1, hfz57_1⟩ := zqC2_ BK317.out) | (go_at_call 65; (with_reducible refine (topiaryref05_ahead.calls a0_5 a0_6 a0_0 a0_1 t322 _ A52.out).mono ?_); rintro e w58 ⟨rfl, hb⟩; replace BK316 := Aside0.mk (blk_below (zqK_ BK316.out) hb); replace BK317 := Aside0.mk (blk_below (zqK_ BK317.out) hb); replace HB := Aside0.mk (below_step (zqB2_ GE316.out GE317.out) hb); (try clear hb); (try clear hb2); (try clear hk); (try clear hi)))
       go_meet
       case rel => exact ⟨_, (!t322), zq5_, H', ⟨by first | omega | exact Nat.le_refl _⟩, ⟨by (with_reducible repeat (first | refine blk_drewN ?_ _ | refine blk_drew ?_ | refine blk_alloc ?_ _)); exact BK316.out⟩, ⟨by (with_reducible repeat (first | refine blk_drewN ?_ _ | refine blk_drew ?_ | refine blk_alloc ?_ _)); exact BK317.out⟩, ⟨by repeat (first | (with_reducible first | exact HB.out | apply below_alloc | apply pw_below_drewN | apply below_drew1 | refine below_set ?_ GE316.out | refine below_set ?_ GE317.out) | exact HB.out)⟩⟩
      ·rw [if_neg c51] at H
       have c51b0 : (!(a0_5 == 0) || (!(a0_6 == 0))) = false := by simpa using c51
       clear c51
       have H' := Aside0.mk H
       clear H
       have hnb59 := NB316_317.out
       have hnc59 := NB317_316.out
       obtain ⟨hcz60_0, hfz60_0, hcz60_1, hfz60_1, hcz60_2, hfz60_2, hcz60_3, hfz60_3, hcz60_4, hfz60_4, hcz60_5, hfz60_5, hcz60_6, hfz60_6, hcz60_7, hfz60_7, hcz60_8, hfz60_8, hcz60_9, hfz60_9, hcz60_10, hfz60_10, hcz60_11, hfz60_11, hcz60_12, hfz60_12⟩ := zqC13_ BK316.out
       go_wp2_with (first | (go_at_call 65; (with_reducible refine (topiaryref05_ahead.calls a0_5 a0_6 a0_0 a0_1 true _ A48.out).mono ?_); rintro e w61 ⟨rfl, hb⟩; replace BK316 := Aside0.mk (blk_below (g := gb316) (o := .cells #[.int .i64 a0_0, .int .i64 a0_1, .int .i64 a0_2, .slice A0_3 l0_3.length c0_3, .int .i64 a0_4, .int .i64 a0_5, .int .i64 a0_6, .int .i64 a0_7, .int .i64 a0_8, .int .i64 a0_9, .int .i64 a0_10, .string a0_11, .string a0_12] 26 (0, 0)) zq9_ hb); replace BK317 := Aside0.mk (blk_below (g := gb317) (o := .cells #[.int .i64 0, .int .i64 0] 23 (0, 0)) zq6_ hb); replace HB := Aside0.mk (below_step (zqB2_ GE316.out GE317.out) hb); (try clear hb); (try clear hb2); (try clear hk); (try clear hi); obtain ⟨hcz62_0, hfz62_0, hcz62_1, hfz62_1, hcz62_2, hfz62_2, hcz62_3, hfz62_3, hcz62_4, hfz62_4, hcz62_5, hfz62_5, hcz62_6, hfz62_6, hcz62_7, hfz62_7, hcz62_8, hfz62_8, hcz62_9, hfz62_9, hcz62_10, hfz62_10, hcz62_11, hfz62_11, hcz62_12, hfz62_12⟩ := zqC13_ BK316.out; obtain ⟨hcz63_0, hfz63_0, hcz63_1, hfz63_1⟩ := zqC2_ BK317.out))
       go_meet
       case rel => exact ⟨_, (false), zq5_, H', ⟨by first | omega | exact Nat.le_refl _⟩, ⟨by (with_reducible repeat (first | refine blk_drewN ?_ _ | refine blk_drew ?_ | refine blk_alloc ?_ _)); exact BK316.out⟩, ⟨by (with_reducible repeat (first | refine blk_drewN ?_ _ | refine blk_drew ?_ | refine blk_alloc ?_ _)); exact BK317.out⟩, ⟨by repeat (first | (with_reducible first | exact HB.out | apply below_alloc | apply pw_below_drewN | apply below_drew1 | refine below_set ?_ GE316.out | refine below_set ?_ GE317.out) | exact HB.out)⟩⟩
     ·rw [if_neg c50] at H
      have c50b0 : decide (2 < a0_4) = false := decide_eq_false c50
      clear c50
      have H' := Aside0.mk H
      clear H
      have hnb64 := NB316_317.out
      have hnc64 := NB317_316.out
      obtain ⟨hcz65_0, hfz65_0, hcz65_1, hfz65_1, hcz65_2, hfz65_2, hcz65_3, hfz65_3, hcz65_4, hfz65_4, hcz65_5, hfz65_5, hcz65_6, hfz65_6, hcz65_7, hfz65_7, hcz65_8, hfz65_8, hcz65_9, hfz65_9, hcz65_10, hfz65_10, hcz65_11, hfz65_11, hcz65_12, hfz65_12⟩ := zqC13_ BK316.out
      go_wp2_with (first | (go_at_call 65; (with_reducible refine (topiaryref05_ahead.calls a0_5 a0_6 a0_0 a0_1 true _ A48.out).mono ?_); rintro e w66 ⟨rfl, hb⟩; replace BK316 := Aside0.mk (blk_below (g := gb316) (o := .cells #[.int .i64 a0_0, .int .i64 a0_1, .int .i64 a0_2, .slice A0_3 l0_3.length c0_3, .int .i64 a0_4, .int .i64 a0_5, .int .i64 a0_6, .int .i64 a0_7, .int .i64 a0_8, .int .i64 a0_9, .int .i64 a0_10, .string a0_11, .string a0_12] 26 (0, 0)) zq9_ hb); replace BK317 := Aside0.mk (blk_below (g := gb317) (o := .cells #[.int .i64 0, .int .i64 0] 23 (0, 0)) zq6_ hb); replace HB := Aside0.mk (below_step (zqB2_ GE316.out GE317.out) hb); (try clear hb); (try clear hb2); (try clear hk); (try clear hi); obtain ⟨hcz67_0, hfz67_0, hcz67_1, hfz67_1, hcz67_2, hfz67_2, hcz67_3, hfz67_3, hcz67_4, hfz67_4, hcz67_5, hfz67_5, hcz67_6, hfz67_6, hcz67_7, hfz67_7, hcz67_8, hfz67_8, hcz67_9, hfz67_9, hcz67_10, hfz67_10, hcz67_11, hfz67_11, hcz67_12, hfz67_12⟩ := zqC13_ BK316.out))
      go_meet
      case rel => exact ⟨_, (false), zq5_, H', ⟨by first | omega | exact Nat.le_refl _⟩, ⟨by (with_reducible repeat (first | refine blk_drewN ?_ _ | refine blk_drew ?_ | refine blk_alloc ?_ _)); exact BK316.out⟩, ⟨by (with_reducible repeat (first | refine blk_drewN ?_ _ | refine blk_drew ?_ | refine blk_alloc ?_ _)); exact BK317.out⟩, ⟨by repeat (first | (with_reducible first | exact HB.out | apply below_alloc | apply pw_below_drewN | apply below_drew1 | refine below_set ?_ GE316.out | refine below_set ?_ GE317.out) | exact HB.out)⟩⟩
    ·replace c49 := Bool.eq_false_iff.mpr c49
     subst c49
     have H1 : (topiaryref05_placed.j0 k true a0_0 a0_1 a0_2 l0_3 a0_4 a0_5 a0_6 a0_7 a0_8 a0_9 a0_10 a0_11 a0_12 0 0) = some r := by rw [if_neg (show ¬ (false = true) by decide)] at H; exact H
     clear H
     have H := H1
     clear H1
     have H' := Aside0.mk H
     clear H
     have hnb68 := NB316_317.out
     have hnc68 := NB317_316.out
     obtain ⟨hcz69_0, hfz69_0, hcz69_1, hfz69_1, hcz69_2, hfz69_2, hcz69_3, hfz69_3, hcz69_4, hfz69_4, hcz69_5, hfz69_5, hcz69_6, hfz69_6, hcz69_7, hfz69_7, hcz69_8, hfz69_8, hcz69_9, hfz69_9, hcz69_10, hfz69_10, hcz69_11, hfz69_11, hcz69_12, hfz69_12⟩ := zqC13_ BK316.out
     go_wp2_with (first | (go_at_call 65; (with_reducible refine (topiaryref05_ahead.calls a0_5 a0_6 a0_0 a0_1 false _ A48.out).mono ?_); rintro e w70 ⟨rfl, hb⟩; replace BK316 := Aside0.mk (blk_below (g := gb316) (o := .cells #[.int .i64 a0_0, .int .i64 a0_1, .int .i64 a0_2, .slice A0_3 l0_3.length c0_3, .int .i64 a0_4, .int .i64 a0_5, .int .i64 a0_6, .int .i64 a0_7, .int .i64 a0_8, .int .i64 a0_9, .int .i64 a0_10, .string a0_11, .string a0_12] 26 (0, 0)) zq9_ hb); replace BK317 := Aside0.mk (blk_below (g := gb317) (o := .cells #[.int .i64 0, .int .i64 0] 23 (0, 0)) zq6_ hb); replace HB := Aside0.mk (below_step (zqB2_ GE316.out GE317.out) hb); (try clear hb); (try clear hb2); (try clear hk); (try clear hi)))
     go_meet
     case rel => exact ⟨_, (true), zq5_, H', ⟨by first | omega | exact Nat.le_refl _⟩, ⟨by (with_reducible repeat (first | refine blk_drewN ?_ _ | refine blk_drew ?_ | refine blk_alloc ?_ _)); exact BK316.out⟩, ⟨by (with_reducible repeat (first | refine blk_drewN ?_ _ | refine blk_drew ?_ | refine blk_alloc ?_ _)); exact BK317.out⟩, ⟨by repeat (first | (with_reducible first | exact HB.out | apply below_alloc | apply pw_below_drewN | apply below_drew1 | refine below_set ?_ GE316.out | refine below_set ?_ GE317.out) | exact HB.out)⟩⟩
   ·rw [if_neg c47] at H
    have c47b0 : (a0_4 == 2) = false := beq_eq_false_iff_ne.mpr c47
    have c47b1 : (a0_4 != 2) = true := bne_iff_ne.mpr c47
    by_cases c71 : a0_4 > 2
    ·rw [if_pos c71] at H
     have c71b0 : decide (2 < a0_4) = true := decide_eq_true c71
     clear c71
     by_cases c72 : (!(a0_5 == 0) || (!(a0_6 == 0))) = true
     ·rw [if_pos c72] at H
      have c72b0 : (!(a0_5 == 0) || (!(a0_6 == 0))) = true := c72
      clear c72
      replace H := Option.bind_eq_some_iff.mp H
      obtain ⟨t323, A730, H⟩ := H
      have A73 := Aside0.mk A730
      clear A730
      have H' := Aside0.mk H
      clear H
      have hnb74 := NB316_317.out
      have hnc74 := NB317_316.out
      obtain ⟨hcz75_0, hfz75_0, hcz75_1, hfz75_1, hcz75_2, hfz75_2, hcz75_3, hfz75_3, hcz75_4, hfz75_4, hcz75_5, hfz75_5, hcz75_6, hfz75_6, hcz75_7, hfz75_7, hcz75_8, hfz75_8, hcz75_9, hfz75_9, hcz75_10, hfz75_10, hcz75_11, hfz75_11, hcz75_12, hfz75_12⟩ := zqC13_ BK316.out
      obtain ⟨hcz76_0, hfz76_0, hcz76_1, hfz76_1⟩ := zqC2_ BK317.out
      go_wp2_with (first | (go_at_call 65; (with_reducible refine (topiaryref05_ahead.calls a0_5 a0_6 a0_0 a0_1 t323 _ A73.out).mono ?_); rintro e w77 ⟨rfl, hb⟩; replace BK316 := Aside0.mk (blk_below (g := gb316) (o := .cells #[.int .i64 a0_0, .int .i64 a0_1, .int .i64 a0_2, .slice A0_3 l0_3.length c0_3, .int .i64 a0_4, .int .i64 a0_5, .int .i64 a0_6, .int .i64 a0_7, .int .i64 a0_8, .int .i64 a0_9, .int .i64 a0_10, .string a0_11, .string a0_12] 26 (0, 0)) zq9_ hb); replace BK317 := Aside0.mk (blk_below (g := gb317) (o := .cells #[.int .i64 0, .int .i64 0] 23 (0, 0)) zq6_ hb); replace HB := Aside0.mk (below_step (zqB2_ GE316.out GE317.out) hb); (try clear hb); (try clear hb2); (try clear hk); (try clear hi)))
      go_meet
      case rel => exact ⟨_, (!t323), zq5_, H', ⟨by first | omega | exact Nat.le_refl _⟩, ⟨by (with_reducible repeat (first | refine blk_drewN ?_ _ | refine blk_drew ?_ | refine blk_alloc ?_ _)); exact BK316.out⟩, ⟨by (with_reducible repeat (first | refine blk_drewN ?_ _ | refine blk_drew ?_ | refine blk_alloc ?_ _)); exact BK317.out⟩, ⟨by repeat (first | (with_reducible first | exact HB.out | apply below_alloc | apply pw_below_drewN | apply below_drew1 | refine below_set ?_ GE316.out | refine below_set ?_ GE317.out) | exact HB.out)⟩⟩
     ·rw [if_neg c72] at H
      have c72b0 : (!(a0_5 == 0) || (!(a0_6 == 0))) = false := by simpa using c72
      clear c72
      have H' := Aside0.mk H
      clear H
      have hnb78 := NB316_317.out
      have hnc78 := NB317_316.out
      obtain ⟨hcz79_0, hfz79_0, hcz79_1, hfz79_1, hcz79_2, hfz79_2, hcz79_3, hfz79_3, hcz79_4, hfz79_4, hcz79_5, hfz79_5, hcz79_6, hfz79_6, hcz79_7, hfz79_7, hcz79_8, hfz79_8, hcz79_9, hfz79_9, hcz79_10, hfz79_10, hcz79_11, hfz79_11, hcz79_12, hfz79_12⟩ := zqC13_ BK316.out
      obtain ⟨hcz80_0, hfz80_0, hcz80_1, hfz80_1⟩ := zqC2_ BK317.out
      go_wp2
      go_meet
      case rel => exact ⟨_, (false), zq5_, H', ⟨by first | omega | exact Nat.le_refl _⟩, ⟨by (with_reducible repeat (first | refine blk_drewN ?_ _ | refine blk_drew ?_ | refine blk_alloc ?_ _)); refine blk_far ?_ NB316_317.out _; (with_reducible repeat (first | refine blk_drewN ?_ _ | refine blk_drew ?_ | refine blk_alloc ?_ _)); refine blk_far ?_ NB316_317.out _; (with_reducible repeat (first | refine blk_drewN ?_ _ | refine blk_drew ?_ | refine blk_alloc ?_ _)); exact BK316.out⟩, ⟨by (with_reducible repeat (first | refine blk_drewN ?_ _ | refine blk_drew ?_ | refine blk_alloc ?_ _)); refine blk_put (cs := #[.int .i64 0, .int .i64 0]) ?_ 1 _ rfl; (with_reducible repeat (first | refine blk_drewN ?_ _ | refine blk_drew ?_ | refine blk_alloc ?_ _)); refine blk_put (cs := #[.int .i64 0, .int .i64 0]) ?_ 0 _ rfl; (with_reducible repeat (first | refine blk_drewN ?_ _ | refine blk_drew ?_ | refine blk_alloc ?_ _)); exact BK317.out⟩, ⟨by repeat (first | (with_reducible first | exact HB.out | apply below_alloc | apply pw_below_drewN | apply below_drew1 | refine below_set ?_ GE316.out | refine below_set ?_ GE317.out) | exact HB.out)⟩⟩
    ·rw [if_neg c71] at H
     have c71b0 : decide (2 < a0_4) = false := decide_eq_false c71
     clear c71
     have H' := Aside0.mk H
     clear H
     have hnb81 := NB316_317.out
     have hnc81 := NB317_316.out
     obtain ⟨hcz82_0, hfz82_0, hcz82_1, hfz82_1, hcz82_2, hfz82_2, hcz82_3, hfz82_3, hcz82_4, hfz82_4, hcz82_5, hfz82_5, hcz82_6, hfz82_6, hcz82_7, hfz82_7, hcz82_8, hfz82_8, hcz82_9, hfz82_9, hcz82_10, hfz82_10, hcz82_11, hfz82_11, hcz82_12, hfz82_12⟩ := zqC13_ BK316.out
     go_wp2
     go_meet
     case rel => exact ⟨_, (false), zq5_, H', ⟨by first | omega | exact Nat.le_refl _⟩, ⟨by (with_reducible repeat (first | refine blk_drewN ?_ _ | refine blk_drew ?_ | refine blk_alloc ?_ _)); refine blk_far ?_ NB316_317.out _; (with_reducible repeat (first | refine blk_drewN ?_ _ | refine blk_drew ?_ | refine blk_alloc ?_ _)); refine blk_far ?_ NB316_317.out _; (with_reducible repeat (first | refine blk_drewN ?_ _ | refine blk_drew ?_ | refine blk_alloc ?_ _)); exact BK316.out⟩, ⟨by (with_reducible repeat (first | refine blk_drewN ?_ _ | refine blk_drew ?_ | refine blk_alloc ?_ _)); refine blk_put (cs := #[.int .i64 0, .int .i64 0]) ?_ 1 _ rfl; (with_reducible repeat (first | refine blk_drewN ?_ _ | refine blk_drew ?_ | refine blk_alloc ?_ _)); refine blk_put (cs := #[.int .i64 0, .int .i64 0]) ?_ 0 _ rfl; (with_reducible repeat (first | refine blk_drewN ?_ _ | refine blk_drew ?_ | refine blk_alloc ?_ _)); exact BK317.out⟩, ⟨by repeat (first | (with_reducible first | exact HB.out | apply below_alloc | apply pw_below_drewN | apply below_drew1 | refine below_set ?_ GE316.out | refine below_set ?_ GE317.out) | exact HB.out)⟩⟩
 case rest =>
  clear HC2
  try clear c1
  try clear c2
  try clear p2
  try clear c3
  try clear c4
  try clear c5
  try clear c6
  try clear c7
  try clear c7b0
  try clear c7b1
  try clear c8
  try clear c11
  try clear c11b0
  try clear c11b1
  try clear c13
  try clear c14
  try clear c14b0
  try clear c15
  try clear c15b0
  try clear c17
  try clear c23
  try clear c28
  try clear c32
  try clear c35
  try clear c35b0
  try clear c36
  try clear c36b0
  try clear c38
  try clear c42
  try clear c45
  try clear c47
  try clear c47b0
  try clear c47b1
  try clear c49
  try clear c50
  try clear c50b0
  try clear c51
  try clear c51b0
  try clear c53
  try clear c59
  try clear c64
  try clear c68
  try clear c71
  try clear c71b0
  try clear c72
  try clear c72b0
  try clear c74
  try clear c78
  try clear c81
  try clear hcz18_0 hcz18_1 hcz18_10 hcz18_11 hcz18_12 hcz18_2 hcz18_3 hcz18_4 hcz18_5 hcz18_6 hcz18_7 hcz18_8 hcz18_9 hfz18_0 hfz18_1 hfz18_10 hfz18_11 hfz18_12 hfz18_2 hfz18_3 hfz18_4 hfz18_5 hfz18_6 hfz18_7 hfz18_8 hfz18_9
  try clear hcz20_0 hcz20_1 hcz20_10 hcz20_11 hcz20_12 hcz20_2 hcz20_3 hcz20_4 hcz20_5 hcz20_6 hcz20_7 hcz20_8 hcz20_9 hfz20_0 hfz20_1 hfz20_10 hfz20_11 hfz20_12 hfz20_2 hfz20_3 hfz20_4 hfz20_5 hfz20_6 hfz20_7 hfz20_8 hfz20_9
  try clear hcz21_0 hcz21_1 hfz21_0 hfz21_1
  try clear hcz24_0 hcz24_1 hcz24_10 hcz24_11 hcz24_12 hcz24_2 hcz24_3 hcz24_4 hcz24_5 hcz24_6 hcz24_7 hcz24_8 hcz24_9 hfz24_0 hfz24_1 hfz24_10 hfz24_11 hfz24_12 hfz24_2 hfz24_3 hfz24_4 hfz24_5 hfz24_6 hfz24_7 hfz24_8 hfz24_9
  try clear hcz26_0 hcz26_1 hcz26_10 hcz26_11 hcz26_12 hcz26_2 hcz26_3 hcz26_4 hcz26_5 hcz26_6 hcz26_7 hcz26_8 hcz26_9 hfz26_0 hfz26_1 hfz26_10 hfz26_11 hfz26_12 hfz26_2 hfz26_3 hfz26_4 hfz26_5 hfz26_6 hfz26_7 hfz26_8 hfz26_9
  try clear hcz27_0 hcz27_1 hfz27_0 hfz27_1
  try clear hcz29_0 hcz29_1 hcz29_10 hcz29_11 hcz29_12 hcz29_2 hcz29_3 hcz29_4 hcz29_5 hcz29_6 hcz29_7 hcz29_8 hcz29_9 hfz29_0 hfz29_1 hfz29_10 hfz29_11 hfz29_12 hfz29_2 hfz29_3 hfz29_4 hfz29_5 hfz29_6 hfz29_7 hfz29_8 hfz29_9
  try clear hcz31_0 hcz31_1 hcz31_10 hcz31_11 hcz31_12 hcz31_2 hcz31_3 hcz31_4 hcz31_5 hcz31_6 hcz31_7 hcz31_8 hcz31_9 hfz31_0 hfz31_1 hfz31_10 hfz31_11 hfz31_12 hfz31_2 hfz31_3 hfz31_4 hfz31_5 hfz31_6 hfz31_7 hfz31_8 hfz31_9
  try clear hcz33_0 hcz33_1 hcz33_10 hcz33_11 hcz33_12 hcz33_2 hcz33_3 hcz33_4 hcz33_5 hcz33_6 hcz33_7 hcz33_8 hcz33_9 hfz33_0 hfz33_1 hfz33_10 hfz33_11 hfz33_12 hfz33_2 hfz33_3 hfz33_4 hfz33_5 hfz33_6 hfz33_7 hfz33_8 hfz33_9
  try clear hcz39_0 hcz39_1 hcz39_10 hcz39_11 hcz39_12 hcz39_2 hcz39_3 hcz39_4 hcz39_5 hcz39_6 hcz39_7 hcz39_8 hcz39_9 hfz39_0 hfz39_1 hfz39_10 hfz39_11 hfz39_12 hfz39_2 hfz39_3 hfz39_4 hfz39_5 hfz39_6 hfz39_7 hfz39_8 hfz39_9
  try clear hcz40_0 hcz40_1 hfz40_0 hfz40_1
  try clear hcz43_0 hcz43_1 hcz43_10 hcz43_11 hcz43_12 hcz43_2 hcz43_3 hcz43_4 hcz43_5 hcz43_6 hcz43_7 hcz43_8 hcz43_9 hfz43_0 hfz43_1 hfz43_10 hfz43_11 hfz43_12 hfz43_2 hfz43_3 hfz43_4 hfz43_5 hfz43_6 hfz43_7 hfz43_8 hfz43_9
  try clear hcz44_0 hcz44_1 hfz44_0 hfz44_1
  try clear hcz46_0 hcz46_1 hcz46_10 hcz46_11 hcz46_12 hcz46_2 hcz46_3 hcz46_4 hcz46_5 hcz46_6 hcz46_7 hcz46_8 hcz46_9 hfz46_0 hfz46_1 hfz46_10 hfz46_11 hfz46_12 hfz46_2 hfz46_3 hfz46_4 hfz46_5 hfz46_6 hfz46_7 hfz46_8 hfz46_9
  try clear hcz54_0 hcz54_1 hcz54_10 hcz54_11 hcz54_12 hcz54_2 hcz54_3 hcz54_4 hcz54_5 hcz54_6 hcz54_7 hcz54_8 hcz54_9 hfz54_0 hfz54_1 hfz54_10 hfz54_11 hfz54_12 hfz54_2 hfz54_3 hfz54_4 hfz54_5 hfz54_6 hfz54_7 hfz54_8 hfz54_9
  try clear hcz56_0 hcz56_1 hcz56_10 hcz56_11 hcz56_12 hcz56_2 hcz56_3 hcz56_4 hcz56_5 hcz56_6 hcz56_7 hcz56_8 hcz56_9 hfz56_0 hfz56_1 hfz56_10 hfz56_11 hfz56_12 hfz56_2 hfz56_3 hfz56_4 hfz56_5 hfz56_6 hfz56_7 hfz56_8 hfz56_9
  try clear hcz57_0 hcz57_1 hfz57_0 hfz57_1
  try clear hcz60_0 hcz60_1 hcz60_10 hcz60_11 hcz60_12 hcz60_2 hcz60_3 hcz60_4 hcz60_5 hcz60_6 hcz60_7 hcz60_8 hcz60_9 hfz60_0 hfz60_1 hfz60_10 hfz60_11 hfz60_12 hfz60_2 hfz60_3 hfz60_4 hfz60_5 hfz60_6 hfz60_7 hfz60_8 hfz60_9
  try clear hcz62_0 hcz62_1 hcz62_10 hcz62_11 hcz62_12 hcz62_2 hcz62_3 hcz62_4 hcz62_5 hcz62_6 hcz62_7 hcz62_8 hcz62_9 hfz62_0 hfz62_1 hfz62_10 hfz62_11 hfz62_12 hfz62_2 hfz62_3 hfz62_4 hfz62_5 hfz62_6 hfz62_7 hfz62_8 hfz62_9
  try clear hcz63_0 hcz63_1 hfz63_0 hfz63_1
  try clear hcz65_0 hcz65_1 hcz65_10 hcz65_11 hcz65_12 hcz65_2 hcz65_3 hcz65_4 hcz65_5 hcz65_6 hcz65_7 hcz65_8 hcz65_9 hfz65_0 hfz65_1 hfz65_10 hfz65_11 hfz65_12 hfz65_2 hfz65_3 hfz65_4 hfz65_5 hfz65_6 hfz65_7 hfz65_8 hfz65_9
  try clear hcz67_0 hcz67_1 hcz67_10 hcz67_11 hcz67_12 hcz67_2 hcz67_3 hcz67_4 hcz67_5 hcz67_6 hcz67_7 hcz67_8 hcz67_9 hfz67_0 hfz67_1 hfz67_10 hfz67_11 hfz67_12 hfz67_2 hfz67_3 hfz67_4 hfz67_5 hfz67_6 hfz67_7 hfz67_8 hfz67_9
  try clear hcz69_0 hcz69_1 hcz69_10 hcz69_11 hcz69_12 hcz69_2 hcz69_3 hcz69_4 hcz69_5 hcz69_6 hcz69_7 hcz69_8 hcz69_9 hfz69_0 hfz69_1 hfz69_10 hfz69_11 hfz69_12 hfz69_2 hfz69_3 hfz69_4 hfz69_5 hfz69_6 hfz69_7 hfz69_8 hfz69_9
  try clear hcz75_0 hcz75_1 hcz75_10 hcz75_11 hcz75_12 hcz75_2 hcz75_3 hcz75_4 hcz75_5 hcz75_6 hcz75_7 hcz75_8 hcz75_9 hfz75_0 hfz75_1 hfz75_10 hfz75_11 hfz75_12 hfz75_2 hfz75_3 hfz75_4 hfz75_5 hfz75_6 hfz75_7 hfz75_8 hfz75_9
  try clear hcz76_0 hcz76_1 hfz76_0 hfz76_1
  try clear hcz79_0 hcz79_1 hcz79_10 hcz79_11 hcz79_12 hcz79_2 hcz79_3 hcz79_4 hcz79_5 hcz79_6 hcz79_7 hcz79_8 hcz79_9 hfz79_0 hfz79_1 hfz79_10 hfz79_11 hfz79_12 hfz79_2 hfz79_3 hfz79_4 hfz79_5 hfz79_6 hfz79_7 hfz79_8 hfz79_9
  try clear hcz80_0 hcz80_1 hfz80_0 hfz80_1
  try clear hcz82_0 hcz82_1 hcz82_10 hcz82_11 hcz82_12 hcz82_2 hcz82_3 hcz82_4 hcz82_5 hcz82_6 hcz82_7 hcz82_8 hcz82_9 hfz82_0 hfz82_1 hfz82_10 hfz82_11 hfz82_12 hfz82_2 hfz82_3 hfz82_4 hfz82_5 hfz82_6 hfz82_7 hfz82_8 hfz82_9
  obtain ⟨kq, x47_1, rfl, HA, HJ1, BK316, BK317, HB⟩ := hcut
  cases kq with
  | zero => exact absurd HA.out (by simp [topiaryref05_placed.j0])
  | succ kj1 =>
   have H := HA.out
   clear HA
   simp only [topiaryref05_placed.j0] at H
   by_cases c83 : x47_1 = true
   ·subst c83
    have H1 : (some false) = some r := by rw [if_pos rfl] at H; exact H
    clear H
    have H := H1
    clear H1
    obtain rfl := Option.some.inj H
    go_wp2
    go_ret
    exact ⟨by first | rfl | (simp [errW_none, errW_some] <;> rfl) | (simp [*, errW_none, errW_some] <;> rfl), by repeat (first | (with_reducible first | exact HB.out | apply below_alloc | apply pw_below_drewN | apply below_drew1 | refine below_set ?_ GE316.out | refine below_set ?_ GE317.out) | exact HB.out)⟩
   ·replace c83 := Bool.eq_false_iff.mpr c83
    subst c83
    have H1 : (if a0_4 > 2 then (if (a0_7 == 0 && (a0_8 == 0)) = true then (some (a0_9 == 0 && (a0_10 == 0))) else (some false)) else ((topiaryref01_Node.f a0_7 a0_8).bind fun t324 => (if t324 = true then ((topiaryref01_Less.f a0_7 a0_8 a0_0 a0_1).bind fun t325 => (if t325 = true then (if (!(a0_7 == a0_5) || (!(a0_8 == a0_6))) = true then (if (a0_9 == 0 && (a0_10 == 0)) = true then (some true) else ((topiaryref05_ahead.f a0_9 a0_10 a0_0 a0_1).bind fun t326 => (some t326))) else (some false)) else (some false))) else (some false)))) = some r := by rw [if_neg (show ¬ (false = true) by decide)] at H; exact H
    clear H
    have H := H1
    clear H1
    by_cases c84 : a0_4 > 2
    ·rw [if_pos c84] at H
     have c84b0 : decide (2 < a0_4) = true := decide_eq_true c84
     clear c84
     by_cases c85 : (a0_7 == 0 && (a0_8 == 0)) = true
     ·rw [if_pos c85] at H
      have c85b0 : (a0_7 == 0 && (a0_8 == 0)) = true := c85
      (try (have c85b1 : decide (a0_7 = 0 && (a0_8 == 0)) = true := by simpa using c85))
      (try (have c85b2 : (a0_7 == 0 && (a0_8 == 0)) = true := by simpa using c85))
      clear c85
      obtain rfl := Option.some.inj H
      have hnb86 := NB316_317.out
      have hnc86 := NB317_316.out
      obtain ⟨hcz87_0, hfz87_0, hcz87_1, hfz87_1, hcz87_2, hfz87_2, hcz87_3, hfz87_3, hcz87_4, hfz87_4, hcz87_5, hfz87_5, hcz87_6, hfz87_6, hcz87_7, hfz87_7, hcz87_8, hfz87_8, hcz87_9, hfz87_9, hcz87_10, hfz87_10, hcz87_11, hfz87_11, hcz87_12, hfz87_12⟩ := zqC13_ BK316.out
      obtain ⟨hcz88_0, hfz88_0, hcz88_1, hfz88_1⟩ := zqC2_ BK317.out
      go_wp2
      go_ret
      exact ⟨by first | rfl | (simp [errW_none, errW_some] <;> rfl) | (simp [*, errW_none, errW_some] <;> rfl), by repeat (first | (with_reducible first | exact HB.out | apply below_alloc | apply pw_below_drewN | apply below_drew1 | refine below_set ?_ GE316.out | refine below_set ?_ GE317.out) | exact HB.out)⟩
     ·rw [if_neg c85] at H
      have c85b0 : (a0_7 == 0 && (a0_8 == 0)) = false := by simpa using c85
      (try (have c85b1 : decide (a0_7 = 0 && (a0_8 == 0)) = false := by simpa using c85))
      (try (have c85b2 : (a0_7 == 0 && (a0_8 == 0)) = false := by simpa using c85))
      (try (have c85b3 : ¬ (a0_7 = 0 && (a0_8 == 0)) := by simpa using c85))
      clear c85
      obtain rfl := Option.some.inj H
      have hnb89 := NB316_317.out
      have hnc89 := NB317_316.out
      obtain ⟨hcz90_0, hfz90_0, hcz90_1, hfz90_1, hcz90_2, hfz90_2, hcz90_3, hfz90_3, hcz90_4, hfz90_4, hcz90_5, hfz90_5, hcz90_6, hfz90_6, hcz90_7, hfz90_7, hcz90_8, hfz90_8, hcz90_9, hfz90_9, hcz90_10, hfz90_10, hcz90_11, hfz90_11, hcz90_12, hfz90_12⟩ := zqC13_ BK316.out
      obtain ⟨hcz91_0, hfz91_0, hcz91_1, hfz91_1⟩ := zqC2_ BK317.out
      go_wp2
      go_ret
      exact ⟨by first | rfl | (simp [errW_none, errW_some] <;> rfl) | (simp [*, errW_none, errW_some] <;> rfl), by repeat (first | (with_reducible first | exact HB.out | apply below_alloc | apply pw_below_drewN | apply below_drew1 | refine below_set ?_ GE316.out | refine below_set ?_ GE317.out) | exact HB.out)⟩
    ·rw [if_neg c84] at H
     have c84b0 : decide (2 < a0_4) = false := decide_eq_false c84
     clear c84
     replace H := Option.bind_eq_some_iff.mp H
     obtain ⟨t324, A920, H⟩ := H
     have A92 := Aside0.mk A920
     clear A920
     by_cases c93 : t324 = true
     ·subst c93
      have H1 : ((topiaryref01_Less.f a0_7 a0_8 a0_0 a0_1).bind fun t325 => (if t325 = true then (if (!(a0_7 == a0_5) || (!(a0_8 == a0_6))) = true then (if (a0_9 == 0 && (a0_10 == 0)) = true then (some true) else ((topiaryref05_ahead.f a0_9 a0_10 a0_0 a0_1).bind fun t326 => (some t326))) else (some false)) else (some false))) = some r := by rw [if_pos rfl] at H; exact H
      clear H
      have H := H1
      clear H1
      replace H := Option.bind_eq_some_iff.mp H
      obtain ⟨t325, A940, H⟩ := H
      have A94 := Aside0.mk A940
      clear A940
      by_cases c95 : t325 = true
      ·subst c95
       have H1 : (if (!(a0_7 == a0_5) || (!(a0_8 == a0_6))) = true then (if (a0_9 == 0 && (a0_10 == 0)) = true then (some true) else ((topiaryref05_ahead.f a0_9 a0_10 a0_0 a0_1).bind fun t326 => (some t326))) else (some false)) = some r := by rw [if_pos rfl] at H; exact H
       clear H
       have H := H1
       clear H1
       by_cases c96 : (!(a0_7 == a0_5) || (!(a0_8 == a0_6))) = true
       ·rw [if_pos c96] at H
        have c96b0 : (!(a0_7 == a0_5) || (!(a0_8 == a0_6))) = true := c96
        clear c96
        by_cases c97 : (a0_9 == 0 && (a0_10 == 0)) = true
        ·rw [if_pos c97] at H
         have c97b0 : (a0_9 == 0 && (a0_10 == 0)) = true := c97
         (try (have c97b1 : decide (a0_9 = 0 && (a0_10 == 0)) = true := by simpa using c97))
         (try (have c97b2 : (a0_9 == 0 && (a0_10 == 0)) = true := by simpa using c97))
         clear c97
         obtain rfl := Option.some.inj H
         have hnb98 := NB316_317.out
         have hnc98 := NB317_316.out
         obtain ⟨hcz99_0, hfz99_0, hcz99_1, hfz99_1, hcz99_2, hfz99_2, hcz99_3, hfz99_3, hcz99_4, hfz99_4, hcz99_5, hfz99_5, hcz99_6, hfz99_6, hcz99_7, hfz99_7, hcz99_8, hfz99_8, hcz99_9, hfz99_9, hcz99_10, hfz99_10, hcz99_11, hfz99_11, hcz99_12, hfz99_12⟩ := zqC13_ BK316.out
         go_wp2_with (first | ((with_reducible refine gate_callee (f := 66) rfl ?_); refine zqG_ (some 63) rfl Tryz.func66 #[.agg #[.int .i64 a0_7, .int .i64 a0_8]] rfl ?_; (with_reducible refine (topiaryref01_Node.calls a0_7 a0_8 true _ A92.out).mono ?_); rintro e w100 ⟨rfl, hb⟩; refine ⟨_, rfl, ?_⟩; replace BK316 := Aside0.mk (blk_below (zqK_ BK316.out) hb); replace BK317 := Aside0.mk (blk_below (zqK_ BK317.out) hb); replace HB := Aside0.mk (below_step (zqB2_ GE316.out GE317.out) hb); (try clear hb); (try clear hb2); (try clear hk); (try clear hi); obtain ⟨hcz101_0, hfz101_0, hcz101_1, hfz101_1, hcz101_2, hfz101_2, hcz101_3, hfz101_3, hcz101_4, hfz101_4, hcz101_5, hfz101_5, hcz101_6, hfz101_6, hcz101_7, hfz101_7, hcz101_8, hfz101_8, hcz101_9, hfz101_9, hcz101_10, hfz101_10, hcz101_11, hfz101_11, hcz101_12, hfz101_12⟩ := zqC13_ BK316.out) | (go_at_call 20; (with_reducible refine (topiaryref01_Less.calls a0_7 a0_8 a0_0 a0_1 true _ A94.out).mono ?_); rintro e w102 ⟨rfl, hb⟩; replace BK316 := Aside0.mk (blk_below (zqK_ BK316.out) hb); replace BK317 := Aside0.mk (blk_below (zqK_ BK317.out) hb); replace HB := Aside0.mk (below_step (zqB2_ GE316.out GE317.out) hb); (try clear hb); (try clear hb2); (try clear hk); (try clear hi); obtain ⟨hcz103_0, hfz103_0, hcz103_1, hfz103_1, hcz103_2, hfz103_2, hcz103_3, hfz103_3, hcz103_4, hfz103_4, hcz103_5, hfz103_5, hcz103_6, hfz103_6, hcz103_7, hfz103_7, hcz103_8, hfz103_8, hcz103_9, hfz103_9, hcz103_10, hfz103_10, hcz103_11, hfz103_11, hcz103_12, hfz103_12⟩ := zqC13_ BK316.out; obtain ⟨hcz104_0, hfz104_0, hcz104_1, hfz104_1⟩ := zqC2_ BK317.out))
         go_ret
         exact ⟨by first | rfl | (simp [errW_none, errW_some] <;> rfl) | (simp [*, errW_none, errW_some] <;> rfl), by repeat (first | (with_reducible first | exact HB.out | apply below_alloc | apply pw_below_drewN | apply below_drew1 | refine below_set ?_ GE316.out | refine below_set ?_ GE317.out) | exact HB.out)⟩
        ·rw [if_neg c97] at H
         have c97b0 : (a0_9 == 0 && (a0_10 == 0)) = false := by simpa using c97
         (try (have c97b1 : decide (a0_9 = 0 && (a0_10 == 0)) = false := by simpa using c97))
         (try (have c97b2 : (a0_9 == 0 && (a0_10 == 0)) = false := by simpa using c97))
         (try (have c97b3 : ¬ (a0_9 = 0 && (a0_10 == 0)) := by simpa using c97))
         clear c97
         replace H := Option.bind_eq_some_iff.mp H
         obtain ⟨t326, A1050, H⟩ := H
         replace H : (some t326) = some r := H
         have A105 := Aside0.mk A1050
         clear A1050
         obtain rfl := Option.some.inj H
         have hnb106 := NB316_317.out
         have hnc106 := NB317_316.out
         obtain ⟨hcz107_0, hfz107_0, hcz107_1, hfz107_1, hcz107_2, hfz107_2, hcz107_3, hfz107_3, hcz107_4, hfz107_4, hcz107_5, hfz107_5, hcz107_6, hfz107_6, hcz107_7, hfz107_7, hcz107_8, hfz107_8, hcz107_9, hfz107_9, hcz107_10, hfz107_10, hcz107_11, hfz107_11, hcz107_12, hfz107_12⟩ := zqC13_ BK316.out
         go_wp2_with (first | ((with_reducible refine gate_callee (f := 66) rfl ?_); refine zqG_ (some 63) rfl Tryz.func66 #[.agg #[.int .i64 a0_7, .int .i64 a0_8]] rfl ?_; (with_reducible refine (topiaryref01_Node.calls a0_7 a0_8 true _ A92.out).mono ?_); rintro e w108 ⟨rfl, hb⟩; refine ⟨_, rfl, ?_⟩; replace BK316 := Aside0.mk (blk_below (zqK_ BK316.out) hb); replace BK317 := Aside0.mk (blk_below (zqK_ BK317.out) hb); replace HB := Aside0.mk (below_step (zqB2_ GE316.out GE317.out) hb); (try clear hb); (try clear hb2); (try clear hk); (try clear hi); obtain ⟨hcz109_0, hfz109_0, hcz109_1, hfz109_1, hcz109_2, hfz109_2, hcz109_3, hfz109_3, hcz109_4, hfz109_4, hcz109_5, hfz109_5, hcz109_6, hfz109_6, hcz109_7, hfz109_7, hcz109_8, hfz109_8, hcz109_9, hfz109_9, hcz109_10, hfz109_10, hcz109_11, hfz109_11, hcz109_12, hfz109_12⟩ := zqC13_ BK316.out) | (go_at_call 20; (with_reducible refine (topiaryref01_Less.calls a0_7 a0_8 a0_0 a0_1 true _ A94.out).mono ?_); rintro e w110 ⟨rfl, hb⟩; replace BK316 := Aside0.mk (blk_below (zqK_ BK316.out) hb); replace BK317 := Aside0.mk (blk_below (zqK_ BK317.out) hb); replace HB := Aside0.mk (below_step (zqB2_ GE316.out GE317.out) hb); (try clear hb); (try clear hb2); (try clear hk); (try clear hi); obtain ⟨hcz111_0, hfz111_0, hcz111_1, hfz111_1, hcz111_2, hfz111_2, hcz111_3, hfz111_3, hcz111_4, hfz111_4, hcz111_5, hfz111_5, hcz111_6, hfz111_6, hcz111_7, hfz111_7, hcz111_8, hfz111_8, hcz111_9, hfz111_9, hcz111_10, hfz111_10, hcz111_11, hfz111_11, hcz111_12, hfz111_12⟩ := zqC13_ BK316.out; obtain ⟨hcz112_0, hfz112_0, hcz112_1, hfz112_1⟩ := zqC2_ BK317.out) | (go_at_call 65; (with_reducible refine (topiaryref05_ahead.calls a0_9 a0_10 a0_0 a0_1 t326 _ A105.out).mono ?_); rintro e w113 ⟨rfl, hb⟩; replace BK316 := Aside0.mk (blk_below (zqK_ BK316.out) hb); replace BK317 := Aside0.mk (blk_below (zqK_ BK317.out) hb); replace HB := Aside0.mk (below_step (zqB2_ GE316.out GE317.out) hb); (try clear hb); (try clear hb2); (try clear hk); (try clear hi)))
         go_ret
         exact ⟨by first | rfl | (simp [errW_none, errW_some] <;> rfl) | (simp [*, errW_none, errW_some] <;> rfl), by repeat (first | (with_reducible first | exact HB.out | apply below_alloc | apply pw_below_drewN | apply below_drew1 | refine below_set ?_ GE316.out | refine below_set ?_ GE317.out) | exact HB.out)⟩
       ·rw [if_neg c96] at H
        have c96b0 : (!(a0_7 == a0_5) || (!(a0_8 == a0_6))) = false := by simpa using c96
        clear c96
        obtain rfl := Option.some.inj H
        have hnb114 := NB316_317.out
        have hnc114 := NB317_316.out
        obtain ⟨hcz115_0, hfz115_0, hcz115_1, hfz115_1, hcz115_2, hfz115_2, hcz115_3, hfz115_3, hcz115_4, hfz115_4, hcz115_5, hfz115_5, hcz115_6, hfz115_6, hcz115_7, hfz115_7, hcz115_8, hfz115_8, hcz115_9, hfz115_9, hcz115_10, hfz115_10, hcz115_11, hfz115_11, hcz115_12, hfz115_12⟩ := zqC13_ BK316.out
        go_wp2_with (first | ((with_reducible refine gate_callee (f := 66) rfl ?_); refine zqG_ (some 63) rfl Tryz.func66 #[.agg #[.int .i64 a0_7, .int .i64 a0_8]] rfl ?_; (with_reducible refine (topiaryref01_Node.calls a0_7 a0_8 true _ A92.out).mono ?_); rintro e w116 ⟨rfl, hb⟩; refine ⟨_, rfl, ?_⟩; replace BK316 := Aside0.mk (blk_below (zqK_ BK316.out) hb); replace BK317 := Aside0.mk (blk_below (zqK_ BK317.out) hb); replace HB := Aside0.mk (below_step (zqB2_ GE316.out GE317.out) hb); (try clear hb); (try clear hb2); (try clear hk); (try clear hi); obtain ⟨hcz117_0, hfz117_0, hcz117_1, hfz117_1, hcz117_2, hfz117_2, hcz117_3, hfz117_3, hcz117_4, hfz117_4, hcz117_5, hfz117_5, hcz117_6, hfz117_6, hcz117_7, hfz117_7, hcz117_8, hfz117_8, hcz117_9, hfz117_9, hcz117_10, hfz117_10, hcz117_11, hfz117_11, hcz117_12, hfz117_12⟩ := zqC13_ BK316.out) | (go_at_call 20; (with_reducible refine (topiaryref01_Less.calls a0_7 a0_8 a0_0 a0_1 true _ A94.out).mono ?_); rintro e w118 ⟨rfl, hb⟩; replace BK316 := Aside0.mk (blk_below (zqK_ BK316.out) hb); replace BK317 := Aside0.mk (blk_below (zqK_ BK317.out) hb); replace HB := Aside0.mk (below_step (zqB2_ GE316.out GE317.out) hb); (try clear hb); (try clear hb2); (try clear hk); (try clear hi); obtain ⟨hcz119_0, hfz119_0, hcz119_1, hfz119_1, hcz119_2, hfz119_2, hcz119_3, hfz119_3, hcz119_4, hfz119_4, hcz119_5, hfz119_5, hcz119_6, hfz119_6, hcz119_7, hfz119_7, hcz119_8, hfz119_8, hcz119_9, hfz119_9, hcz119_10, hfz119_10, hcz119_11, hfz119_11, hcz119_12, hfz119_12⟩ := zqC13_ BK316.out))
        go_ret
        exact ⟨by first | rfl | (simp [errW_none, errW_some] <;> rfl) | (simp [*, errW_none, errW_some] <;> rfl), by repeat (first | (with_reducible first | exact HB.out | apply below_alloc | apply pw_below_drewN | apply below_drew1 | refine below_set ?_ GE316.out | refine below_set ?_ GE317.out) | exact HB.out)⟩
      ·replace c95 := Bool.eq_false_iff.mpr c95
       subst c95
       have H1 : (some false) = some r := by rw [if_neg (show ¬ (false = true) by decide)] at H; exact H
       clear H
       have H := H1
       clear H1
       obtain rfl := Option.some.inj H
       have hnb120 := NB316_317.out
       have hnc120 := NB317_316.out
       obtain ⟨hcz121_0, hfz121_0, hcz121_1, hfz121_1, hcz121_2, hfz121_2, hcz121_3, hfz121_3, hcz121_4, hfz121_4, hcz121_5, hfz121_5, hcz121_6, hfz121_6, hcz121_7, hfz121_7, hcz121_8, hfz121_8, hcz121_9, hfz121_9, hcz121_10, hfz121_10, hcz121_11, hfz121_11, hcz121_12, hfz121_12⟩ := zqC13_ BK316.out
       go_wp2_with (first | ((with_reducible refine gate_callee (f := 66) rfl ?_); refine zqG_ (some 63) rfl Tryz.func66 #[.agg #[.int .i64 a0_7, .int .i64 a0_8]] rfl ?_; (with_reducible refine (topiaryref01_Node.calls a0_7 a0_8 true _ A92.out).mono ?_); rintro e w122 ⟨rfl, hb⟩; refine ⟨_, rfl, ?_⟩; replace BK316 := Aside0.mk (blk_below (zqK_ BK316.out) hb); replace BK317 := Aside0.mk (blk_below (zqK_ BK317.out) hb); replace HB := Aside0.mk (below_step (zqB2_ GE316.out GE317.out) hb); (try clear hb); (try clear hb2); (try clear hk); (try clear hi); obtain ⟨hcz123_0, hfz123_0, hcz123_1, hfz123_1, hcz123_2, hfz123_2, hcz123_3, hfz123_3, hcz123_4, hfz123_4, hcz123_5, hfz123_5, hcz123_6, hfz123_6, hcz123_7, hfz123_7, hcz123_8, hfz123_8, hcz123_9, hfz123_9, hcz123_10, hfz123_10, hcz123_11, hfz123_11, hcz123_12, hfz123_12⟩ := zqC13_ BK316.out) | (go_at_call 20; (with_reducible refine (topiaryref01_Less.calls a0_7 a0_8 a0_0 a0_1 false _ A94.out).mono ?_); rintro e w124 ⟨rfl, hb⟩; replace BK316 := Aside0.mk (blk_below (zqK_ BK316.out) hb); replace BK317 := Aside0.mk (blk_below (zqK_ BK317.out) hb); replace HB := Aside0.mk (below_step (zqB2_ GE316.out GE317.out) hb); (try clear hb); (try clear hb2); (try clear hk); (try clear hi)))
       go_ret
       exact ⟨by first | rfl | (simp [errW_none, errW_some] <;> rfl) | (simp [*, errW_none, errW_some] <;> rfl), by repeat (first | (with_reducible first | exact HB.out | apply below_alloc | apply pw_below_drewN | apply below_drew1 | refine below_set ?_ GE316.out | refine below_set ?_ GE317.out) | exact HB.out)⟩
     ·replace c93 := Bool.eq_false_iff.mpr c93
      subst c93
      have H1 : (some false) = some r := by rw [if_neg (show ¬ (false = true) by decide)] at H; exact H
      clear H
      have H := H1
      clear H1
      obtain rfl := Option.some.inj H
      have hnb125 := NB316_317.out
      have hnc125 := NB317_316.out
      obtain ⟨hcz126_0, hfz126_0, hcz126_1, hfz126_1, hcz126_2, hfz126_2, hcz126_3, hfz126_3, hcz126_4, hfz126_4, hcz126_5, hfz126_5, hcz126_6, hfz126_6, hcz126_7, hfz126_7, hcz126_8, hfz126_8, hcz126_9, hfz126_9, hcz126_10, hfz126_10, hcz126_11, hfz126_11, hcz126_12, hfz126_12⟩ := zqC13_ BK316.out
      go_wp2_with (first | ((with_reducible refine gate_callee (f := 66) rfl ?_); refine zqG_ (some 63) rfl Tryz.func66 #[.agg #[.int .i64 a0_7, .int .i64 a0_8]] rfl ?_; (with_reducible refine (topiaryref01_Node.calls a0_7 a0_8 false _ A92.out).mono ?_); rintro e w127 ⟨rfl, hb⟩; refine ⟨_, rfl, ?_⟩; replace BK316 := Aside0.mk (blk_below (zqK_ BK316.out) hb); replace BK317 := Aside0.mk (blk_below (zqK_ BK317.out) hb); replace HB := Aside0.mk (below_step (zqB2_ GE316.out GE317.out) hb); (try clear hb); (try clear hb2); (try clear hk); (try clear hi)))
      go_ret
      exact ⟨by first | rfl | (simp [errW_none, errW_some] <;> rfl) | (simp [*, errW_none, errW_some] <;> rfl), by repeat (first | (with_reducible first | exact HB.out | apply below_alloc | apply pw_below_drewN | apply below_drew1 | refine below_set ?_ GE316.out | refine below_set ?_ GE317.out) | exact HB.out)⟩

end Go.Proofs.YtgoolgmcbnikkaaGreatDoor.QChangeTexts
