-- Own text of this seat, laid by the session's program ownprint.py (wip/tools). Lean checks it.
import Derived.Test.YtgoolgmcbnikkaaGreatDoorQChangeSamesx0
import Derived.Test.YtgoolgmcbnikkaaGreatDoorQChangeSamesx1
import Derived.Test.YtgoolgmcbnikkaaGreatDoorQChangeSamesx12
namespace Go.Proofs.YtgoolgmcbnikkaaGreatDoor.QChangeSames
open Go.RowKit Go.Proofs.YtgoolgmcbnikkaaGreatDoorW.PrintWords Go.Proofs.YtgoolgmcbnikkaaGreatDoorW.PrintLast Go.Proofs.YtgoolgmcbnikkaaGreatDoorW.PrintMore
attribute [local go_sem] max2_int min2_int max_two min_two max_three min_three max_four min_four   -- for this text's walks alone
set_option linter.unusedVariables false
set_option linter.unusedSimpArgs false

attribute [local go_sem high] eqA23
/-! ### topiaryref01_Has: function 86 -/
def topiaryref01_Has.l0 : Nat → List (S23) → Int → Int → Int → Option (Bool)
 | 0, _, _, _, _ => none
 | k + 1, x0, x5, x331000, x331001 => if x5 < (x0.length : Int) then (if 0 ≤ x5 then (if (((rd_T23 x0 x5).f0) == x331000 && (((rd_T23 x0 x5).f1) == x331001)) = true then (some true) else (topiaryref01_Has.l0 k x0 (wrap64 (x5 + 1)) x331000 x331001)) else (none)) else (some false)
def topiaryref01_Has.f (k : Nat) (l0 : List (S23)) (a1_0 : Int) (a1_1 : Int) : Option (Bool) := topiaryref01_Has.l0 k l0 0 a1_0 a1_1
theorem topiaryref01_Has.mono_l : ∀ k, (∀ y0 y1 y2 y3, LeO (topiaryref01_Has.l0 k y0 y1 y2 y3) (topiaryref01_Has.l0 (k + 1) y0 y1 y2 y3))
 | 0 => fun _ _ _ _ r h => by simp [topiaryref01_Has.l0] at h
 | k + 1 => by
  have ih0 := topiaryref01_Has.mono_l k
  ·intro y0 y1 y2 y3
   unfold topiaryref01_Has.l0
   repeat' first
   | (with_reducible exact ih0 _ _ _ _)
   | (with_reducible exact LeO.refl _)
   | (with_reducible exact LeO.none _)
   | (with_reducible refine LeO.ite ?_ ?_)
   | (with_reducible refine LeO.bind ?_ (fun _ => ?_))
   | exact ih0 _ _ _ _
   | exact LeO.none _
   | refine LeO.ite ?_ ?_
   | refine LeO.bind ?_ (fun _ => ?_)
theorem topiaryref01_Has.mono : ∀ a0 a1 a2 k, LeO (topiaryref01_Has.f k a0 a1 a2) (topiaryref01_Has.f (k + 1) a0 a1 a2) := by
 intro a0 a1 a2 k
 have ih0 := topiaryref01_Has.mono_l k
 unfold topiaryref01_Has.f
 repeat' first
   | (with_reducible exact ih0 _ _ _ _)
   | (with_reducible exact LeO.refl _)
   | (with_reducible exact LeO.none _)
   | (with_reducible refine LeO.ite ?_ ?_)
   | (with_reducible refine LeO.bind ?_ (fun _ => ?_))
   | exact ih0 _ _ _ _
   | exact LeO.none _
   | refine LeO.ite ?_ ?_
   | refine LeO.bind ?_ (fun _ => ?_)
set_option maxHeartbeats 8000000 in
set_option maxRecDepth 100000 in
theorem topiaryref01_Has.calls (k : Nat) (A0 : Option Addr) (c0 : Nat) (l0 : List (S23)) (a1_0 : Int) (a1_1 : Int) (r : Bool) (w : World) (hr0 : Kd.C k23 w A0 l0.length l0) (hc0 : l0.length ≤ c0) (h : topiaryref01_Has.f k l0 a1_0 a1_1 = some r) :
  Calls Tryz.prog 86 #[.slice A0 l0.length c0, .agg #[.int .i64 a1_0, .int .i64 a1_1]] w fun e w' => e = .returned (.bool r) ∧ Below w.heap.size w w' := by
 have hu23 := Tryz.underlying23
 have HR0 := Aside0.mk hr0
 have HC0 := Aside0.mk hc0
 clear hr0 hc0
 have HB := Aside0.mk (Below.refl w.heap.size w)
 have H : (topiaryref01_Has.l0 k l0 0 a1_0 a1_1) = some r := h
 clear h
 have H' := Aside0.mk H
 clear H
 go_enter Tryz.func86, Tryz.ntmps86
 go_wp2_with (first | ((with_reducible refine gate_dst (N := 3) rfl ?_); refine box_event ?hg (N := 3) ?hd (cs := #[.int .i64 a1_0, .int .i64 a1_1]) (t := 23) ?hr ?_; (case hd => rfl); (case hg => rfl); (case hr => first | (go_simp; done) | (go_simp; rfl)); intro gb330 hg w3 hbox hb; have BK330 := Aside0.mk (hbox); have GW330 := Aside0.mk ((zq7_ : w.heap.size ≤ gb330)); have GE330 := Aside0.mk ((zq7_ : w.heap.size ≤ gb330)); replace HB := Aside0.mk (below_step zq0_ hb); clear hb hbox hg))
 repeat (go_quiet (first | ((with_reducible refine gate_dst (N := 3) rfl ?_); refine box_event ?hg (N := 3) ?hd (cs := #[.int .i64 a1_0, .int .i64 a1_1]) (t := 23) ?hr ?_; (case hd => rfl); (case hg => rfl); (case hr => first | (go_simp; done) | (go_simp; rfl)); intro gb330 hg w3 hbox hb; have BK330 := Aside0.mk (hbox); have GW330 := Aside0.mk ((zq7_ : w.heap.size ≤ gb330)); have GE330 := Aside0.mk ((zq7_ : w.heap.size ≤ gb330)); replace HB := Aside0.mk (below_step zq0_ hb); clear hb hbox hg)); try go_wp2_with (first | ((with_reducible refine gate_dst (N := 3) rfl ?_); refine box_event ?hg (N := 3) ?hd (cs := #[.int .i64 a1_0, .int .i64 a1_1]) (t := 23) ?hr ?_; (case hd => rfl); (case hg => rfl); (case hr => first | (go_simp; done) | (go_simp; rfl)); intro gb330 hg w3 hbox hb; have BK330 := Aside0.mk (hbox); have GW330 := Aside0.mk ((zq7_ : w.heap.size ≤ gb330)); have GE330 := Aside0.mk ((zq7_ : w.heap.size ≤ gb330)); replace HB := Aside0.mk (below_step zq0_ hb); clear hb hbox hg)))
 go_loopg [5] k (fun kq v5 w' => ∃ (x5_1 : Int), v5 = .int .i64 x5_1 ∧ Aside0 (topiaryref01_Has.l0 kq l0 x5_1 a1_0 a1_1 = some r) ∧ Aside0 (kq ≤ k) ∧ Aside0 (w'.heap[gb330]? = some (.cells #[.int .i64 a1_0, .int .i64 a1_1] 23 (0, 0))) ∧ Aside0 (Below w.heap.size w w'))
 case atStart => exact ⟨(0), zq8_, H', ⟨Nat.le_refl _⟩, ⟨by (with_reducible repeat (first | refine blk_drewN ?_ _ | refine blk_drew ?_ | refine blk_alloc ?_ _)); exact BK330.out⟩, ⟨by repeat (first | (with_reducible first | exact HB.out | apply below_alloc | apply pw_below_drewN | apply below_drew1 | refine below_set ?_ GE330.out) | exact HB.out)⟩⟩
 case round =>
  clear H'
  try clear p2
  obtain ⟨x5_1, rfl, HA, HK1, BK330, HB⟩ := hrel
  cases gk with
  | zero => exact absurd HA.out (by simp [topiaryref01_Has.l0])
  | succ k1 =>
   have H := HA.out
   clear HA
   simp only [topiaryref01_Has.l0] at H
   by_cases c4 : x5_1 < (l0.length : Int)
   ·rw [if_pos c4] at H
    have c4b0 : decide (x5_1 < (l0.length : Int)) = true := decide_eq_true c4
    clear c4
    by_cases c5 : 0 ≤ x5_1
    ·rw [if_pos c5] at H
     have c5b0 : decide (0 ≤ x5_1) = true := decide_eq_true c5
     clear c5
     by_cases c6 : (((rd_T23 l0 x5_1).f0) == a1_0 && (((rd_T23 l0 x5_1).f1) == a1_1)) = true
     ·rw [if_pos c6] at H
      have c6b0 : (((rd_T23 l0 x5_1).f0) == a1_0 && (((rd_T23 l0 x5_1).f1) == a1_1)) = true := c6
      (try (have c6b1 : decide (((rd_T23 l0 x5_1).f0) = a1_0 && (((rd_T23 l0 x5_1).f1) == a1_1)) = true := by simpa using c6))
      (try (have c6b2 : (((rd_T23 l0 x5_1).f0) == a1_0 && (((rd_T23 l0 x5_1).f1) == a1_1)) = true := by simpa using c6))
      clear c6
      obtain rfl := Option.some.inj H
      have p331 : 0 ≤ (x5_1 : Int) := of_decide_eq_true zq2_
      have q331 : x5_1 < (l0.length : Int) := of_decide_eq_true zq2_
      obtain ⟨ad331, e331, hx331_0, hx331_1⟩ := at_T23 HR0.out x5_1 p331 q331
      cases e331
      replace hx331_0 := (HB.out.cell (World.block_lt_of_cell? w _ hx331_0)).trans hx331_0
      replace hx331_1 := (HB.out.cell (World.block_lt_of_cell? w _ hx331_1)).trans hx331_1
      replace p331 := eq_true p331
      replace q331 := eq_true q331
      obtain ⟨hcz7_0, hfz7_0, hcz7_1, hfz7_1⟩ := zqC2_ BK330.out
      go_wp2
      repeat (go_quiet (fail); try go_wp2)
      go_ret
      exact ⟨by first | rfl | (simp [errW_none, errW_some] <;> rfl) | (simp [*, errW_none, errW_some] <;> rfl), by repeat (first | (with_reducible first | exact HB.out | apply below_alloc | apply pw_below_drewN | apply below_drew1 | refine below_set ?_ GE330.out) | exact HB.out)⟩
     ·rw [if_neg c6] at H
      have c6b0 : (((rd_T23 l0 x5_1).f0) == a1_0 && (((rd_T23 l0 x5_1).f1) == a1_1)) = false := by simpa using c6
      (try (have c6b1 : decide (((rd_T23 l0 x5_1).f0) = a1_0 && (((rd_T23 l0 x5_1).f1) == a1_1)) = false := by simpa using c6))
      (try (have c6b2 : (((rd_T23 l0 x5_1).f0) == a1_0 && (((rd_T23 l0 x5_1).f1) == a1_1)) = false := by simpa using c6))
      (try (have c6b3 : ¬ (((rd_T23 l0 x5_1).f0) = a1_0 && (((rd_T23 l0 x5_1).f1) == a1_1)) := by simpa using c6))
      clear c6
      have H' := Aside0.mk H
      clear H
      have p331 : 0 ≤ (x5_1 : Int) := of_decide_eq_true zq2_
      have q331 : x5_1 < (l0.length : Int) := of_decide_eq_true zq2_
      obtain ⟨ad331, e331, hx331_0, hx331_1⟩ := at_T23 HR0.out x5_1 p331 q331
      cases e331
      replace hx331_0 := (HB.out.cell (World.block_lt_of_cell? w _ hx331_0)).trans hx331_0
      replace hx331_1 := (HB.out.cell (World.block_lt_of_cell? w _ hx331_1)).trans hx331_1
      replace p331 := eq_true p331
      replace q331 := eq_true q331
      obtain ⟨hcz8_0, hfz8_0, hcz8_1, hfz8_1⟩ := zqC2_ BK330.out
      go_wp2
      repeat (go_quiet (fail); try go_wp2)
      go_roundg k1
      case measure => have := HK1.out; omega
      case rel => exact ⟨(wrap64 (x5_1 + 1)), zq8_, H', ⟨by have := HK1.out; omega⟩, ⟨by (with_reducible repeat (first | refine blk_drewN ?_ _ | refine blk_drew ?_ | refine blk_alloc ?_ _)); exact BK330.out⟩, ⟨by repeat (first | (with_reducible first | exact HB.out | apply below_alloc | apply pw_below_drewN | apply below_drew1 | refine below_set ?_ GE330.out) | exact HB.out)⟩⟩
    ·rw [if_neg c5] at H
     exact absurd H (by simp)
   ·rw [if_neg c4] at H
    have c4b0 : decide (x5_1 < (l0.length : Int)) = false := decide_eq_false c4
    clear c4
    obtain rfl := Option.some.inj H
    go_wp2
    repeat (go_quiet (fail); try go_wp2)
    go_ret
    exact ⟨by first | rfl | (simp [errW_none, errW_some] <;> rfl) | (simp [*, errW_none, errW_some] <;> rfl), by repeat (first | (with_reducible first | exact HB.out | apply below_alloc | apply pw_below_drewN | apply below_drew1 | refine below_set ?_ GE330.out) | exact HB.out)⟩

/-! ### topiaryref01_Put: function 60 -/
def topiaryref01_Put.l0 : Nat → List (S23) → List (S23) → Bool → Int → Int → Int → Option ((List (S23)))
 | 0, _, _, _, _, _, _ => none
 | k + 1, x0, x5, x6, x7, x333000, x333001 => if x7 < (x0.length : Int) then (if x6 = true then (if 0 ≤ x7 then (if x5.length < 8796093022208 then (topiaryref01_Put.l0 k x0 (x5 ++ [(⟨(rd_T23 x0 x7).f0, (rd_T23 x0 x7).f1⟩ : S23)]) x6 (wrap64 (x7 + 1)) x333000 x333001) else (none)) else (none)) else (if 0 ≤ x7 then ((topiaryref01_Less.f x333000 x333001 ((rd_T23 x0 x7).f0) ((rd_T23 x0 x7).f1)).bind fun t342 => (if t342 = true then (if x5.length < 8796093022208 then ((some (x5 ++ [(⟨x333000, x333001⟩ : S23)] : List (S23))).bind fun y343 => (if y343.length < 8796093022208 then (topiaryref01_Put.l0 k x0 (y343 ++ [(⟨(rd_T23 x0 x7).f0, (rd_T23 x0 x7).f1⟩ : S23)]) true (wrap64 (x7 + 1)) x333000 x333001) else (none))) else (none)) else (if x5.length < 8796093022208 then (topiaryref01_Put.l0 k x0 (x5 ++ [(⟨(rd_T23 x0 x7).f0, (rd_T23 x0 x7).f1⟩ : S23)]) x6 (wrap64 (x7 + 1)) x333000 x333001) else (none)))) else (none))) else (if x6 = true then (some x5) else (if x5.length < 8796093022208 then (some (x5 ++ [(⟨x333000, x333001⟩ : S23)])) else (none)))
def topiaryref01_Put.f (k : Nat) (l0 : List (S23)) (a1_0 : Int) (a1_1 : Int) : Option ((List (S23))) := (topiaryref01_Has.f k l0 a1_0 a1_1).bind fun t333 => (if t333 = true then (some l0) else (topiaryref01_Put.l0 k l0 (([] : List (S23))) false 0 a1_0 a1_1))
theorem topiaryref01_Put.mono_l : ∀ k, (∀ y0 y1 y2 y3 y4 y5, LeO (topiaryref01_Put.l0 k y0 y1 y2 y3 y4 y5) (topiaryref01_Put.l0 (k + 1) y0 y1 y2 y3 y4 y5))
 | 0 => fun _ _ _ _ _ _ r h => by simp [topiaryref01_Put.l0] at h
 | k + 1 => by
  have ih0 := topiaryref01_Put.mono_l k
  ·intro y0 y1 y2 y3 y4 y5
   unfold topiaryref01_Put.l0
   repeat' first
   | (with_reducible exact ih0 _ _ _ _ _ _)
   | (with_reducible exact topiaryref01_Has.mono _ _ _ _)
   | (with_reducible exact LeO.refl _)
   | (with_reducible exact LeO.none _)
   | (with_reducible refine LeO.ite ?_ ?_)
   | (with_reducible refine LeO.bind ?_ (fun _ => ?_))
   | exact ih0 _ _ _ _ _ _
   | exact topiaryref01_Has.mono _ _ _ _
   | exact LeO.none _
   | refine LeO.ite ?_ ?_
   | refine LeO.bind ?_ (fun _ => ?_)
theorem topiaryref01_Put.mono : ∀ a0 a1 a2 k, LeO (topiaryref01_Put.f k a0 a1 a2) (topiaryref01_Put.f (k + 1) a0 a1 a2) := by
 intro a0 a1 a2 k
 have ih0 := topiaryref01_Put.mono_l k
 unfold topiaryref01_Put.f
 repeat' first
   | (with_reducible exact ih0 _ _ _ _ _ _)
   | (with_reducible exact topiaryref01_Has.mono _ _ _ _)
   | (with_reducible exact LeO.refl _)
   | (with_reducible exact LeO.none _)
   | (with_reducible refine LeO.ite ?_ ?_)
   | (with_reducible refine LeO.bind ?_ (fun _ => ?_))
   | exact ih0 _ _ _ _ _ _
   | exact topiaryref01_Has.mono _ _ _ _
   | exact LeO.none _
   | refine LeO.ite ?_ ?_
   | refine LeO.bind ?_ (fun _ => ?_)
def topiaryref01_Put.T8 : Bool × List (List Nat × List Nat) := (true, [([], []), ([0], [0]), ([1], [1]), ([2], [2]), ([2], [2]), ([2], [2]), ([4, 5, 2], [2, 4, 5]), ([6, 2], [2, 6]), ([3, 7, 2, 2], [2, 3, 7]), ([2, 8], [2, 8])])
def topiaryref01_Put.B8 : List Nat := [0, 1, 3, 7, 7, 7, 55, 119, 255, 511]
theorem topiaryref01_Put.tab8 : rtab .any (opsOf Tryz.f60 8) = topiaryref01_Put.T8 := by kernel_rfl
theorem topiaryref01_Put.bits8 : waitsOk topiaryref01_Put.T8.2 topiaryref01_Put.B8 = true := by kernel_rfl
set_option maxHeartbeats 8000000 in
set_option maxRecDepth 100000 in
theorem topiaryref01_Put.calls (k : Nat) (P0_ : Nat → Prop) (u9000_ : Value) (l0 : List (S23)) (a1_0 : Int) (a1_1 : Int) (r : List (S23)) (w0 w : World) (hB : Below w0.heap.size w0 w) (ho0 : Kd.R k23 23 w w0.heap.size P0_ u9000_ l0) (h : topiaryref01_Put.f k l0 a1_0 a1_1 = some r) :
  Calls Tryz.prog 60 #[u9000_, .agg #[.int .i64 a1_0, .int .i64 a1_1]] w fun e w' => ∃ v0_ : Value, e = .returned (v0_) ∧ Kd.R k23 23 w' w0.heap.size (fun k_ => (P0_ k_ ∨ w.heap.size ≤ k_)) v0_ r ∧ Below w0.heap.size w0 w' ∧ Kept w w' (fun k_ => P0_ k_) := by
 have hu23 := Tryz.underlying23
 have HO0 := Aside0.mk (show Kd.R k23 23 w w0.heap.size (fun k_ => (P0_ k_ ∨ w.heap.size ≤ k_)) u9000_ l0 from Kd.R_mono ho0 (fun k_ hk => (.inl hk)))
 have HK := Aside0.mk (Kept.refl w (fun k_ => P0_ k_))
 have HW0 := Aside0.mk hB.size
 have HB := Aside0.mk hB
 clear hB
 have H : ((topiaryref01_Has.f k l0 a1_0 a1_1).bind fun t333 => (if t333 = true then (some l0) else (topiaryref01_Put.l0 k l0 (([] : List (S23))) false 0 a1_0 a1_1))) = some r := h
 clear h
 replace H := Option.bind_eq_some_iff.mp H
 obtain ⟨t333, A30, H⟩ := H
 have A3 := Aside0.mk A30
 clear A30
 by_cases c4 : t333 = true
 ·subst c4
  have H1 : (some l0) = some r := by rw [if_pos rfl] at H; exact H
  clear H
  have H := H1
  clear H1
  obtain rfl := Option.some.inj H
  go_enter Tryz.func60, Tryz.ntmps60
  go_wp2_with (first | ((with_reducible refine gate_dst (N := 3) rfl ?_); refine box_event ?hg (N := 3) ?hd (cs := #[.int .i64 a1_0, .int .i64 a1_1]) (t := 23) ?hr ?_; (case hd => rfl); (case hg => rfl); (case hr => first | (go_simp; done) | (go_simp; rfl)); intro gb332 hg w5 hbox hb; replace HO0 := Aside0.mk (Kd.R_below (Kd.R_elderB zq39_ gb332 (Nat.le_of_eq hg.symm)) hb); have BK332 := Aside0.mk (hbox); have GW332 := Aside0.mk (((by rw [hg]; exact (by first | exact HK.out.1 | exact (show Kept w _ (fun k_ => P0_ k_) from by repeat (first | (with_reducible first | exact HK.out | apply Kept.alloc | apply Kept.drewN | apply Kept.drew) | exact HK.out)).1)) : w.heap.size ≤ gb332)); replace HK := Aside0.mk (Kept.below (S := (fun k_ => P0_ k_)) (by repeat (first | (with_reducible first | exact HK.out | apply Kept.alloc | apply Kept.drewN | apply Kept.drew) | exact HK.out)) hb); have GE332 := Aside0.mk ((zq7_ : w0.heap.size ≤ gb332)); replace HB := Aside0.mk (below_step zq0_ hb); clear hb hbox hg; obtain ⟨hcz6_0, hfz6_0, hcz6_1, hfz6_1⟩ := zqC2_ BK332.out; obtain ⟨Ao7, co7, eo7⟩ := Kd.R_slice HO0.out; subst eo7) | ((with_reducible refine gate_callee (f := 86) rfl ?_); refine zqG_ (some 10) rfl Tryz.func86 #[.slice Ao7 l0.length co7, .agg #[.int .i64 a1_0, .int .i64 a1_1]] rfl ?_; (with_reducible refine (topiaryref01_Has.calls k _ _ l0 a1_0 a1_1 true _ ?side1 ?side2 A3.out).mono ?_); (case side1 => repeat (first | exact (Kd.R_reads' HO0.out).2.2 | (with_reducible refine Kd.C_alloc ?_ _) | (with_reducible refine Kd.C_drewN ?_ _) | (with_reducible refine Kd.C_drew ?_))); (case side2 => exact (Kd.R_reads' HO0.out).2.1); rintro e w8 ⟨rfl, hb⟩; refine ⟨_, rfl, ?_⟩; replace HO0 := Aside0.mk (Kd.R_below zq39_ hb); replace BK332 := Aside0.mk (blk_below (zqK_ BK332.out) hb); replace HK := Aside0.mk (Kept.below (S := (fun k_ => P0_ k_)) zq11_ hb); replace HB := Aside0.mk (below_step (zqB1_ GE332.out) hb); (try clear hb); (try clear hb2); (try clear hk); (try clear hi)))
  go_ret
  exact ⟨_, by first | rfl | (simp [errW_none, errW_some] <;> rfl) | (simp [*, errW_none, errW_some] <;> rfl), by (with_reducible repeat (first | apply Kd.R_alloc | apply Kd.R_drewN | apply Kd.R_drew)); exact Kd.R_mono HO0.out (fun _ hk => hk.1), by repeat (first | (with_reducible first | exact HB.out | apply below_alloc | apply pw_below_drewN | apply below_drew1 | refine below_set ?_ GE332.out) | exact HB.out), by repeat (first | (with_reducible first | exact HK.out | apply Kept.alloc | apply Kept.drewN | apply Kept.drew | refine Kept.setCell ?_ (.inr GW332.out) _) | exact HK.out)⟩
 ·replace c4 := Bool.eq_false_iff.mpr c4
  subst c4
  have H1 : (topiaryref01_Put.l0 k l0 (([] : List (S23))) false 0 a1_0 a1_1) = some r := by rw [if_neg (show ¬ (false = true) by decide)] at H; exact H
  clear H
  have H := H1
  clear H1
  obtain ⟨y334, hy334⟩ : ∃ y_ : List (S23), y_ = (([] : List (S23))) := ⟨_, rfl⟩
  replace H : (topiaryref01_Put.l0 k l0 y334 false 0 a1_0 a1_1) = some r := by first | (rw [hy334]; with_reducible exact H) | (have H2_ := (Option.bind_some _ _).symm.trans H; rw [hy334]; with_reducible exact H2_) | (have H2_ := (Option.bind_some _ _).symm.trans H; with_reducible exact H2_) | with_reducible exact H | (rw [hy334]; exact H) | exact H
  have Ny334 := Aside0.mk hy334
  clear hy334
  have H' := Aside0.mk H
  clear H
  go_enter Tryz.func60, Tryz.ntmps60
  go_wp2_with (first | ((with_reducible refine gate_dst (N := 3) rfl ?_); refine box_event ?hg (N := 3) ?hd (cs := #[.int .i64 a1_0, .int .i64 a1_1]) (t := 23) ?hr ?_; (case hd => rfl); (case hg => rfl); (case hr => first | (go_simp; done) | (go_simp; rfl)); intro gb332 hg w9 hbox hb; replace HO0 := Aside0.mk (Kd.R_below (Kd.R_elderB zq39_ gb332 (Nat.le_of_eq hg.symm)) hb); have BK332 := Aside0.mk (hbox); have GW332 := Aside0.mk (((by rw [hg]; exact (by first | exact HK.out.1 | exact (show Kept w _ (fun k_ => P0_ k_) from by repeat (first | (with_reducible first | exact HK.out | apply Kept.alloc | apply Kept.drewN | apply Kept.drew) | exact HK.out)).1)) : w.heap.size ≤ gb332)); replace HK := Aside0.mk (Kept.below (S := (fun k_ => P0_ k_)) (by repeat (first | (with_reducible first | exact HK.out | apply Kept.alloc | apply Kept.drewN | apply Kept.drew) | exact HK.out)) hb); have GE332 := Aside0.mk ((zq7_ : w0.heap.size ≤ gb332)); replace HB := Aside0.mk (below_step zq0_ hb); clear hb hbox hg; obtain ⟨hcz10_0, hfz10_0, hcz10_1, hfz10_1⟩ := zqC2_ BK332.out; obtain ⟨Ao11, co11, eo11⟩ := Kd.R_slice HO0.out; subst eo11) | ((with_reducible refine gate_callee (f := 86) rfl ?_); refine zqG_ (some 10) rfl Tryz.func86 #[.slice Ao11 l0.length co11, .agg #[.int .i64 a1_0, .int .i64 a1_1]] rfl ?_; (with_reducible refine (topiaryref01_Has.calls k _ _ l0 a1_0 a1_1 false _ ?side1 ?side2 A3.out).mono ?_); (case side1 => repeat (first | exact (Kd.R_reads' HO0.out).2.2 | (with_reducible refine Kd.C_alloc ?_ _) | (with_reducible refine Kd.C_drewN ?_ _) | (with_reducible refine Kd.C_drew ?_))); (case side2 => exact (Kd.R_reads' HO0.out).2.1); rintro e w12 ⟨rfl, hb⟩; refine ⟨_, rfl, ?_⟩; replace HO0 := Aside0.mk (Kd.R_below zq39_ hb); replace BK332 := Aside0.mk (blk_below (zqK_ BK332.out) hb); replace HK := Aside0.mk (Kept.below (S := (fun k_ => P0_ k_)) zq11_ hb); replace HB := Aside0.mk (below_step (zqB1_ GE332.out) hb); (try clear hb); (try clear hb2); (try clear hk); (try clear hi)) | ((with_reducible refine gate_dst (N := 12) rfl ?_); refine Kd.R_lit k23 _ 23 ?hg (N := 12) ?hd (xs := ([] : List (S23))) (inner := []) (ok := fun _ => True) (okp := fun _ => True) ?hr ?hp (fun _ hk => hk) trivial (Below.refl _ _) (Nat.le_refl _) (by simp) ?_; (case hd => rfl); (case hg => rfl); (case hr => first | (go_simp; done) | (go_simp; rfl)); (case hp => exact (Reps.none _ _)); intro v335 w13 ho14 hb hg_ hnew_; clear hg_ hnew_; (first | rw [← Ny334.out] at ho14 | (simp only [Int.reduceToNat] at ho14; rw [← Ny334.out] at ho14)); have HO336 := Aside0.mk (Kd.R_lower (Kd.R_newB (Kd.R_new' (Kd.R_newM (M := fun k_ => (P0_ k_ ∨ w.heap.size ≤ k_)) ho14 zq18_ (fun k_ h_ => .inr h_)) (Kd.R_lt zq39_)) (zqK_ BK332.out)) (below_size (zqB1_ GE332.out))); replace HO0 := Aside0.mk (Kd.R_elder' zq39_ (Kd.R_base ho14) hb); replace BK332 := Aside0.mk (blk_below (zqK_ BK332.out) hb); replace HK := Aside0.mk (Kept.below (S := (fun k_ => P0_ k_)) zq11_ hb); replace HB := Aside0.mk (below_step (zqB1_ GE332.out) hb); clear hb ho14))
  go_loopg [5, 6, 7] k (fun kq v5 v6 v7 w' => ∃ (x5_1 : List (S23)) (x6_1 : Bool) (x7_1 : Int), v6 = .bool x6_1 ∧ v7 = .int .i64 x7_1 ∧ Aside0 (topiaryref01_Put.l0 kq l0 x5_1 x6_1 x7_1 a1_0 a1_1 = some r) ∧ Aside0 (kq ≤ k) ∧ Aside0 (Kd.R k23 23 w' w0.heap.size (fun k_ => (P0_ k_ ∨ w.heap.size ≤ k_) ∧ some k_ ≠ (v5 : Value).ownBlock ∧ k_ ≠ gb332) (.slice Ao11 l0.length co11) l0) ∧ Aside0 (Kd.R k23 23 w' w0.heap.size (fun k_ => (P0_ k_ ∨ w.heap.size ≤ k_) ∧ some k_ ≠ ((.slice Ao11 l0.length co11) : Value).ownBlock ∧ k_ ≠ gb332) v5 x5_1) ∧ Aside0 (w'.heap[gb332]? = some (.cells #[.int .i64 a1_0, .int .i64 a1_1] 23 (0, 0))) ∧ Aside0 (Kept w w' (fun k_ => P0_ k_)) ∧ Aside0 (Below w0.heap.size w0 w'))
  case atStart => exact ⟨(y334), (false), (0), zq8_, zq8_, H', ⟨Nat.le_refl _⟩, ⟨by (with_reducible repeat (first | apply Kd.R_alloc | apply Kd.R_drewN | apply Kd.R_drew)); exact Kd.R_mono HO0.out (fun _ hk => ⟨hk.1.1, ⟨hk.2, hk.1.2⟩⟩)⟩, ⟨by (with_reducible repeat (first | apply Kd.R_alloc | apply Kd.R_drewN | apply Kd.R_drew)); exact Kd.R_mono HO336.out (fun _ hk => ⟨hk.1.1.1, ⟨hk.1.2, hk.2⟩⟩)⟩, ⟨by (with_reducible repeat (first | refine blk_drewN ?_ _ | refine blk_drew ?_ | refine blk_alloc ?_ _)); exact BK332.out⟩, ⟨by repeat (first | (with_reducible first | exact HK.out | apply Kept.alloc | apply Kept.drewN | apply Kept.drew | refine Kept.setCell ?_ (.inr GW332.out) _) | exact HK.out)⟩, ⟨by repeat (first | (with_reducible first | exact HB.out | apply below_alloc | apply pw_below_drewN | apply below_drew1 | refine below_set ?_ GE332.out) | exact HB.out)⟩⟩
  case round =>
   clear H'
   try clear p2
   try clear c4
   try clear c6
   try clear c8
   try clear hcz10_0 hcz10_1 hfz10_0 hfz10_1
   try clear hcz6_0 hcz6_1 hfz6_0 hfz6_1
   obtain ⟨x5_1, x6_1, x7_1, rfl, rfl, HA, HK1, HO_0, HO_5, BK332, HK, HB⟩ := hrel
   cases gk with
   | zero => exact absurd HA.out (by simp [topiaryref01_Put.l0])
   | succ k1 =>
    have H := HA.out
    clear HA
    simp only [topiaryref01_Put.l0] at H
    by_cases c15 : x7_1 < (l0.length : Int)
    ·rw [if_pos c15] at H
     have c15b0 : decide (x7_1 < (l0.length : Int)) = true := decide_eq_true c15
     clear c15
     by_cases c16 : x6_1 = true
     ·subst c16
      have H1 : (if 0 ≤ x7_1 then (if x5_1.length < 8796093022208 then (topiaryref01_Put.l0 k1 l0 (x5_1 ++ [(⟨(rd_T23 l0 x7_1).f0, (rd_T23 l0 x7_1).f1⟩ : S23)]) true (wrap64 (x7_1 + 1)) a1_0 a1_1) else (none)) else (none)) = some r := by rw [if_pos rfl] at H; exact H
      clear H
      have H := H1
      clear H1
      by_cases c17 : 0 ≤ x7_1
      ·rw [if_pos c17] at H
       have c17b0 : decide (0 ≤ x7_1) = true := decide_eq_true c17
       clear c17
       by_cases c18 : x5_1.length < 8796093022208
       ·rw [if_pos c18] at H
        have LMc18 := Aside0.mk c18
        clear c18
        obtain ⟨y338, hy338⟩ : ∃ y_ : List (S23), y_ = (x5_1 ++ [(⟨(rd_T23 l0 x7_1).f0, (rd_T23 l0 x7_1).f1⟩ : S23)]) := ⟨_, rfl⟩
        replace H : (topiaryref01_Put.l0 k1 l0 y338 true (wrap64 (x7_1 + 1)) a1_0 a1_1) = some r := by first | (rw [hy338]; with_reducible exact H) | (have H2_ := (Option.bind_some _ _).symm.trans H; rw [hy338]; with_reducible exact H2_) | (have H2_ := (Option.bind_some _ _).symm.trans H; with_reducible exact H2_) | with_reducible exact H | (rw [hy338]; exact H) | exact H
        have Ny338 := Aside0.mk hy338
        clear hy338
        have H' := Aside0.mk H
        clear H
        try go_wp2
        replace HO_0 := Aside0.mk (Kd.R_drew HO_0.out)
        replace HO_5 := Aside0.mk (Kd.R_drew HO_5.out)
        replace BK332 := Aside0.mk (blk_drew BK332.out)
        replace HK := Aside0.mk (Kept.drew HK.out)
        replace HB := Aside0.mk (below_drew1 HB.out)
        refine start_ (n := 10) (S := fun w' => True) (ds := []) #[false, false, false, false, false, false, false, false, false, false] (by kernel_rfl) rfl rfl trivial (fun hHeld => ?_); refine with_tabW topiaryref01_Put.tab8 topiaryref01_Put.bits8 (fun HT_ HW_ => ?_)
        generalize wr.drew = w19 at HO_0 HO_5 BK332 HK HB hHeld ⊢
        refine zqp_ 0 19 HT_ ?_
        refine zqp_ 1 20 HT_ ?_
        refine zqp_ 2 21 HT_ ?_
        refine zqu_ 3 22 HT_ ?_
        refine zqu_ 4 23 HT_ ?_
        refine zqu_ 5 24 HT_ ?_
        refine zqu_ 6 25 HT_ ?_
        refine zqu_ 7 26 HT_ ?_
        refine zqu_ 8 27 HT_ ?_
        refine zqp_ 9 28 HT_ ?_
        refine done_ (done_of HT_.out (by kernel_rfl)) ?_
        have p337 : 0 ≤ (x7_1 : Int) := of_decide_eq_true zq2_
        have q337 : x7_1 < (l0.length : Int) := of_decide_eq_true zq2_
        obtain ⟨ad337, e337, hx337_0, hx337_1⟩ := at_T23 (Kd.R_reads' HO_0.out).2.2 x7_1 p337 q337
        cases e337
        replace p337 := eq_true p337
        replace q337 := eq_true q337
        try go_wp2_with (first | ((with_reducible refine gate_builtin (b := .append) (xs := #[.tmp 33, .tmp 38]) rfl ?_); at_builtin; refine Kd.R_append k23 (w0 := w0) w0.heap.size rfl (.tmp 33) (.tmp 38) 39 23 (.agg #[(.int .i64 0), (.int .i64 0)]) 16 rfl Tryz.underlying39 info23 rfl (by decide) (by omega) u5 x5_1 (⟨(rd_T23 l0 x7_1).f0, (rd_T23 l0 x7_1).f1⟩ : S23) [.int .i64 ((rd_T23 l0 x7_1).f0), .int .i64 ((rd_T23 l0 x7_1).f1)] (fun k_ => (P0_ k_ ∨ w.heap.size ≤ k_) ∧ some k_ ≠ (.slice (some ad337) l0.length co11 : Value).ownBlock ∧ k_ ≠ gb332) (fun _ => False) rfl rfl ?aP (fun _ hk => hk.elim) ?aF ?aO ?aB ?aS ?aL ?_; (case aP => exact k23_mkM _ _ _ (⟨(rd_T23 l0 x7_1).f0, (rd_T23 l0 x7_1).f1⟩ : S23)); (case aB => exact (zqB1_ GE332.out)); (case aF => exact (fun k_ hk => ⟨(.inr (Nat.le_trans zq18_ hk)), Kd.fresh' (Kd.R_lt zq33_) k_ hk, Kd.freshB (zqK_ BK332.out) k_ hk⟩)); (case aO => exact zq19_); (case aS => exact (below_size (zqB1_ GE332.out))); (case aL => have := LMc18.out; omega); intro v339 w20 ho hb hg hat; rw [← Ny338.out] at ho; replace HO_0 := Aside0.mk (Kd.R_after (ok := (fun k_ => (P0_ k_ ∨ w.heap.size ≤ k_) ∧ k_ ≠ gb332)) zq40_ hg hat); replace BK332 := Aside0.mk (blk_grown (zqK_ BK332.out) hg (Kd.R_away HO_5.out (fun _ hk => hk.2.2))); replace HB := Aside0.mk (hb); replace HK := Aside0.mk (Kept.of_grown (S := (fun k_ => P0_ k_)) hg zq11_ (fun k_ e_ => (HO_5.out.1 k_ e_).1)); have HO340 := Aside0.mk (ho); clear HO_5; clear ho hb hg hat))
        go_roundg k1
        case measure => have := HK1.out; omega
        case rel => exact ⟨(y338), (true), (wrap64 (x7_1 + 1)), zq8_, zq8_, H', ⟨by have := HK1.out; omega⟩, ⟨by (with_reducible repeat (first | apply Kd.R_alloc | apply Kd.R_drewN | apply Kd.R_drew)); exact Kd.R_mono HO_0.out (fun _ hk => ⟨hk.1.1, ⟨hk.2, hk.1.2⟩⟩)⟩, ⟨by (with_reducible repeat (first | apply Kd.R_alloc | apply Kd.R_drewN | apply Kd.R_drew)); exact HO340.out⟩, ⟨by (with_reducible repeat (first | refine blk_drewN ?_ _ | refine blk_drew ?_ | refine blk_alloc ?_ _)); exact BK332.out⟩, ⟨by repeat (first | (with_reducible first | exact HK.out | apply Kept.alloc | apply Kept.drewN | apply Kept.drew | refine Kept.setCell ?_ (.inr GW332.out) _) | exact HK.out)⟩, ⟨by repeat (first | (with_reducible first | exact HB.out | apply below_alloc | apply pw_below_drewN | apply below_drew1 | refine below_set ?_ GE332.out) | exact HB.out)⟩⟩
       ·rw [if_neg c18] at H
        exact absurd H (by simp)
      ·rw [if_neg c17] at H
       exact absurd H (by simp)
     ·replace c16 := Bool.eq_false_iff.mpr c16
      subst c16
      have H1 : (if 0 ≤ x7_1 then ((topiaryref01_Less.f a1_0 a1_1 ((rd_T23 l0 x7_1).f0) ((rd_T23 l0 x7_1).f1)).bind fun t342 => (if t342 = true then (if x5_1.length < 8796093022208 then ((some (x5_1 ++ [(⟨a1_0, a1_1⟩ : S23)] : List (S23))).bind fun y343 => (if y343.length < 8796093022208 then (topiaryref01_Put.l0 k1 l0 (y343 ++ [(⟨(rd_T23 l0 x7_1).f0, (rd_T23 l0 x7_1).f1⟩ : S23)]) true (wrap64 (x7_1 + 1)) a1_0 a1_1) else (none))) else (none)) else (if x5_1.length < 8796093022208 then (topiaryref01_Put.l0 k1 l0 (x5_1 ++ [(⟨(rd_T23 l0 x7_1).f0, (rd_T23 l0 x7_1).f1⟩ : S23)]) false (wrap64 (x7_1 + 1)) a1_0 a1_1) else (none)))) else (none)) = some r := by rw [if_neg (show ¬ (false = true) by decide)] at H; exact H
      clear H
      have H := H1
      clear H1
      by_cases c21 : 0 ≤ x7_1
      ·rw [if_pos c21] at H
       have c21b0 : decide (0 ≤ x7_1) = true := decide_eq_true c21
       clear c21
       replace H := Option.bind_eq_some_iff.mp H
       obtain ⟨t342, A220, H⟩ := H
       have A22 := Aside0.mk A220
       clear A220
       by_cases c23 : t342 = true
       ·subst c23
        have H1 : (if x5_1.length < 8796093022208 then ((some (x5_1 ++ [(⟨a1_0, a1_1⟩ : S23)] : List (S23))).bind fun y343 => (if y343.length < 8796093022208 then (topiaryref01_Put.l0 k1 l0 (y343 ++ [(⟨(rd_T23 l0 x7_1).f0, (rd_T23 l0 x7_1).f1⟩ : S23)]) true (wrap64 (x7_1 + 1)) a1_0 a1_1) else (none))) else (none)) = some r := by rw [if_pos rfl] at H; exact H
        clear H
        have H := H1
        clear H1
        by_cases c24 : x5_1.length < 8796093022208
        ·rw [if_pos c24] at H
         have LMc24 := Aside0.mk c24
         clear c24
         obtain ⟨y343, hy343⟩ : ∃ y_ : List (S23), y_ = (x5_1 ++ [(⟨a1_0, a1_1⟩ : S23)]) := ⟨_, rfl⟩
         replace H : (if y343.length < 8796093022208 then (topiaryref01_Put.l0 k1 l0 (y343 ++ [(⟨(rd_T23 l0 x7_1).f0, (rd_T23 l0 x7_1).f1⟩ : S23)]) true (wrap64 (x7_1 + 1)) a1_0 a1_1) else (none)) = some r := by first | (rw [hy343]; with_reducible exact H) | (have H2_ := (Option.bind_some _ _).symm.trans H; rw [hy343]; with_reducible exact H2_) | (have H2_ := (Option.bind_some _ _).symm.trans H; with_reducible exact H2_) | with_reducible exact H | (rw [hy343]; exact H) | exact H
         have Ny343 := Aside0.mk hy343
         clear hy343
         by_cases c25 : y343.length < 8796093022208
         ·rw [if_pos c25] at H
          have LMc25 := Aside0.mk c25
          clear c25
          obtain ⟨y347, hy347⟩ : ∃ y_ : List (S23), y_ = (y343 ++ [(⟨(rd_T23 l0 x7_1).f0, (rd_T23 l0 x7_1).f1⟩ : S23)]) := ⟨_, rfl⟩
          replace H : (topiaryref01_Put.l0 k1 l0 y347 true (wrap64 (x7_1 + 1)) a1_0 a1_1) = some r := by first | (rw [hy347]; with_reducible exact H) | (have H2_ := (Option.bind_some _ _).symm.trans H; rw [hy347]; with_reducible exact H2_) | (have H2_ := (Option.bind_some _ _).symm.trans H; with_reducible exact H2_) | with_reducible exact H | (rw [hy347]; exact H) | exact H
          have Ny347 := Aside0.mk hy347
          clear hy347
          have H' := Aside0.mk H
          clear H
          try go_wp2
          replace HO_0 := Aside0.mk (Kd.R_drew HO_0.out)
          replace HO_5 := Aside0.mk (Kd.R_drew HO_5.out)
          replace BK332 := Aside0.mk (blk_drew BK332.out)
          replace HK := Aside0.mk (Kept.drew HK.out)
          replace HB := Aside0.mk (below_drew1 HB.out)
          have p341 : 0 ≤ (x7_1 : Int) := of_decide_eq_true zq2_
          have q341 : x7_1 < (l0.length : Int) := of_decide_eq_true zq2_
          obtain ⟨ad341, e341, hx341_0, hx341_1⟩ := at_T23 (Kd.R_reads' HO_0.out).2.2 x7_1 p341 q341
          cases e341
          replace p341 := eq_true p341
          replace q341 := eq_true q341
          refine start_ (n := 10) (S := fun w' => w'.cell? ⟨gb332, 0, none⟩ = some (.int .i64 a1_0) ∧ w'.cell? ⟨gb332, 1, none⟩ = some (.int .i64 a1_1) ∧ w'.cell? (ad341.add ((x7_1).toNat * 2)) = some (.int .i64 ((rd_T23 l0 x7_1).f0)) ∧ w'.cell? ⟨(ad341.add ((x7_1).toNat * 2)).block, (ad341.add ((x7_1).toNat * 2)).off + 1, none⟩ = some (.int .i64 ((rd_T23 l0 x7_1).f1))) (ds := []) #[false, false, false, false, false, false, false, false, false, false] (by kernel_rfl) rfl rfl ⟨(blk_cell BK332.out 0).trans rfl, (blk_cell BK332.out 1).trans rfl, hx341_0, hx341_1⟩ (fun hHeld => ?_); refine with_tabW topiaryref01_Put.tab8 topiaryref01_Put.bits8 (fun HT_ HW_ => ?_)
          generalize wr.drew = w26 at HO_0 HO_5 BK332 HK HB hx341_0 hx341_1 hHeld ⊢
          refine zqp_ 0 19 HT_ ?_
          refine zqp_ 1 20 HT_ ?_
          refine zqp_ 2 21 HT_ ?_
          refine zqp_ 4 23 HT_ ?_
          refine zqp_ 5 24 HT_ ?_
          refine zqp_ 6 25 HT_ ?_
          refine zqt4_ 3 22 HT_ HW_ hHeld ?_
          refine zqt4_ 7 26 HT_ HW_ hHeld ?_
          refine zqo_ 8 27 HT_ (fun K hK => ?_)
          refine goes_ Tryz.func20 (by kernel_rfl) rfl #[.agg #[.int .i64 a1_0, .int .i64 a1_1], .agg #[.int .i64 ((rd_T23 l0 x7_1).f0), .int .i64 ((rd_T23 l0 x7_1).f1)]] (by rfl) rfl rfl zq3_ ?_
          with_reducible refine (topiaryref01_Less.calls a1_0 a1_1 ((rd_T23 l0 x7_1).f0) ((rd_T23 l0 x7_1).f1) true _ A22.out).mono ?_
          rintro e w27 ⟨rfl, hb⟩
          have HS2_ := (hb.cell (World.block_lt_of_cell? _ _ (hHeld.2.2.1))).trans (hHeld.2.2.1)
          have HS3_ := (hb.cell (World.block_lt_of_cell? _ _ (hHeld.2.2.2))).trans (hHeld.2.2.2)
          refine ⟨_, rfl, ?_⟩
          replace HO_0 := Aside0.mk (Kd.R_below zq33_ hb)
          replace HO_5 := Aside0.mk (Kd.R_below zq19_ hb)
          replace BK332 := Aside0.mk (blk_below (zqK_ BK332.out) hb)
          replace HK := Aside0.mk (Kept.below (S := (fun k_ => P0_ k_)) zq11_ hb)
          replace HB := Aside0.mk (below_step (zqB1_ GE332.out) hb)
          (try clear hb)
          (try clear hb2)
          (try clear hk)
          (try clear hi)
          refine hK.out _ _ ⟨(blk_cell BK332.out 0).trans rfl, (blk_cell BK332.out 1).trans rfl, HS2_, HS3_⟩ (fun hHeld => ?_)
          clear hK K
          refine norm_ (a' := ?_) ?_ ?_
          rotate_left
          ·show Act.put _ (some 27) _ = _
           simp only [Act.put, List.setIfInBounds_toArray, List.set_cons_zero, List.set_cons_succ, i64_w, i32_w]
           rfl
          refine zqp_ 9 28 HT_ ?_
          refine done_ (done_of HT_.out (by kernel_rfl)) ?_
          obtain ⟨hcz28_0, hfz28_0, hcz28_1, hfz28_1⟩ := zqC2_ BK332.out
          try go_wp2_with (first | ((with_reducible refine gate_builtin (b := .append) (xs := #[.tmp 29, .tmp 31]) rfl ?_); at_builtin; refine Kd.R_append k23 (w0 := w0) w0.heap.size rfl (.tmp 29) (.tmp 31) 39 23 (.agg #[(.int .i64 0), (.int .i64 0)]) 16 rfl Tryz.underlying39 info23 rfl (by decide) (by omega) u5 x5_1 (⟨a1_0, a1_1⟩ : S23) [.int .i64 a1_0, .int .i64 a1_1] (fun k_ => (P0_ k_ ∨ w.heap.size ≤ k_) ∧ some k_ ≠ (.slice (some ad341) l0.length co11 : Value).ownBlock ∧ k_ ≠ gb332) (fun _ => False) rfl rfl ?aP (fun _ hk => hk.elim) ?aF ?aO ?aB ?aS ?aL ?_; (case aP => exact k23_mkM _ _ _ (⟨a1_0, a1_1⟩ : S23)); (case aB => exact (zqB1_ GE332.out)); (case aF => exact (fun k_ hk => ⟨(.inr (Nat.le_trans zq18_ hk)), Kd.fresh' (Kd.R_lt zq33_) k_ hk, Kd.freshB (zqK_ BK332.out) k_ hk⟩)); (case aO => exact zq19_); (case aS => exact (below_size (zqB1_ GE332.out))); (case aL => have := LMc24.out; omega); intro v344 w29 ho hb hg hat; rw [← Ny343.out] at ho; replace HO_0 := Aside0.mk (Kd.R_after (ok := (fun k_ => (P0_ k_ ∨ w.heap.size ≤ k_) ∧ k_ ≠ gb332)) zq40_ hg hat); replace BK332 := Aside0.mk (blk_grown (zqK_ BK332.out) hg (Kd.R_away HO_5.out (fun _ hk => hk.2.2))); replace HB := Aside0.mk (hb); replace HK := Aside0.mk (Kept.of_grown (S := (fun k_ => P0_ k_)) hg zq11_ (fun k_ e_ => (HO_5.out.1 k_ e_).1)); have HO345 := Aside0.mk (ho); clear HO_5; clear ho hb hg hat; have p346 : 0 ≤ (x7_1 : Int) := of_decide_eq_true zq2_; have q346 : x7_1 < (l0.length : Int) := of_decide_eq_true zq2_; obtain ⟨ad346, e346, hx346_0, hx346_1⟩ := at_T23 (Kd.R_reads' HO_0.out).2.2 x7_1 p346 q346; obtain rfl : ad341 = ad346 := (by injection e346); replace p346 := eq_true p346; replace q346 := eq_true q346) | ((with_reducible refine gate_builtin (b := .append) (xs := #[.tmp 33, .tmp 38]) rfl ?_); at_builtin; refine Kd.R_append k23 (w0 := w0) w0.heap.size rfl (.tmp 33) (.tmp 38) 39 23 (.agg #[(.int .i64 0), (.int .i64 0)]) 16 rfl Tryz.underlying39 info23 rfl (by decide) (by omega) v344 y343 (⟨(rd_T23 l0 x7_1).f0, (rd_T23 l0 x7_1).f1⟩ : S23) [.int .i64 ((rd_T23 l0 x7_1).f0), .int .i64 ((rd_T23 l0 x7_1).f1)] (fun k_ => (P0_ k_ ∨ w.heap.size ≤ k_) ∧ some k_ ≠ (.slice (some ad341) l0.length co11 : Value).ownBlock ∧ k_ ≠ gb332) (fun _ => False) rfl rfl ?aP (fun _ hk => hk.elim) ?aF ?aO ?aB ?aS ?aL ?_; (case aP => exact k23_mkM _ _ _ (⟨(rd_T23 l0 x7_1).f0, (rd_T23 l0 x7_1).f1⟩ : S23)); (case aB => exact (zqB1_ GE332.out)); (case aF => exact (fun k_ hk => ⟨(.inr (Nat.le_trans zq18_ hk)), Kd.fresh' (Kd.R_lt zq33_) k_ hk, Kd.freshB (zqK_ BK332.out) k_ hk⟩)); (case aO => exact (by (with_reducible repeat (first | apply Kd.R_alloc | apply Kd.R_drewN | apply Kd.R_drew)); exact HO345.out)); (case aS => exact (below_size (zqB1_ GE332.out))); (case aL => have := LMc25.out; omega); intro v348 w30 ho hb hg hat; rw [← Ny347.out] at ho; replace HO_0 := Aside0.mk (Kd.R_after (ok := (fun k_ => (P0_ k_ ∨ w.heap.size ≤ k_) ∧ k_ ≠ gb332)) zq33_ hg hat); replace BK332 := Aside0.mk (blk_grown (zqK_ BK332.out) hg (Kd.R_away HO345.out (fun _ hk => hk.2.2))); replace HB := Aside0.mk (hb); replace HK := Aside0.mk (Kept.of_grown (S := (fun k_ => P0_ k_)) hg zq11_ (fun k_ e_ => (HO345.out.1 k_ e_).1)); have HO349 := Aside0.mk (ho); clear HO345; clear ho hb hg hat))
          go_roundg k1
          case measure => have := HK1.out; omega
          case rel => exact ⟨(y347), (true), (wrap64 (x7_1 + 1)), zq8_, zq8_, H', ⟨by have := HK1.out; omega⟩, ⟨by (with_reducible repeat (first | apply Kd.R_alloc | apply Kd.R_drewN | apply Kd.R_drew)); exact Kd.R_mono HO_0.out (fun _ hk => ⟨hk.1.1, ⟨hk.2, hk.1.2⟩⟩)⟩, ⟨by (with_reducible repeat (first | apply Kd.R_alloc | apply Kd.R_drewN | apply Kd.R_drew)); exact HO349.out⟩, ⟨by (with_reducible repeat (first | refine blk_drewN ?_ _ | refine blk_drew ?_ | refine blk_alloc ?_ _)); exact BK332.out⟩, ⟨by repeat (first | (with_reducible first | exact HK.out | apply Kept.alloc | apply Kept.drewN | apply Kept.drew | refine Kept.setCell ?_ (.inr GW332.out) _) | exact HK.out)⟩, ⟨by repeat (first | (with_reducible first | exact HB.out | apply below_alloc | apply pw_below_drewN | apply below_drew1 | refine below_set ?_ GE332.out) | exact HB.out)⟩⟩
         ·rw [if_neg c25] at H
          exact absurd H (by simp)
        ·rw [if_neg c24] at H
         exact absurd H (by simp)
       ·replace c23 := Bool.eq_false_iff.mpr c23
        subst c23
        have H1 : (if x5_1.length < 8796093022208 then (topiaryref01_Put.l0 k1 l0 (x5_1 ++ [(⟨(rd_T23 l0 x7_1).f0, (rd_T23 l0 x7_1).f1⟩ : S23)]) false (wrap64 (x7_1 + 1)) a1_0 a1_1) else (none)) = some r := by rw [if_neg (show ¬ (false = true) by decide)] at H; exact H
        clear H
        have H := H1
        clear H1
        by_cases c31 : x5_1.length < 8796093022208
        ·rw [if_pos c31] at H
         have LMc31 := Aside0.mk c31
         clear c31
         obtain ⟨y351, hy351⟩ : ∃ y_ : List (S23), y_ = (x5_1 ++ [(⟨(rd_T23 l0 x7_1).f0, (rd_T23 l0 x7_1).f1⟩ : S23)]) := ⟨_, rfl⟩
         replace H : (topiaryref01_Put.l0 k1 l0 y351 false (wrap64 (x7_1 + 1)) a1_0 a1_1) = some r := by first | (rw [hy351]; with_reducible exact H) | (have H2_ := (Option.bind_some _ _).symm.trans H; rw [hy351]; with_reducible exact H2_) | (have H2_ := (Option.bind_some _ _).symm.trans H; with_reducible exact H2_) | with_reducible exact H | (rw [hy351]; exact H) | exact H
         have Ny351 := Aside0.mk hy351
         clear hy351
         have H' := Aside0.mk H
         clear H
         try go_wp2
         replace HO_0 := Aside0.mk (Kd.R_drew HO_0.out)
         replace HO_5 := Aside0.mk (Kd.R_drew HO_5.out)
         replace BK332 := Aside0.mk (blk_drew BK332.out)
         replace HK := Aside0.mk (Kept.drew HK.out)
         replace HB := Aside0.mk (below_drew1 HB.out)
         have p341 : 0 ≤ (x7_1 : Int) := of_decide_eq_true zq2_
         have q341 : x7_1 < (l0.length : Int) := of_decide_eq_true zq2_
         obtain ⟨ad341, e341, hx341_0, hx341_1⟩ := at_T23 (Kd.R_reads' HO_0.out).2.2 x7_1 p341 q341
         cases e341
         replace p341 := eq_true p341
         replace q341 := eq_true q341
         refine start_ (n := 10) (S := fun w' => w'.cell? ⟨gb332, 0, none⟩ = some (.int .i64 a1_0) ∧ w'.cell? ⟨gb332, 1, none⟩ = some (.int .i64 a1_1) ∧ w'.cell? (ad341.add ((x7_1).toNat * 2)) = some (.int .i64 ((rd_T23 l0 x7_1).f0)) ∧ w'.cell? ⟨(ad341.add ((x7_1).toNat * 2)).block, (ad341.add ((x7_1).toNat * 2)).off + 1, none⟩ = some (.int .i64 ((rd_T23 l0 x7_1).f1))) (ds := []) #[false, false, false, false, false, false, false, false, false, false] (by kernel_rfl) rfl rfl ⟨(blk_cell BK332.out 0).trans rfl, (blk_cell BK332.out 1).trans rfl, hx341_0, hx341_1⟩ (fun hHeld => ?_); refine with_tabW topiaryref01_Put.tab8 topiaryref01_Put.bits8 (fun HT_ HW_ => ?_)
         generalize wr.drew = w32 at HO_0 HO_5 BK332 HK HB hx341_0 hx341_1 hHeld ⊢
         refine zqp_ 0 19 HT_ ?_
         refine zqp_ 1 20 HT_ ?_
         refine zqp_ 2 21 HT_ ?_
         refine zqp_ 4 23 HT_ ?_
         refine zqp_ 5 24 HT_ ?_
         refine zqp_ 6 25 HT_ ?_
         refine zqt4_ 3 22 HT_ HW_ hHeld ?_
         refine zqt4_ 7 26 HT_ HW_ hHeld ?_
         refine zqo_ 8 27 HT_ (fun K hK => ?_)
         refine goes_ Tryz.func20 (by kernel_rfl) rfl #[.agg #[.int .i64 a1_0, .int .i64 a1_1], .agg #[.int .i64 ((rd_T23 l0 x7_1).f0), .int .i64 ((rd_T23 l0 x7_1).f1)]] (by rfl) rfl rfl zq3_ ?_
         with_reducible refine (topiaryref01_Less.calls a1_0 a1_1 ((rd_T23 l0 x7_1).f0) ((rd_T23 l0 x7_1).f1) false _ A22.out).mono ?_
         rintro e w33 ⟨rfl, hb⟩
         have HS2_ := (hb.cell (World.block_lt_of_cell? _ _ (hHeld.2.2.1))).trans (hHeld.2.2.1)
         have HS3_ := (hb.cell (World.block_lt_of_cell? _ _ (hHeld.2.2.2))).trans (hHeld.2.2.2)
         refine ⟨_, rfl, ?_⟩
         replace HO_0 := Aside0.mk (Kd.R_below zq33_ hb)
         replace HO_5 := Aside0.mk (Kd.R_below zq19_ hb)
         replace BK332 := Aside0.mk (blk_below (zqK_ BK332.out) hb)
         replace HK := Aside0.mk (Kept.below (S := (fun k_ => P0_ k_)) zq11_ hb)
         replace HB := Aside0.mk (below_step (zqB1_ GE332.out) hb)
         (try clear hb)
         (try clear hb2)
         (try clear hk)
         (try clear hi)
         refine hK.out _ _ ⟨(blk_cell BK332.out 0).trans rfl, (blk_cell BK332.out 1).trans rfl, HS2_, HS3_⟩ (fun hHeld => ?_)
         clear hK K
         refine norm_ (a' := ?_) ?_ ?_
         rotate_left
         ·show Act.put _ (some 27) _ = _
          simp only [Act.put, List.setIfInBounds_toArray, List.set_cons_zero, List.set_cons_succ, i64_w, i32_w]
          rfl
         refine zqp_ 9 28 HT_ ?_
         refine done_ (done_of HT_.out (by kernel_rfl)) ?_
         have p350 : 0 ≤ (x7_1 : Int) := of_decide_eq_true zq2_
         have q350 : x7_1 < (l0.length : Int) := of_decide_eq_true zq2_
         obtain ⟨ad350, e350, hx350_0, hx350_1⟩ := at_T23 (Kd.R_reads' HO_0.out).2.2 x7_1 p350 q350
         obtain rfl : ad341 = ad350 := (by injection e350)
         replace p350 := eq_true p350
         replace q350 := eq_true q350
         try go_wp2_with (first | ((with_reducible refine gate_builtin (b := .append) (xs := #[.tmp 33, .tmp 38]) rfl ?_); at_builtin; refine Kd.R_append k23 (w0 := w0) w0.heap.size rfl (.tmp 33) (.tmp 38) 39 23 (.agg #[(.int .i64 0), (.int .i64 0)]) 16 rfl Tryz.underlying39 info23 rfl (by decide) (by omega) u5 x5_1 (⟨(rd_T23 l0 x7_1).f0, (rd_T23 l0 x7_1).f1⟩ : S23) [.int .i64 ((rd_T23 l0 x7_1).f0), .int .i64 ((rd_T23 l0 x7_1).f1)] (fun k_ => (P0_ k_ ∨ w.heap.size ≤ k_) ∧ some k_ ≠ (.slice (some ad341) l0.length co11 : Value).ownBlock ∧ k_ ≠ gb332) (fun _ => False) rfl rfl ?aP (fun _ hk => hk.elim) ?aF ?aO ?aB ?aS ?aL ?_; (case aP => exact k23_mkM _ _ _ (⟨(rd_T23 l0 x7_1).f0, (rd_T23 l0 x7_1).f1⟩ : S23)); (case aB => exact (zqB1_ GE332.out)); (case aF => exact (fun k_ hk => ⟨(.inr (Nat.le_trans zq18_ hk)), Kd.fresh' (Kd.R_lt zq33_) k_ hk, Kd.freshB (zqK_ BK332.out) k_ hk⟩)); (case aO => exact zq19_); (case aS => exact (below_size (zqB1_ GE332.out))); (case aL => have := LMc31.out; omega); intro v352 w34 ho hb hg hat; rw [← Ny351.out] at ho; replace HO_0 := Aside0.mk (Kd.R_after (ok := (fun k_ => (P0_ k_ ∨ w.heap.size ≤ k_) ∧ k_ ≠ gb332)) zq40_ hg hat); replace BK332 := Aside0.mk (blk_grown (zqK_ BK332.out) hg (Kd.R_away HO_5.out (fun _ hk => hk.2.2))); replace HB := Aside0.mk (hb); replace HK := Aside0.mk (Kept.of_grown (S := (fun k_ => P0_ k_)) hg zq11_ (fun k_ e_ => (HO_5.out.1 k_ e_).1)); have HO353 := Aside0.mk (ho); clear HO_5; clear ho hb hg hat))
         go_roundg k1
         case measure => have := HK1.out; omega
         case rel => exact ⟨(y351), (false), (wrap64 (x7_1 + 1)), zq8_, zq8_, H', ⟨by have := HK1.out; omega⟩, ⟨by (with_reducible repeat (first | apply Kd.R_alloc | apply Kd.R_drewN | apply Kd.R_drew)); exact Kd.R_mono HO_0.out (fun _ hk => ⟨hk.1.1, ⟨hk.2, hk.1.2⟩⟩)⟩, ⟨by (with_reducible repeat (first | apply Kd.R_alloc | apply Kd.R_drewN | apply Kd.R_drew)); exact HO353.out⟩, ⟨by (with_reducible repeat (first | refine blk_drewN ?_ _ | refine blk_drew ?_ | refine blk_alloc ?_ _)); exact BK332.out⟩, ⟨by repeat (first | (with_reducible first | exact HK.out | apply Kept.alloc | apply Kept.drewN | apply Kept.drew | refine Kept.setCell ?_ (.inr GW332.out) _) | exact HK.out)⟩, ⟨by repeat (first | (with_reducible first | exact HB.out | apply below_alloc | apply pw_below_drewN | apply below_drew1 | refine below_set ?_ GE332.out) | exact HB.out)⟩⟩
        ·rw [if_neg c31] at H
         exact absurd H (by simp)
      ·rw [if_neg c21] at H
       exact absurd H (by simp)
    ·rw [if_neg c15] at H
     have c15b0 : decide (x7_1 < (l0.length : Int)) = false := decide_eq_false c15
     clear c15
     by_cases c35 : x6_1 = true
     ·subst c35
      have H1 : (some x5_1) = some r := by rw [if_pos rfl] at H; exact H
      clear H
      have H := H1
      clear H1
      obtain rfl := Option.some.inj H
      go_wp2
      go_ret
      exact ⟨_, by first | rfl | (simp [errW_none, errW_some] <;> rfl) | (simp [*, errW_none, errW_some] <;> rfl), by (with_reducible repeat (first | apply Kd.R_alloc | apply Kd.R_drewN | apply Kd.R_drew)); exact Kd.R_mono HO_5.out (fun _ hk => hk.1), by repeat (first | (with_reducible first | exact HB.out | apply below_alloc | apply pw_below_drewN | apply below_drew1 | refine below_set ?_ GE332.out) | exact HB.out), by repeat (first | (with_reducible first | exact HK.out | apply Kept.alloc | apply Kept.drewN | apply Kept.drew | refine Kept.setCell ?_ (.inr GW332.out) _) | exact HK.out)⟩
     ·replace c35 := Bool.eq_false_iff.mpr c35
      subst c35
      have H1 : (if x5_1.length < 8796093022208 then (some (x5_1 ++ [(⟨a1_0, a1_1⟩ : S23)])) else (none)) = some r := by rw [if_neg (show ¬ (false = true) by decide)] at H; exact H
      clear H
      have H := H1
      clear H1
      by_cases c36 : x5_1.length < 8796093022208
      ·rw [if_pos c36] at H
       have LMc36 := Aside0.mk c36
       clear c36
       obtain ⟨y354, hy354⟩ : ∃ y_ : List (S23), y_ = (x5_1 ++ [(⟨a1_0, a1_1⟩ : S23)]) := ⟨_, rfl⟩
       replace H : (some y354) = some r := by first | (rw [hy354]; with_reducible exact H) | (have H2_ := (Option.bind_some _ _).symm.trans H; rw [hy354]; with_reducible exact H2_) | (have H2_ := (Option.bind_some _ _).symm.trans H; with_reducible exact H2_) | with_reducible exact H | (rw [hy354]; exact H) | exact H
       have Ny354 := Aside0.mk hy354
       clear hy354
       obtain rfl := Option.some.inj H
       obtain ⟨hcz37_0, hfz37_0, hcz37_1, hfz37_1⟩ := zqC2_ BK332.out
       go_wp2_with (first | ((with_reducible refine gate_builtin (b := .append) (xs := #[.tmp 42, .tmp 44]) rfl ?_); at_builtin; refine Kd.R_append k23 (w0 := w0) w0.heap.size rfl (.tmp 42) (.tmp 44) 39 23 (.agg #[(.int .i64 0), (.int .i64 0)]) 16 rfl Tryz.underlying39 info23 rfl (by decide) (by omega) u5 x5_1 (⟨a1_0, a1_1⟩ : S23) [.int .i64 a1_0, .int .i64 a1_1] (fun k_ => (P0_ k_ ∨ w.heap.size ≤ k_) ∧ some k_ ≠ (.slice Ao11 l0.length co11 : Value).ownBlock ∧ k_ ≠ gb332) (fun _ => False) rfl rfl ?aP (fun _ hk => hk.elim) ?aF ?aO ?aB ?aS ?aL ?_; (case aP => exact k23_mkM _ _ _ (⟨a1_0, a1_1⟩ : S23)); (case aB => exact (zqB1_ GE332.out)); (case aF => exact (fun k_ hk => ⟨(.inr (Nat.le_trans zq18_ hk)), Kd.fresh' (Kd.R_lt zq33_) k_ hk, Kd.freshB (zqK_ BK332.out) k_ hk⟩)); (case aO => exact zq19_); (case aS => exact (below_size (zqB1_ GE332.out))); (case aL => have := LMc36.out; omega); intro v355 w38 ho hb hg hat; rw [← Ny354.out] at ho; replace HO_0 := Aside0.mk (Kd.R_after (ok := (fun k_ => (P0_ k_ ∨ w.heap.size ≤ k_) ∧ k_ ≠ gb332)) zq40_ hg hat); replace BK332 := Aside0.mk (blk_grown (zqK_ BK332.out) hg (Kd.R_away HO_5.out (fun _ hk => hk.2.2))); replace HB := Aside0.mk (hb); replace HK := Aside0.mk (Kept.of_grown (S := (fun k_ => P0_ k_)) hg zq11_ (fun k_ e_ => (HO_5.out.1 k_ e_).1)); have HO356 := Aside0.mk (ho); clear HO_5; clear ho hb hg hat))
       go_ret
       exact ⟨_, by first | rfl | (simp [errW_none, errW_some] <;> rfl) | (simp [*, errW_none, errW_some] <;> rfl), by (with_reducible repeat (first | apply Kd.R_alloc | apply Kd.R_drewN | apply Kd.R_drew)); exact Kd.R_mono HO356.out (fun _ hk => hk.1), by repeat (first | (with_reducible first | exact HB.out | apply below_alloc | apply pw_below_drewN | apply below_drew1 | refine below_set ?_ GE332.out) | exact HB.out), by repeat (first | (with_reducible first | exact HK.out | apply Kept.alloc | apply Kept.drewN | apply Kept.drew | refine Kept.setCell ?_ (.inr GW332.out) _) | exact HK.out)⟩
      ·rw [if_neg c36] at H
       exact absurd H (by simp)

end Go.Proofs.YtgoolgmcbnikkaaGreatDoor.QChangeSames
