-- Own text of this seat, laid by the session's program ownprint.py (wip/tools). Lean checks it.
import Derived.Test.YtgoolgmcbnikkaaDoorQChangeQuotesx0
import Derived.Test.YtgoolgmcbnikkaaDoorQChangeQuotesx2
namespace Go.Proofs.YtgoolgmcbnikkaaDoor.QChangeQuotes
open Go.RowKit Go.Proofs.YtgoolgmcbnikkaaDoorW.PrintWords Go.Proofs.YtgoolgmcbnikkaaDoorW.PrintLast Go.Proofs.YtgoolgmcbnikkaaDoorW.PrintMore
attribute [local go_sem] max2_int min2_int max_two min_two max_three min_three max_four min_four   -- for this text's walks alone
set_option linter.unusedVariables false
set_option linter.unusedSimpArgs false

/-! ### topiaryref05_Unquoted: function 18 -/
mutual
def topiaryref05_Unquoted.j0 : Nat → ByteArray → Int → Bool → Option (ByteArray × Int × Bool)
 | 0, _, _, _ => none
 | k + 1, x0, x1, x19 => if x19 = true then (some ((⟨#[]⟩ : ByteArray), 0, false)) else (topiaryref05_Unquoted.l0 k x0 (([] : List Int)) (wrap64 (x1 + 1)))
def topiaryref05_Unquoted.l0 : Nat → ByteArray → List Int → Int → Option (ByteArray × Int × Bool)
 | 0, _, _, _ => none
 | k + 1, x0, x7, x8 => if x8 < (x0.size : Int) then (if 0 ≤ x8 then (topiaryref05_Unquoted.j2 k x0 x7 x8 ((bt x0 x8) != 34)) else (none)) else (topiaryref05_Unquoted.j2 k x0 x7 x8 false)
def topiaryref05_Unquoted.j2 : Nat → ByteArray → List Int → Int → Bool → Option (ByteArray × Int × Bool)
 | 0, _, _, _, _ => none
 | k + 1, x0, x7, x8, x32 => if x32 = true then (if 0 ≤ x8 then (if x8 < (x0.size : Int) then ((topiaryref05_plain.f (bt x0 x8)).bind fun t114 => (if t114 = true then (if x7.length < 140737488355328 then (topiaryref05_Unquoted.l0 k x0 (x7 ++ [bt x0 x8]) (wrap64 (x8 + 1))) else (none)) else (if (bt x0 x8) = 92 then (if (wrap64 (x8 + 2)) ≥ (x0.size : Int) then (topiaryref05_Unquoted.j3 k x0 x7 x8 true) else (if 0 ≤ (wrap64 (x8 + 1)) then (if (wrap64 (x8 + 1)) < (x0.size : Int) then ((topiaryref05_value.f k (bt x0 (wrap64 (x8 + 1)))).bind fun t118 => (if t118 = 16 then (topiaryref05_Unquoted.j3 k x0 x7 x8 true) else (if 0 ≤ (wrap64 (x8 + 2)) then (if (wrap64 (x8 + 2)) < (x0.size : Int) then ((topiaryref05_value.f k (bt x0 (wrap64 (x8 + 2)))).bind fun t119 => (topiaryref05_Unquoted.j3 k x0 x7 x8 (t119 == 16))) else (none)) else (none)))) else (none)) else (none))) else (topiaryref05_Unquoted.j3 k x0 x7 x8 true)))) else (none)) else (none)) else (if x8 ≥ (x0.size : Int) then (some ((⟨#[]⟩ : ByteArray), 0, false)) else (some (strOfNums x7, wrap64 (x8 + 1), true)))
def topiaryref05_Unquoted.j3 : Nat → ByteArray → List Int → Int → Bool → Option (ByteArray × Int × Bool)
 | 0, _, _, _, _ => none
 | k + 1, x0, x7, x8, x71 => if x71 = true then (some ((⟨#[]⟩ : ByteArray), 0, false)) else (if 0 ≤ (wrap64 (x8 + 1)) then (if (wrap64 (x8 + 1)) < (x0.size : Int) then ((topiaryref05_value.f k (bt x0 (wrap64 (x8 + 1)))).bind fun t120 => (if 0 ≤ (wrap64 (x8 + 2)) then (if (wrap64 (x8 + 2)) < (x0.size : Int) then ((topiaryref05_value.f k (bt x0 (wrap64 (x8 + 2)))).bind fun t121 => ((topiaryref05_plain.f ((wrap64 ((wrap64 (16 * t120)) + t121)) % 256)).bind fun t122 => (if t122 = true then (some ((⟨#[]⟩ : ByteArray), 0, false)) else (if x7.length < 140737488355328 then (topiaryref05_Unquoted.l0 k x0 (x7 ++ [(wrap64 ((wrap64 (16 * t120)) + t121)) % 256]) (wrap64 (x8 + 3))) else (none))))) else (none)) else (none))) else (none)) else (none))
end
def topiaryref05_Unquoted.f (k : Nat) (a0 : ByteArray) (a1 : Int) : Option (ByteArray × Int × Bool) := if a1 ≥ (a0.size : Int) then (topiaryref05_Unquoted.j0 k a0 a1 true) else (if 0 ≤ a1 then (if a1 < (a0.size : Int) then (topiaryref05_Unquoted.j0 k a0 a1 ((bt a0 a1) != 34)) else (none)) else (none))
theorem topiaryref05_Unquoted.mono_l : ∀ k, (∀ y0 y1 y2, LeO (topiaryref05_Unquoted.j0 k y0 y1 y2) (topiaryref05_Unquoted.j0 (k + 1) y0 y1 y2)) ∧ (∀ y0 y1 y2, LeO (topiaryref05_Unquoted.l0 k y0 y1 y2) (topiaryref05_Unquoted.l0 (k + 1) y0 y1 y2)) ∧ (∀ y0 y1 y2 y3, LeO (topiaryref05_Unquoted.j2 k y0 y1 y2 y3) (topiaryref05_Unquoted.j2 (k + 1) y0 y1 y2 y3)) ∧ (∀ y0 y1 y2 y3, LeO (topiaryref05_Unquoted.j3 k y0 y1 y2 y3) (topiaryref05_Unquoted.j3 (k + 1) y0 y1 y2 y3))
 | 0 => ⟨fun _ _ _ r h => by simp [topiaryref05_Unquoted.j0] at h, fun _ _ _ r h => by simp [topiaryref05_Unquoted.l0] at h, fun _ _ _ _ r h => by simp [topiaryref05_Unquoted.j2] at h, fun _ _ _ _ r h => by simp [topiaryref05_Unquoted.j3] at h⟩
 | k + 1 => by
  obtain ⟨ih0, ih1, ih2, ih3⟩ := topiaryref05_Unquoted.mono_l k
  refine ⟨?_, ?_, ?_, ?_⟩
  ·intro y0 y1 y2
   unfold topiaryref05_Unquoted.j0
   repeat' first
   | (with_reducible exact ih0 _ _ _)
   | (with_reducible exact ih1 _ _ _)
   | (with_reducible exact ih2 _ _ _ _)
   | (with_reducible exact ih3 _ _ _ _)
   | (with_reducible exact topiaryref05_value.mono _ _)
   | (with_reducible exact LeO.refl _)
   | (with_reducible exact LeO.none _)
   | (with_reducible refine LeO.ite ?_ ?_)
   | (with_reducible refine LeO.bind ?_ (fun _ => ?_))
   | exact ih0 _ _ _
   | exact ih1 _ _ _
   | exact ih2 _ _ _ _
   | exact ih3 _ _ _ _
   | exact topiaryref05_value.mono _ _
   | exact LeO.none _
   | refine LeO.ite ?_ ?_
   | refine LeO.bind ?_ (fun _ => ?_)
  ·intro y0 y1 y2
   unfold topiaryref05_Unquoted.l0
   repeat' first
   | (with_reducible exact ih0 _ _ _)
   | (with_reducible exact ih1 _ _ _)
   | (with_reducible exact ih2 _ _ _ _)
   | (with_reducible exact ih3 _ _ _ _)
   | (with_reducible exact topiaryref05_value.mono _ _)
   | (with_reducible exact LeO.refl _)
   | (with_reducible exact LeO.none _)
   | (with_reducible refine LeO.ite ?_ ?_)
   | (with_reducible refine LeO.bind ?_ (fun _ => ?_))
   | exact ih0 _ _ _
   | exact ih1 _ _ _
   | exact ih2 _ _ _ _
   | exact ih3 _ _ _ _
   | exact topiaryref05_value.mono _ _
   | exact LeO.none _
   | refine LeO.ite ?_ ?_
   | refine LeO.bind ?_ (fun _ => ?_)
  ·intro y0 y1 y2 y3
   unfold topiaryref05_Unquoted.j2
   repeat' first
   | (with_reducible exact ih0 _ _ _)
   | (with_reducible exact ih1 _ _ _)
   | (with_reducible exact ih2 _ _ _ _)
   | (with_reducible exact ih3 _ _ _ _)
   | (with_reducible exact topiaryref05_value.mono _ _)
   | (with_reducible exact LeO.refl _)
   | (with_reducible exact LeO.none _)
   | (with_reducible refine LeO.ite ?_ ?_)
   | (with_reducible refine LeO.bind ?_ (fun _ => ?_))
   | exact ih0 _ _ _
   | exact ih1 _ _ _
   | exact ih2 _ _ _ _
   | exact ih3 _ _ _ _
   | exact topiaryref05_value.mono _ _
   | exact LeO.none _
   | refine LeO.ite ?_ ?_
   | refine LeO.bind ?_ (fun _ => ?_)
  ·intro y0 y1 y2 y3
   unfold topiaryref05_Unquoted.j3
   repeat' first
   | (with_reducible exact ih0 _ _ _)
   | (with_reducible exact ih1 _ _ _)
   | (with_reducible exact ih2 _ _ _ _)
   | (with_reducible exact ih3 _ _ _ _)
   | (with_reducible exact topiaryref05_value.mono _ _)
   | (with_reducible exact LeO.refl _)
   | (with_reducible exact LeO.none _)
   | (with_reducible refine LeO.ite ?_ ?_)
   | (with_reducible refine LeO.bind ?_ (fun _ => ?_))
   | exact ih0 _ _ _
   | exact ih1 _ _ _
   | exact ih2 _ _ _ _
   | exact ih3 _ _ _ _
   | exact topiaryref05_value.mono _ _
   | exact LeO.none _
   | refine LeO.ite ?_ ?_
   | refine LeO.bind ?_ (fun _ => ?_)
theorem topiaryref05_Unquoted.mono : ∀ a0 a1 k, LeO (topiaryref05_Unquoted.f k a0 a1) (topiaryref05_Unquoted.f (k + 1) a0 a1) := by
 intro a0 a1 k
 obtain ⟨ih0, ih1, ih2, ih3⟩ := topiaryref05_Unquoted.mono_l k
 unfold topiaryref05_Unquoted.f
 repeat' first
   | (with_reducible exact ih0 _ _ _)
   | (with_reducible exact ih1 _ _ _)
   | (with_reducible exact ih2 _ _ _ _)
   | (with_reducible exact ih3 _ _ _ _)
   | (with_reducible exact topiaryref05_value.mono _ _)
   | (with_reducible exact LeO.refl _)
   | (with_reducible exact LeO.none _)
   | (with_reducible refine LeO.ite ?_ ?_)
   | (with_reducible refine LeO.bind ?_ (fun _ => ?_))
   | exact ih0 _ _ _
   | exact ih1 _ _ _
   | exact ih2 _ _ _ _
   | exact ih3 _ _ _ _
   | exact topiaryref05_value.mono _ _
   | exact LeO.none _
   | refine LeO.ite ?_ ?_
   | refine LeO.bind ?_ (fun _ => ?_)
set_option maxHeartbeats 8000000 in
set_option maxRecDepth 100000 in
theorem topiaryref05_Unquoted.calls (k : Nat) (a0 : ByteArray) (a1 : Int) (r1 : ByteArray) (r2 : Int) (r3 : Bool) (w : World) (h : topiaryref05_Unquoted.f k a0 a1 = some (r1, r2, r3)) :
  Calls Tryd.prog 18 #[.string a0, .int .i64 a1] w fun e w' => e = .returned (.tuple #[.string r1, .int .i64 r2, .bool r3]) ∧ Below w.heap.size w w' := by
 have HB := Aside0.mk (Below.refl w.heap.size w)
 have H : (if a1 ≥ (a0.size : Int) then (topiaryref05_Unquoted.j0 k a0 a1 true) else (if 0 ≤ a1 then (if a1 < (a0.size : Int) then (topiaryref05_Unquoted.j0 k a0 a1 ((bt a0 a1) != 34)) else (none)) else (none))) = some (r1, r2, r3) := h
 clear h
 have HC3 := Aside0.mk H
 clear H
 go_enter Tryd.func18, Tryd.ntmps18
 go_upto_region 1 with (fail)
 repeat (go_quiet (fail); go_upto_region 1 with (fail))
 go_cut [19] (fun v19 wc => ∃ (kq : Nat) (x19_2 : Bool), v19 = .bool x19_2 ∧ Aside0 (topiaryref05_Unquoted.j0 kq a0 a1 x19_2 = some (r1, r2, r3)) ∧ Aside0 (kq ≤ k) ∧ Aside0 (Below w.heap.size w wc))
 case first =>
  have H := HC3.out
  clear HC3
  by_cases c4 : a1 ≥ (a0.size : Int)
  ·rw [if_pos c4] at H
   have c4b0 : decide ((a0.size : Int) ≤ a1) = true := decide_eq_true c4
   clear c4
   (first | rw [c4b0] | (simp only [i64_w, i32_w]; rw [c4b0]) | skip)
   have H' := Aside0.mk H
   clear H
   go_wp2
   repeat (go_quiet (fail); try go_wp2)
   go_meet
   case rel => exact ⟨_, (true), zq6_, H', ⟨by first | omega | exact Nat.le_refl _⟩, ⟨by repeat (first | (with_reducible first | exact HB.out | apply below_alloc | apply pw_below_drewN | apply below_drew1) | exact HB.out)⟩⟩
  ·rw [if_neg c4] at H
   have c4b0 : decide ((a0.size : Int) ≤ a1) = false := decide_eq_false c4
   clear c4
   (first | rw [c4b0] | (simp only [i64_w, i32_w]; rw [c4b0]) | skip)
   by_cases c5 : 0 ≤ a1
   ·rw [if_pos c5] at H
    have c5b0 : decide (0 ≤ a1) = true := decide_eq_true c5
    clear c5
    by_cases c6 : a1 < (a0.size : Int)
    ·rw [if_pos c6] at H
     have c6b0 : decide (a1 < (a0.size : Int)) = true := decide_eq_true c6
     clear c6
     have H' := Aside0.mk H
     clear H
     have p7 : 0 ≤ (a1 : Int) := of_decide_eq_true zq1_
     have q7 : a1 < (a0.size : Int) := of_decide_eq_true zq1_
     have hx7 := bt_at a0 a1
     replace p7 := eq_true p7
     replace q7 := eq_true q7
     go_wp2
     repeat (go_quiet (fail); try go_wp2)
     go_meet
     case rel => exact ⟨_, (((bt a0 a1) != 34)), zq6_, H', ⟨by first | omega | exact Nat.le_refl _⟩, ⟨by repeat (first | (with_reducible first | exact HB.out | apply below_alloc | apply pw_below_drewN | apply below_drew1) | exact HB.out)⟩⟩
    ·rw [if_neg c6] at H
     exact absurd H (by simp)
   ·rw [if_neg c5] at H
    exact absurd H (by simp)
 case rest =>
  clear HC3
  try clear c1
  try clear p2
  try clear c4
  try clear c4b0
  try clear c5
  try clear c5b0
  try clear c6
  try clear c6b0
  try clear p7
  try clear q7
  try clear hx7
  try clear p7
  try clear q7
  obtain ⟨kq, x19_2, rfl, HA, HJ2, HB⟩ := hcut
  cases kq with
  | zero => exact absurd HA.out (by simp [topiaryref05_Unquoted.j0])
  | succ kj2 =>
   have H := HA.out
   clear HA
   simp only [topiaryref05_Unquoted.j0] at H
   by_cases c8 : x19_2 = true
   ·subst c8
    have H1 : (some ((⟨#[]⟩ : ByteArray), 0, false)) = some (r1, r2, r3) := by rw [if_pos rfl] at H; exact H
    clear H
    have H := H1
    clear H1
    simp only [Option.some.injEq, Prod.mk.injEq] at H
    obtain ⟨rfl, rfl, rfl⟩ := H
    go_wp2
    repeat (go_quiet (fail); try go_wp2)
    go_ret3
    exact ⟨by first | rfl | (simp [errW_none, errW_some] <;> rfl) | (simp [*, errW_none, errW_some] <;> rfl), by repeat (first | (with_reducible first | exact HB.out | apply below_alloc | apply pw_below_drewN | apply below_drew1) | exact HB.out)⟩
   ·replace c8 := Bool.eq_false_iff.mpr c8
    subst c8
    have H1 : (topiaryref05_Unquoted.l0 kj2 a0 (([] : List Int)) (wrap64 (a1 + 1))) = some (r1, r2, r3) := by rw [if_neg (show ¬ (false = true) by decide)] at H; exact H
    clear H
    have H := H1
    clear H1
    obtain ⟨y111, hy111⟩ : ∃ y_ : List Int, y_ = (([] : List Int)) := ⟨_, rfl⟩
    replace H : (topiaryref05_Unquoted.l0 kj2 a0 y111 (wrap64 (a1 + 1))) = some (r1, r2, r3) := by first | (rw [hy111]; with_reducible exact H) | (have H2_ := (Option.bind_some _ _).symm.trans H; rw [hy111]; with_reducible exact H2_) | (have H2_ := (Option.bind_some _ _).symm.trans H; with_reducible exact H2_) | with_reducible exact H | (rw [hy111]; exact H) | exact H
    have Ny111 := Aside0.mk hy111
    clear hy111
    have H' := Aside0.mk H
    clear H
    go_wp2_with (first | ((with_reducible refine gate_dst (N := 20) rfl ?_); (try (refine gate_guard (by rfl) ?_; dsimp only)); refine Kd.R_lit (Kd.int .u8) _ 5 ?hg (N := 20) ?hd (xs := ([] : List Int)) (inner := []) (ok := fun _ => True) (okp := fun _ => True) ?hr ?hp (fun _ hk => hk) trivial (Below.refl _ _) (Nat.le_refl _) (by simp) ?_; (case hd => rfl); (case hg => rfl); (case hr => first | (go_simp; done) | (go_simp; rfl)); (case hp => exact (Reps.none _ _)); intro v112 w9 ho10 hb hg_ hnew_; clear hg_ hnew_; (first | rw [← Ny111.out] at ho10 | (simp only [Int.reduceToNat] at ho10; rw [← Ny111.out] at ho10)); have n0_ := Aside0.mk (Kd.R_lower ho10 (below_size zq0_)); have n1_ := Aside0.mk (below_step zq0_ hb); clear HB; have HO113 := n0_; have HB := n1_; clear n0_ n1_; clear hb ho10))
    repeat (go_quiet (first | ((with_reducible refine gate_dst (N := 20) rfl ?_); (try (refine gate_guard (by rfl) ?_; dsimp only)); refine Kd.R_lit (Kd.int .u8) _ 5 ?hg (N := 20) ?hd (xs := ([] : List Int)) (inner := []) (ok := fun _ => True) (okp := fun _ => True) ?hr ?hp (fun _ hk => hk) trivial (Below.refl _ _) (Nat.le_refl _) (by simp) ?_; (case hd => rfl); (case hg => rfl); (case hr => first | (go_simp; done) | (go_simp; rfl)); (case hp => exact (Reps.none _ _)); intro v112 w9 ho10 hb hg_ hnew_; clear hg_ hnew_; (first | rw [← Ny111.out] at ho10 | (simp only [Int.reduceToNat] at ho10; rw [← Ny111.out] at ho10)); have n0_ := Aside0.mk (Kd.R_lower ho10 (below_size zq0_)); have n1_ := Aside0.mk (below_step zq0_ hb); clear HB; have HO113 := n0_; have HB := n1_; clear n0_ n1_; clear hb ho10)); try go_wp2_with (first | ((with_reducible refine gate_dst (N := 20) rfl ?_); (try (refine gate_guard (by rfl) ?_; dsimp only)); refine Kd.R_lit (Kd.int .u8) _ 5 ?hg (N := 20) ?hd (xs := ([] : List Int)) (inner := []) (ok := fun _ => True) (okp := fun _ => True) ?hr ?hp (fun _ hk => hk) trivial (Below.refl _ _) (Nat.le_refl _) (by simp) ?_; (case hd => rfl); (case hg => rfl); (case hr => first | (go_simp; done) | (go_simp; rfl)); (case hp => exact (Reps.none _ _)); intro v112 w9 ho10 hb hg_ hnew_; clear hg_ hnew_; (first | rw [← Ny111.out] at ho10 | (simp only [Int.reduceToNat] at ho10; rw [← Ny111.out] at ho10)); have n0_ := Aside0.mk (Kd.R_lower ho10 (below_size zq0_)); have n1_ := Aside0.mk (below_step zq0_ hb); clear HB; have HO113 := n0_; have HB := n1_; clear n0_ n1_; clear hb ho10)))
    go_loopg [7, 8] kj2 (fun kq v7 v8 w' => ∃ (x7_2 : List Int) (x8_2 : Int), v8 = .int .i64 x8_2 ∧ Aside0 (topiaryref05_Unquoted.l0 kq a0 x7_2 x8_2 = some (r1, r2, r3)) ∧ Aside0 (kq ≤ kj2) ∧ Aside0 (Kd.R (Kd.int .u8) 5 w' w.heap.size (fun _ => True) v7 x7_2) ∧ Aside0 (Below w.heap.size w w'))
    case atStart => exact ⟨(y111), (wrap64 (a1 + 1)), zq6_, H', ⟨Nat.le_refl _⟩, ⟨by (with_reducible repeat (first | apply Kd.R_alloc | apply Kd.R_drewN | apply Kd.R_drew)); exact HO113.out⟩, ⟨by repeat (first | (with_reducible first | exact HB.out | apply below_alloc | apply pw_below_drewN | apply below_drew1) | exact HB.out)⟩⟩
    case round =>
     clear H'
     try clear c1
     try clear p2
     try clear c4
     try clear c4b0
     try clear c5
     try clear c5b0
     try clear c6
     try clear c6b0
     try clear p6
     try clear p7
     try clear q7
     try clear hx7
     try clear c8
     try clear p2
     try clear p7
     try clear q7
     obtain ⟨x7_2, x8_2, rfl, HA, HK2, HO_7, HB⟩ := hrel
     cases gk with
     | zero => exact absurd HA.out (by simp [topiaryref05_Unquoted.l0])
     | succ k2 =>
      have H := HA.out
      clear HA
      simp only [topiaryref05_Unquoted.l0] at H
      have HC11 := Aside0.mk H
      clear H
      go_upto_region 5 with (fail)
      repeat (go_quiet (fail); go_upto_region 5 with (fail))
      go_cut [32] (fun v32 wc => ∃ (kq : Nat) (x32_10 : Bool), v32 = .bool x32_10 ∧ Aside0 (topiaryref05_Unquoted.j2 kq a0 x7_2 x8_2 x32_10 = some (r1, r2, r3)) ∧ Aside0 (kq ≤ k2) ∧ Aside0 (Kd.R (Kd.int .u8) 5 wc w.heap.size (fun _ => True) u7 x7_2) ∧ Aside0 (Below w.heap.size w wc))
      case first =>
       have H := HC11.out
       clear HC11
       by_cases c12 : x8_2 < (a0.size : Int)
       ·rw [if_pos c12] at H
        have c12b0 : decide (x8_2 < (a0.size : Int)) = true := decide_eq_true c12
        clear c12
        (first | rw [c12b0] | (simp only [i64_w, i32_w]; rw [c12b0]) | skip)
        by_cases c13 : 0 ≤ x8_2
        ·rw [if_pos c13] at H
         have c13b0 : decide (0 ≤ x8_2) = true := decide_eq_true c13
         clear c13
         have H' := Aside0.mk H
         clear H
         have p14 : 0 ≤ (x8_2 : Int) := of_decide_eq_true zq1_
         have q14 : x8_2 < (a0.size : Int) := of_decide_eq_true zq1_
         have hx14 := bt_at a0 x8_2
         replace p14 := eq_true p14
         replace q14 := eq_true q14
         go_wp2
         repeat (go_quiet (fail); try go_wp2)
         go_meet
         case rel => exact ⟨_, (((bt a0 x8_2) != 34)), zq6_, H', ⟨by have := HJ2.out; have := HK2.out; first | omega | exact Nat.le_refl _⟩, ⟨by (with_reducible repeat (first | apply Kd.R_alloc | apply Kd.R_drewN | apply Kd.R_drew)); exact HO_7.out⟩, ⟨by repeat (first | (with_reducible first | exact HB.out | apply below_alloc | apply pw_below_drewN | apply below_drew1) | exact HB.out)⟩⟩
        ·rw [if_neg c13] at H
         exact absurd H (by simp)
       ·rw [if_neg c12] at H
        have c12b0 : decide (x8_2 < (a0.size : Int)) = false := decide_eq_false c12
        clear c12
        (first | rw [c12b0] | (simp only [i64_w, i32_w]; rw [c12b0]) | skip)
        have H' := Aside0.mk H
        clear H
        go_wp2
        repeat (go_quiet (fail); try go_wp2)
        go_meet
        case rel => exact ⟨_, (false), zq6_, H', ⟨by have := HJ2.out; have := HK2.out; first | omega | exact Nat.le_refl _⟩, ⟨by (with_reducible repeat (first | apply Kd.R_alloc | apply Kd.R_drewN | apply Kd.R_drew)); exact HO_7.out⟩, ⟨by repeat (first | (with_reducible first | exact HB.out | apply below_alloc | apply pw_below_drewN | apply below_drew1) | exact HB.out)⟩⟩
      case rest =>
       clear HC11
       try clear c1
       try clear p1
       try clear q1
       try clear hx1
       try clear p2
       try clear c4
       try clear c4b0
       try clear c5
       try clear c5b0
       try clear c6
       try clear c6b0
       try clear p6
       try clear p7
       try clear q7
       try clear hx7
       try clear c8
       try clear c12
       try clear c12b0
       try clear c13
       try clear c13b0
       try clear p14
       try clear q14
       try clear hx14
       try clear p14
       try clear p2
       try clear p6
       try clear p7
       try clear q14
       try clear q7
       obtain ⟨kq, x32_10, rfl, HA, HJ10, HO_7, HB⟩ := hcut
       cases kq with
       | zero => exact absurd HA.out (by simp [topiaryref05_Unquoted.j2])
       | succ kj10 =>
        have H := HA.out
        clear HA
        simp only [topiaryref05_Unquoted.j2] at H
        by_cases c15 : x32_10 = true
        ·subst c15
         have H1 : (if 0 ≤ x8_2 then (if x8_2 < (a0.size : Int) then ((topiaryref05_plain.f (bt a0 x8_2)).bind fun t114 => (if t114 = true then (if x7_2.length < 140737488355328 then (topiaryref05_Unquoted.l0 kj10 a0 (x7_2 ++ [bt a0 x8_2]) (wrap64 (x8_2 + 1))) else (none)) else (if (bt a0 x8_2) = 92 then (if (wrap64 (x8_2 + 2)) ≥ (a0.size : Int) then (topiaryref05_Unquoted.j3 kj10 a0 x7_2 x8_2 true) else (if 0 ≤ (wrap64 (x8_2 + 1)) then (if (wrap64 (x8_2 + 1)) < (a0.size : Int) then ((topiaryref05_value.f kj10 (bt a0 (wrap64 (x8_2 + 1)))).bind fun t118 => (if t118 = 16 then (topiaryref05_Unquoted.j3 kj10 a0 x7_2 x8_2 true) else (if 0 ≤ (wrap64 (x8_2 + 2)) then (if (wrap64 (x8_2 + 2)) < (a0.size : Int) then ((topiaryref05_value.f kj10 (bt a0 (wrap64 (x8_2 + 2)))).bind fun t119 => (topiaryref05_Unquoted.j3 kj10 a0 x7_2 x8_2 (t119 == 16))) else (none)) else (none)))) else (none)) else (none))) else (topiaryref05_Unquoted.j3 kj10 a0 x7_2 x8_2 true)))) else (none)) else (none)) = some (r1, r2, r3) := by rw [if_pos rfl] at H; exact H
         clear H
         have H := H1
         clear H1
         by_cases c16 : 0 ≤ x8_2
         ·rw [if_pos c16] at H
          have c16b0 : decide (0 ≤ x8_2) = true := decide_eq_true c16
          clear c16
          by_cases c17 : x8_2 < (a0.size : Int)
          ·rw [if_pos c17] at H
           have c17b0 : decide (x8_2 < (a0.size : Int)) = true := decide_eq_true c17
           clear c17
           replace H := Option.bind_eq_some_iff.mp H
           obtain ⟨t114, A190, H⟩ := H
           replace H : (if t114 = true then (if x7_2.length < 140737488355328 then (topiaryref05_Unquoted.l0 kj10 a0 (x7_2 ++ [bt a0 x8_2]) (wrap64 (x8_2 + 1))) else (none)) else (if (bt a0 x8_2) = 92 then (if (wrap64 (x8_2 + 2)) ≥ (a0.size : Int) then (topiaryref05_Unquoted.j3 kj10 a0 x7_2 x8_2 true) else (if 0 ≤ (wrap64 (x8_2 + 1)) then (if (wrap64 (x8_2 + 1)) < (a0.size : Int) then ((topiaryref05_value.f kj10 (bt a0 (wrap64 (x8_2 + 1)))).bind fun t118 => (if t118 = 16 then (topiaryref05_Unquoted.j3 kj10 a0 x7_2 x8_2 true) else (if 0 ≤ (wrap64 (x8_2 + 2)) then (if (wrap64 (x8_2 + 2)) < (a0.size : Int) then ((topiaryref05_value.f kj10 (bt a0 (wrap64 (x8_2 + 2)))).bind fun t119 => (topiaryref05_Unquoted.j3 kj10 a0 x7_2 x8_2 (t119 == 16))) else (none)) else (none)))) else (none)) else (none))) else (topiaryref05_Unquoted.j3 kj10 a0 x7_2 x8_2 true))) = some (r1, r2, r3) := H
           have A19 := Aside0.mk A190
           clear A190
           by_cases c20 : t114 = true
           ·subst c20
            have H1 : (if x7_2.length < 140737488355328 then (topiaryref05_Unquoted.l0 kj10 a0 (x7_2 ++ [bt a0 x8_2]) (wrap64 (x8_2 + 1))) else (none)) = some (r1, r2, r3) := by rw [if_pos rfl] at H; exact H
            clear H
            have H := H1
            clear H1
            by_cases c22 : x7_2.length < 140737488355328
            ·rw [if_pos c22] at H
             have LMc22 := Aside0.mk c22
             clear c22
             obtain ⟨y115, hy115⟩ : ∃ y_ : List Int, y_ = (x7_2 ++ [bt a0 x8_2]) := ⟨_, rfl⟩
             replace H : (topiaryref05_Unquoted.l0 kj10 a0 y115 (wrap64 (x8_2 + 1))) = some (r1, r2, r3) := by first | (rw [hy115]; with_reducible exact H) | (have H2_ := (Option.bind_some _ _).symm.trans H; rw [hy115]; with_reducible exact H2_) | (have H2_ := (Option.bind_some _ _).symm.trans H; with_reducible exact H2_) | with_reducible exact H | (rw [hy115]; exact H) | exact H
             have Ny115 := Aside0.mk hy115
             clear hy115
             have H' := Aside0.mk H
             clear H
             have p18 : 0 ≤ (x8_2 : Int) := of_decide_eq_true zq1_
             have q18 : x8_2 < (a0.size : Int) := of_decide_eq_true zq1_
             have hx18 := bt_at a0 x8_2
             replace p18 := eq_true p18
             replace q18 := eq_true q18
             go_wp2_with (first | (go_at_call 19; (with_reducible refine (topiaryref05_plain.calls (bt a0 x8_2) true _ A19.out).mono ?_); rintro e w' ⟨rfl, ⟨nd, rfl⟩⟩; (try exact zqD_); have p21 : 0 ≤ (x8_2 : Int) := of_decide_eq_true zq1_; have q21 : x8_2 < (a0.size : Int) := of_decide_eq_true zq1_; have hx21 := bt_at a0 x8_2; replace p21 := eq_true p21; replace q21 := eq_true q21) | ((with_reducible refine gate_builtin (b := .append) (xs := #[.tmp 37, .tmp 41]) rfl ?_); (try (refine gate_guard (by rfl) ?_; dsimp only)); at_builtin; refine Kd.R_append (Kd.int .u8) (w0 := w) w.heap.size rfl (.tmp 37) (.tmp 41) 41 5 (.int .u8 0) 1 rfl Tryd.underlying41 info5 rfl (by decide) (by omega) u7 x7_2 (bt a0 x8_2) [.int .u8 (bt a0 x8_2)] (fun _ => True) (fun _ => False) rfl rfl ?aP (fun _ hk => hk.elim) ?aF ?aO ?aB ?aS ?aL ?_; (case aP => exact rfl); (case aB => exact zq0_); (case aF => exact (fun _ _ => trivial)); (case aO => exact zq13_); (case aS => exact (below_size zq0_)); (case aL => have := LMc22.out; omega); intro v116 w23 ho hb hg hat; rw [← Ny115.out] at ho; have n0_ := Aside0.mk (hb); have n1_ := Aside0.mk (ho); clear HB; clear HO_7; have HB := n0_; have HO117 := n1_; clear n0_ n1_; clear ho hb hg hat))
             repeat (go_quiet (first | (go_at_call 19; (with_reducible refine (topiaryref05_plain.calls (bt a0 x8_2) true _ A19.out).mono ?_); rintro e w' ⟨rfl, ⟨nd, rfl⟩⟩; (try exact zqD_); have p21 : 0 ≤ (x8_2 : Int) := of_decide_eq_true zq1_; have q21 : x8_2 < (a0.size : Int) := of_decide_eq_true zq1_; have hx21 := bt_at a0 x8_2; replace p21 := eq_true p21; replace q21 := eq_true q21) | ((with_reducible refine gate_builtin (b := .append) (xs := #[.tmp 37, .tmp 41]) rfl ?_); (try (refine gate_guard (by rfl) ?_; dsimp only)); at_builtin; refine Kd.R_append (Kd.int .u8) (w0 := w) w.heap.size rfl (.tmp 37) (.tmp 41) 41 5 (.int .u8 0) 1 rfl Tryd.underlying41 info5 rfl (by decide) (by omega) u7 x7_2 (bt a0 x8_2) [.int .u8 (bt a0 x8_2)] (fun _ => True) (fun _ => False) rfl rfl ?aP (fun _ hk => hk.elim) ?aF ?aO ?aB ?aS ?aL ?_; (case aP => exact rfl); (case aB => exact zq0_); (case aF => exact (fun _ _ => trivial)); (case aO => exact zq13_); (case aS => exact (below_size zq0_)); (case aL => have := LMc22.out; omega); intro v116 w23 ho hb hg hat; rw [← Ny115.out] at ho; have n0_ := Aside0.mk (hb); have n1_ := Aside0.mk (ho); clear HB; clear HO_7; have HB := n0_; have HO117 := n1_; clear n0_ n1_; clear ho hb hg hat)); try go_wp2_with (first | (go_at_call 19; (with_reducible refine (topiaryref05_plain.calls (bt a0 x8_2) true _ A19.out).mono ?_); rintro e w' ⟨rfl, ⟨nd, rfl⟩⟩; (try exact zqD_); have p21 : 0 ≤ (x8_2 : Int) := of_decide_eq_true zq1_; have q21 : x8_2 < (a0.size : Int) := of_decide_eq_true zq1_; have hx21 := bt_at a0 x8_2; replace p21 := eq_true p21; replace q21 := eq_true q21) | ((with_reducible refine gate_builtin (b := .append) (xs := #[.tmp 37, .tmp 41]) rfl ?_); (try (refine gate_guard (by rfl) ?_; dsimp only)); at_builtin; refine Kd.R_append (Kd.int .u8) (w0 := w) w.heap.size rfl (.tmp 37) (.tmp 41) 41 5 (.int .u8 0) 1 rfl Tryd.underlying41 info5 rfl (by decide) (by omega) u7 x7_2 (bt a0 x8_2) [.int .u8 (bt a0 x8_2)] (fun _ => True) (fun _ => False) rfl rfl ?aP (fun _ hk => hk.elim) ?aF ?aO ?aB ?aS ?aL ?_; (case aP => exact rfl); (case aB => exact zq0_); (case aF => exact (fun _ _ => trivial)); (case aO => exact zq13_); (case aS => exact (below_size zq0_)); (case aL => have := LMc22.out; omega); intro v116 w23 ho hb hg hat; rw [← Ny115.out] at ho; have n0_ := Aside0.mk (hb); have n1_ := Aside0.mk (ho); clear HB; clear HO_7; have HB := n0_; have HO117 := n1_; clear n0_ n1_; clear ho hb hg hat)))
             go_roundg kj10
             case measure => have := HJ2.out; have := HK2.out; have := HJ10.out; omega
             case rel => exact ⟨(y115), (wrap64 (x8_2 + 1)), zq6_, H', ⟨by have := HJ2.out; have := HK2.out; have := HJ10.out; omega⟩, ⟨by (with_reducible repeat (first | apply Kd.R_alloc | apply Kd.R_drewN | apply Kd.R_drew)); exact HO117.out⟩, ⟨by repeat (first | (with_reducible first | exact HB.out | apply below_alloc | apply pw_below_drewN | apply below_drew1) | exact HB.out)⟩⟩
            ·rw [if_neg c22] at H
             exact absurd H (by simp)
           ·replace c20 := Bool.eq_false_iff.mpr c20
            subst c20
            have H1 : (if (bt a0 x8_2) = 92 then (if (wrap64 (x8_2 + 2)) ≥ (a0.size : Int) then (topiaryref05_Unquoted.j3 kj10 a0 x7_2 x8_2 true) else (if 0 ≤ (wrap64 (x8_2 + 1)) then (if (wrap64 (x8_2 + 1)) < (a0.size : Int) then ((topiaryref05_value.f kj10 (bt a0 (wrap64 (x8_2 + 1)))).bind fun t118 => (if t118 = 16 then (topiaryref05_Unquoted.j3 kj10 a0 x7_2 x8_2 true) else (if 0 ≤ (wrap64 (x8_2 + 2)) then (if (wrap64 (x8_2 + 2)) < (a0.size : Int) then ((topiaryref05_value.f kj10 (bt a0 (wrap64 (x8_2 + 2)))).bind fun t119 => (topiaryref05_Unquoted.j3 kj10 a0 x7_2 x8_2 (t119 == 16))) else (none)) else (none)))) else (none)) else (none))) else (topiaryref05_Unquoted.j3 kj10 a0 x7_2 x8_2 true)) = some (r1, r2, r3) := by rw [if_neg (show ¬ (false = true) by decide)] at H; exact H
            clear H
            have H := H1
            clear H1
            have HC24 := Aside0.mk H
            clear H
            have p18 : 0 ≤ (x8_2 : Int) := of_decide_eq_true zq1_
            have q18 : x8_2 < (a0.size : Int) := of_decide_eq_true zq1_
            have hx18 := bt_at a0 x8_2
            replace p18 := eq_true p18
            replace q18 := eq_true q18
            go_upto_region 9 with (first | (go_at_call 19; (with_reducible refine (topiaryref05_plain.calls (bt a0 x8_2) false _ A19.out).mono ?_); rintro e w' ⟨rfl, ⟨nd, rfl⟩⟩; (try exact zqD_)))
            repeat (go_quiet (first | (go_at_call 19; (with_reducible refine (topiaryref05_plain.calls (bt a0 x8_2) false _ A19.out).mono ?_); rintro e w' ⟨rfl, ⟨nd, rfl⟩⟩; (try exact zqD_))); go_upto_region 9 with (first | (go_at_call 19; (with_reducible refine (topiaryref05_plain.calls (bt a0 x8_2) false _ A19.out).mono ?_); rintro e w' ⟨rfl, ⟨nd, rfl⟩⟩; (try exact zqD_))))
            (try simp only [Act.put, List.setIfInBounds_toArray, List.set_cons_zero, List.set_cons_succ])
            go_cut [71] (fun v71 wc => ∃ (kq : Nat) (x71_23 : Bool), v71 = .bool x71_23 ∧ Aside0 (topiaryref05_Unquoted.j3 kq a0 x7_2 x8_2 x71_23 = some (r1, r2, r3)) ∧ Aside0 (kq ≤ kj10) ∧ Aside0 (Kd.R (Kd.int .u8) 5 wc w.heap.size (fun _ => True) u7 x7_2) ∧ Aside0 (Below w.heap.size w wc))
            case first =>
             have H := HC24.out
             clear HC24
             by_cases c26 : (bt a0 x8_2) = 92
             ·rw [if_pos c26] at H
              have c26b0 : ((bt a0 x8_2) == 92) = true := beq_iff_eq.mpr c26
              have c26b1 : ((bt a0 x8_2) != 92) = false := bne_eq_false_iff_eq.mpr c26
              clear c26
              (first | rw [c26b0] | (simp only [i64_w, i32_w]; rw [c26b0]) | skip)
              by_cases c27 : (wrap64 (x8_2 + 2)) ≥ (a0.size : Int)
              ·rw [if_pos c27] at H
               have c27b0 : decide ((a0.size : Int) ≤ (wrap64 (x8_2 + 2))) = true := decide_eq_true c27
               clear c27
               have H' := Aside0.mk H
               clear H
               have p25 : 0 ≤ (x8_2 : Int) := of_decide_eq_true zq1_
               have q25 : x8_2 < (a0.size : Int) := of_decide_eq_true zq1_
               have hx25 := bt_at a0 x8_2
               replace p25 := eq_true p25
               replace q25 := eq_true q25
               go_wp2
               repeat (go_quiet (fail); try go_wp2)
               go_meet
               case rel => exact ⟨_, (true), zq6_, H', ⟨by have := HJ2.out; have := HK2.out; have := HJ10.out; first | omega | exact Nat.le_refl _⟩, ⟨by (with_reducible repeat (first | apply Kd.R_alloc | apply Kd.R_drewN | apply Kd.R_drew)); exact HO_7.out⟩, ⟨by repeat (first | (with_reducible first | exact HB.out | apply below_alloc | apply pw_below_drewN | apply below_drew1) | exact HB.out)⟩⟩
              ·rw [if_neg c27] at H
               have c27b0 : decide ((a0.size : Int) ≤ (wrap64 (x8_2 + 2))) = false := decide_eq_false c27
               clear c27
               obtain ⟨ji28, hji28⟩ : ∃ j_ : Int, (wrap64 (x8_2 + 1)) = j_ := ⟨_, rfl⟩
               replace H : (if 0 ≤ (ji28) then (if (ji28) < (a0.size : Int) then ((topiaryref05_value.f kj10 (bt a0 (ji28))).bind fun t118 => (if t118 = 16 then (topiaryref05_Unquoted.j3 kj10 a0 x7_2 x8_2 true) else (if 0 ≤ (wrap64 (x8_2 + 2)) then (if (wrap64 (x8_2 + 2)) < (a0.size : Int) then ((topiaryref05_value.f kj10 (bt a0 (wrap64 (x8_2 + 2)))).bind fun t119 => (topiaryref05_Unquoted.j3 kj10 a0 x7_2 x8_2 (t119 == 16))) else (none)) else (none)))) else (none)) else (none)) = some (r1, r2, r3) := by first | (rw [hji28] at H; exact H) | (simp only [hji28] at H ⊢; exact H)
               have hji28w : (IntKind.i64.wrap (x8_2 + 1)) = ji28 := (i64_w _).trans hji28
               by_cases c29 : 0 ≤ (ji28)
               ·rw [if_pos c29] at H
                have c29b0 : decide (0 ≤ (ji28)) = true := decide_eq_true c29
                clear c29
                by_cases c30 : (ji28) < (a0.size : Int)
                ·rw [if_pos c30] at H
                 have c30b0 : decide ((ji28) < (a0.size : Int)) = true := decide_eq_true c30
                 clear c30
                 replace H := Option.bind_eq_some_iff.mp H
                 obtain ⟨t118, A320, H⟩ := H
                 replace H : (if t118 = 16 then (topiaryref05_Unquoted.j3 kj10 a0 x7_2 x8_2 true) else (if 0 ≤ (wrap64 (x8_2 + 2)) then (if (wrap64 (x8_2 + 2)) < (a0.size : Int) then ((topiaryref05_value.f kj10 (bt a0 (wrap64 (x8_2 + 2)))).bind fun t119 => (topiaryref05_Unquoted.j3 kj10 a0 x7_2 x8_2 (t119 == 16))) else (none)) else (none))) = some (r1, r2, r3) := H
                 have A32 := Aside0.mk A320
                 clear A320
                 by_cases c33 : t118 = 16
                 ·rw [if_pos c33] at H
                  have c33b0 : (t118 == 16) = true := beq_iff_eq.mpr c33
                  have c33b1 : (t118 != 16) = false := bne_eq_false_iff_eq.mpr c33
                  clear c33
                  have H' := Aside0.mk H
                  clear H
                  have p25 : 0 ≤ (x8_2 : Int) := of_decide_eq_true zq1_
                  have q25 : x8_2 < (a0.size : Int) := of_decide_eq_true zq1_
                  have hx25 := bt_at a0 x8_2
                  replace p25 := eq_true p25
                  replace q25 := eq_true q25
                  have p31 : 0 ≤ ((ji28) : Int) := of_decide_eq_true zq1_
                  have q31 : (ji28) < (a0.size : Int) := of_decide_eq_true zq1_
                  have hx31 := bt_at a0 (ji28)
                  replace p31 := eq_true p31
                  replace q31 := eq_true q31
                  go_wp2_with (first | (go_at_call 32; (with_reducible refine (topiaryref05_value.calls kj10 (bt a0 (ji28)) t118 _ A32.out).mono ?_); rintro e w' ⟨rfl, ⟨nd, rfl⟩⟩; (try exact zqD_)))
                  repeat (go_quiet (first | (go_at_call 32; (with_reducible refine (topiaryref05_value.calls kj10 (bt a0 (ji28)) t118 _ A32.out).mono ?_); rintro e w' ⟨rfl, ⟨nd, rfl⟩⟩; (try exact zqD_))); try go_wp2_with (first | (go_at_call 32; (with_reducible refine (topiaryref05_value.calls kj10 (bt a0 (ji28)) t118 _ A32.out).mono ?_); rintro e w' ⟨rfl, ⟨nd, rfl⟩⟩; (try exact zqD_))))
                  go_meet
                  case rel => exact ⟨_, (true), zq6_, H', ⟨by have := HJ2.out; have := HK2.out; have := HJ10.out; first | omega | exact Nat.le_refl _⟩, ⟨by (with_reducible repeat (first | apply Kd.R_alloc | apply Kd.R_drewN | apply Kd.R_drew)); exact HO_7.out⟩, ⟨by repeat (first | (with_reducible first | exact HB.out | apply below_alloc | apply pw_below_drewN | apply below_drew1) | exact HB.out)⟩⟩
                 ·rw [if_neg c33] at H
                  have c33b0 : (t118 == 16) = false := beq_eq_false_iff_ne.mpr c33
                  have c33b1 : (t118 != 16) = true := bne_iff_ne.mpr c33
                  obtain ⟨ji34, hji34⟩ : ∃ j_ : Int, (wrap64 (x8_2 + 2)) = j_ := ⟨_, rfl⟩
                  replace H : (if 0 ≤ (ji34) then (if (ji34) < (a0.size : Int) then ((topiaryref05_value.f kj10 (bt a0 (ji34))).bind fun t119 => (topiaryref05_Unquoted.j3 kj10 a0 x7_2 x8_2 (t119 == 16))) else (none)) else (none)) = some (r1, r2, r3) := by first | (rw [hji34] at H; exact H) | (simp only [hji34] at H ⊢; exact H)
                  (try rw [hji34] at c27b0)
                  (try rw [hji34] at A32)
                  have hji34w : (IntKind.i64.wrap (x8_2 + 2)) = ji34 := (i64_w _).trans hji34
                  by_cases c35 : 0 ≤ (ji34)
                  ·rw [if_pos c35] at H
                   have c35b0 : decide (0 ≤ (ji34)) = true := decide_eq_true c35
                   clear c35
                   by_cases c36 : (ji34) < (a0.size : Int)
                   ·rw [if_pos c36] at H
                    have c36b0 : decide ((ji34) < (a0.size : Int)) = true := decide_eq_true c36
                    clear c36
                    replace H := Option.bind_eq_some_iff.mp H
                    obtain ⟨t119, A380, H⟩ := H
                    replace H : (topiaryref05_Unquoted.j3 kj10 a0 x7_2 x8_2 (t119 == 16)) = some (r1, r2, r3) := H
                    have A38 := Aside0.mk A380
                    clear A380
                    have H' := Aside0.mk H
                    clear H
                    have p25 : 0 ≤ (x8_2 : Int) := of_decide_eq_true zq1_
                    have q25 : x8_2 < (a0.size : Int) := of_decide_eq_true zq1_
                    have hx25 := bt_at a0 x8_2
                    replace p25 := eq_true p25
                    replace q25 := eq_true q25
                    have p31 : 0 ≤ ((ji28) : Int) := of_decide_eq_true zq1_
                    have q31 : (ji28) < (a0.size : Int) := of_decide_eq_true zq1_
                    have hx31 := bt_at a0 (ji28)
                    replace p31 := eq_true p31
                    replace q31 := eq_true q31
                    go_wp2_with (first | (go_at_call 32; (with_reducible refine (topiaryref05_value.calls kj10 (bt a0 (ji28)) t118 _ A32.out).mono ?_); rintro e w' ⟨rfl, ⟨nd, rfl⟩⟩; (try exact zqD_); have p37 : 0 ≤ ((ji34) : Int) := of_decide_eq_true zq1_; have q37 : (ji34) < (a0.size : Int) := of_decide_eq_true zq1_; have hx37 := bt_at a0 (ji34); replace p37 := eq_true p37; replace q37 := eq_true q37) | (go_at_call 32; (with_reducible refine (topiaryref05_value.calls kj10 (bt a0 (ji34)) t119 _ A38.out).mono ?_); rintro e w' ⟨rfl, ⟨nd, rfl⟩⟩; (try exact zqD_)))
                    repeat (go_quiet (first | (go_at_call 32; (with_reducible refine (topiaryref05_value.calls kj10 (bt a0 (ji28)) t118 _ A32.out).mono ?_); rintro e w' ⟨rfl, ⟨nd, rfl⟩⟩; (try exact zqD_); have p37 : 0 ≤ ((ji34) : Int) := of_decide_eq_true zq1_; have q37 : (ji34) < (a0.size : Int) := of_decide_eq_true zq1_; have hx37 := bt_at a0 (ji34); replace p37 := eq_true p37; replace q37 := eq_true q37) | (go_at_call 32; (with_reducible refine (topiaryref05_value.calls kj10 (bt a0 (ji34)) t119 _ A38.out).mono ?_); rintro e w' ⟨rfl, ⟨nd, rfl⟩⟩; (try exact zqD_))); try go_wp2_with (first | (go_at_call 32; (with_reducible refine (topiaryref05_value.calls kj10 (bt a0 (ji28)) t118 _ A32.out).mono ?_); rintro e w' ⟨rfl, ⟨nd, rfl⟩⟩; (try exact zqD_); have p37 : 0 ≤ ((ji34) : Int) := of_decide_eq_true zq1_; have q37 : (ji34) < (a0.size : Int) := of_decide_eq_true zq1_; have hx37 := bt_at a0 (ji34); replace p37 := eq_true p37; replace q37 := eq_true q37) | (go_at_call 32; (with_reducible refine (topiaryref05_value.calls kj10 (bt a0 (ji34)) t119 _ A38.out).mono ?_); rintro e w' ⟨rfl, ⟨nd, rfl⟩⟩; (try exact zqD_))))
                    go_meet
                    case rel => exact ⟨_, ((t119 == 16)), zq6_, H', ⟨by have := HJ2.out; have := HK2.out; have := HJ10.out; first | omega | exact Nat.le_refl _⟩, ⟨by (with_reducible repeat (first | apply Kd.R_alloc | apply Kd.R_drewN | apply Kd.R_drew)); exact HO_7.out⟩, ⟨by repeat (first | (with_reducible first | exact HB.out | apply below_alloc | apply pw_below_drewN | apply below_drew1) | exact HB.out)⟩⟩
                   ·rw [if_neg c36] at H
                    exact absurd H (by simp)
                  ·rw [if_neg c35] at H
                   exact absurd H (by simp)
                ·rw [if_neg c30] at H
                 exact absurd H (by simp)
               ·rw [if_neg c29] at H
                exact absurd H (by simp)
             ·rw [if_neg c26] at H
              have c26b0 : ((bt a0 x8_2) == 92) = false := beq_eq_false_iff_ne.mpr c26
              have c26b1 : ((bt a0 x8_2) != 92) = true := bne_iff_ne.mpr c26
              (first | rw [c26b0] | (simp only [i64_w, i32_w]; rw [c26b0]) | skip)
              have H' := Aside0.mk H
              clear H
              have p25 : 0 ≤ (x8_2 : Int) := of_decide_eq_true zq1_
              have q25 : x8_2 < (a0.size : Int) := of_decide_eq_true zq1_
              have hx25 := bt_at a0 x8_2
              replace p25 := eq_true p25
              replace q25 := eq_true q25
              go_wp2
              repeat (go_quiet (fail); try go_wp2)
              go_meet
              case rel => exact ⟨_, (true), zq6_, H', ⟨by have := HJ2.out; have := HK2.out; have := HJ10.out; first | omega | exact Nat.le_refl _⟩, ⟨by (with_reducible repeat (first | apply Kd.R_alloc | apply Kd.R_drewN | apply Kd.R_drew)); exact HO_7.out⟩, ⟨by repeat (first | (with_reducible first | exact HB.out | apply below_alloc | apply pw_below_drewN | apply below_drew1) | exact HB.out)⟩⟩
            case rest =>
             clear HC24
             try clear c1
             try clear p1
             try clear q1
             try clear hx1
             try clear c2
             try clear p2
             try clear q2
             try clear hx2
             try clear c3
             try clear p3
             try clear q3
             try clear hx3
             try clear c4
             try clear c4b0
             try clear c5
             try clear c5b0
             try clear c6
             try clear c6b0
             try clear p6
             try clear p7
             try clear q7
             try clear hx7
             try clear c8
             try clear c12
             try clear c12b0
             try clear c13
             try clear c13b0
             try clear p14
             try clear q14
             try clear hx14
             try clear c15
             try clear c16
             try clear c16b0
             try clear c17
             try clear c17b0
             try clear c18
             try clear p18
             try clear q18
             try clear hx18
             try clear c20
             try clear p21
             try clear q21
             try clear hx21
             try clear c22
             try clear p25
             try clear q25
             try clear hx25
             try clear c26
             try clear c26b0
             try clear c26b1
             try clear c27
             try clear c27b0
             try clear c29
             try clear c29b0
             try clear c30
             try clear c30b0
             try clear p31
             try clear q31
             try clear hx31
             try clear c33
             try clear c33b0
             try clear c33b1
             try clear c35
             try clear c35b0
             try clear c36
             try clear c36b0
             try clear p37
             try clear q37
             try clear hx37
             try clear p1
             try clear p14
             try clear p18
             try clear p2
             try clear p21
             try clear p25
             try clear p31
             try clear p37
             try clear p6
             try clear p7
             try clear q1
             try clear q14
             try clear q18
             try clear q21
             try clear q25
             try clear q31
             try clear q37
             try clear q7
             obtain ⟨kq, x71_23, rfl, HA, HJ23, HO_7, HB⟩ := hcut
             cases kq with
             | zero => exact absurd HA.out (by simp [topiaryref05_Unquoted.j3])
             | succ kj23 =>
              have H := HA.out
              clear HA
              simp only [topiaryref05_Unquoted.j3] at H
              by_cases c39 : x71_23 = true
              ·subst c39
               have H1 : (some ((⟨#[]⟩ : ByteArray), 0, false)) = some (r1, r2, r3) := by rw [if_pos rfl] at H; exact H
               clear H
               have H := H1
               clear H1
               simp only [Option.some.injEq, Prod.mk.injEq] at H
               obtain ⟨rfl, rfl, rfl⟩ := H
               go_wp2
               repeat (go_quiet (fail); try go_wp2)
               go_ret3
               exact ⟨by first | rfl | (simp [errW_none, errW_some] <;> rfl) | (simp [*, errW_none, errW_some] <;> rfl), by repeat (first | (with_reducible first | exact HB.out | apply below_alloc | apply pw_below_drewN | apply below_drew1) | exact HB.out)⟩
              ·replace c39 := Bool.eq_false_iff.mpr c39
               subst c39
               have H1 : (if 0 ≤ (wrap64 (x8_2 + 1)) then (if (wrap64 (x8_2 + 1)) < (a0.size : Int) then ((topiaryref05_value.f kj23 (bt a0 (wrap64 (x8_2 + 1)))).bind fun t120 => (if 0 ≤ (wrap64 (x8_2 + 2)) then (if (wrap64 (x8_2 + 2)) < (a0.size : Int) then ((topiaryref05_value.f kj23 (bt a0 (wrap64 (x8_2 + 2)))).bind fun t121 => ((topiaryref05_plain.f ((wrap64 ((wrap64 (16 * t120)) + t121)) % 256)).bind fun t122 => (if t122 = true then (some ((⟨#[]⟩ : ByteArray), 0, false)) else (if x7_2.length < 140737488355328 then (topiaryref05_Unquoted.l0 kj23 a0 (x7_2 ++ [(wrap64 ((wrap64 (16 * t120)) + t121)) % 256]) (wrap64 (x8_2 + 3))) else (none))))) else (none)) else (none))) else (none)) else (none)) = some (r1, r2, r3) := by rw [if_neg (show ¬ (false = true) by decide)] at H; exact H
               clear H
               have H := H1
               clear H1
               obtain ⟨ji40, hji40⟩ : ∃ j_ : Int, (wrap64 (x8_2 + 1)) = j_ := ⟨_, rfl⟩
               replace H : (if 0 ≤ (ji40) then (if (ji40) < (a0.size : Int) then ((topiaryref05_value.f kj23 (bt a0 (ji40))).bind fun t120 => (if 0 ≤ (wrap64 (x8_2 + 2)) then (if (wrap64 (x8_2 + 2)) < (a0.size : Int) then ((topiaryref05_value.f kj23 (bt a0 (wrap64 (x8_2 + 2)))).bind fun t121 => ((topiaryref05_plain.f ((wrap64 ((wrap64 (16 * t120)) + t121)) % 256)).bind fun t122 => (if t122 = true then (some ((⟨#[]⟩ : ByteArray), 0, false)) else (if x7_2.length < 140737488355328 then (topiaryref05_Unquoted.l0 kj23 a0 (x7_2 ++ [(wrap64 ((wrap64 (16 * t120)) + t121)) % 256]) (wrap64 (x8_2 + 3))) else (none))))) else (none)) else (none))) else (none)) else (none)) = some (r1, r2, r3) := by first | (rw [hji40] at H; exact H) | (simp only [hji40] at H ⊢; exact H)
               have hji40w : (IntKind.i64.wrap (x8_2 + 1)) = ji40 := (i64_w _).trans hji40
               by_cases c41 : 0 ≤ (ji40)
               ·rw [if_pos c41] at H
                have c41b0 : decide (0 ≤ (ji40)) = true := decide_eq_true c41
                clear c41
                by_cases c42 : (ji40) < (a0.size : Int)
                ·rw [if_pos c42] at H
                 have c42b0 : decide ((ji40) < (a0.size : Int)) = true := decide_eq_true c42
                 clear c42
                 replace H := Option.bind_eq_some_iff.mp H
                 obtain ⟨t120, A440, H⟩ := H
                 replace H : (if 0 ≤ (wrap64 (x8_2 + 2)) then (if (wrap64 (x8_2 + 2)) < (a0.size : Int) then ((topiaryref05_value.f kj23 (bt a0 (wrap64 (x8_2 + 2)))).bind fun t121 => ((topiaryref05_plain.f ((wrap64 ((wrap64 (16 * t120)) + t121)) % 256)).bind fun t122 => (if t122 = true then (some ((⟨#[]⟩ : ByteArray), 0, false)) else (if x7_2.length < 140737488355328 then (topiaryref05_Unquoted.l0 kj23 a0 (x7_2 ++ [(wrap64 ((wrap64 (16 * t120)) + t121)) % 256]) (wrap64 (x8_2 + 3))) else (none))))) else (none)) else (none)) = some (r1, r2, r3) := H
                 have A44 := Aside0.mk A440
                 clear A440
                 obtain ⟨ji45, hji45⟩ : ∃ j_ : Int, (wrap64 (x8_2 + 2)) = j_ := ⟨_, rfl⟩
                 replace H : (if 0 ≤ (ji45) then (if (ji45) < (a0.size : Int) then ((topiaryref05_value.f kj23 (bt a0 (ji45))).bind fun t121 => ((topiaryref05_plain.f ((wrap64 ((wrap64 (16 * t120)) + t121)) % 256)).bind fun t122 => (if t122 = true then (some ((⟨#[]⟩ : ByteArray), 0, false)) else (if x7_2.length < 140737488355328 then (topiaryref05_Unquoted.l0 kj23 a0 (x7_2 ++ [(wrap64 ((wrap64 (16 * t120)) + t121)) % 256]) (wrap64 (x8_2 + 3))) else (none))))) else (none)) else (none)) = some (r1, r2, r3) := by first | (rw [hji45] at H; exact H) | (simp only [hji45] at H ⊢; exact H)
                 (try rw [hji45] at A44)
                 have hji45w : (IntKind.i64.wrap (x8_2 + 2)) = ji45 := (i64_w _).trans hji45
                 by_cases c46 : 0 ≤ (ji45)
                 ·rw [if_pos c46] at H
                  have c46b0 : decide (0 ≤ (ji45)) = true := decide_eq_true c46
                  clear c46
                  by_cases c47 : (ji45) < (a0.size : Int)
                  ·rw [if_pos c47] at H
                   have c47b0 : decide ((ji45) < (a0.size : Int)) = true := decide_eq_true c47
                   clear c47
                   replace H := Option.bind_eq_some_iff.mp H
                   obtain ⟨t121, A490, H⟩ := H
                   replace H : ((topiaryref05_plain.f ((wrap64 ((wrap64 (16 * t120)) + t121)) % 256)).bind fun t122 => (if t122 = true then (some ((⟨#[]⟩ : ByteArray), 0, false)) else (if x7_2.length < 140737488355328 then (topiaryref05_Unquoted.l0 kj23 a0 (x7_2 ++ [(wrap64 ((wrap64 (16 * t120)) + t121)) % 256]) (wrap64 (x8_2 + 3))) else (none)))) = some (r1, r2, r3) := H
                   have A49 := Aside0.mk A490
                   clear A490
                   replace H := Option.bind_eq_some_iff.mp H
                   obtain ⟨t122, A500, H⟩ := H
                   replace H : (if t122 = true then (some ((⟨#[]⟩ : ByteArray), 0, false)) else (if x7_2.length < 140737488355328 then (topiaryref05_Unquoted.l0 kj23 a0 (x7_2 ++ [(wrap64 ((wrap64 (16 * t120)) + t121)) % 256]) (wrap64 (x8_2 + 3))) else (none))) = some (r1, r2, r3) := H
                   have A50 := Aside0.mk A500
                   clear A500
                   by_cases c51 : t122 = true
                   ·subst c51
                    have H1 : (some ((⟨#[]⟩ : ByteArray), 0, false)) = some (r1, r2, r3) := by rw [if_pos rfl] at H; exact H
                    clear H
                    have H := H1
                    clear H1
                    simp only [Option.some.injEq, Prod.mk.injEq] at H
                    obtain ⟨rfl, rfl, rfl⟩ := H
                    have p43 : 0 ≤ ((ji40) : Int) := of_decide_eq_true zq1_
                    have q43 : (ji40) < (a0.size : Int) := of_decide_eq_true zq1_
                    have hx43 := bt_at a0 (ji40)
                    replace p43 := eq_true p43
                    replace q43 := eq_true q43
                    go_wp2_with (first | (go_at_call 32; (with_reducible refine (topiaryref05_value.calls kj23 (bt a0 (ji40)) t120 _ A44.out).mono ?_); rintro e w' ⟨rfl, ⟨nd, rfl⟩⟩; (try exact zqD_); have p48 : 0 ≤ ((ji45) : Int) := of_decide_eq_true zq1_; have q48 : (ji45) < (a0.size : Int) := of_decide_eq_true zq1_; have hx48 := bt_at a0 (ji45); replace p48 := eq_true p48; replace q48 := eq_true q48) | (go_at_call 32; (with_reducible refine (topiaryref05_value.calls kj23 (bt a0 (ji45)) t121 _ A49.out).mono ?_); rintro e w' ⟨rfl, ⟨nd, rfl⟩⟩; (try exact zqD_)) | (go_at_call 19; (with_reducible refine (topiaryref05_plain.calls ((wrap64 ((wrap64 (16 * t120)) + t121)) % 256) true _ A50.out).mono ?_); rintro e w' ⟨rfl, ⟨nd, rfl⟩⟩; (try exact zqD_)))
                    repeat (go_quiet (first | (go_at_call 32; (with_reducible refine (topiaryref05_value.calls kj23 (bt a0 (ji40)) t120 _ A44.out).mono ?_); rintro e w' ⟨rfl, ⟨nd, rfl⟩⟩; (try exact zqD_); have p48 : 0 ≤ ((ji45) : Int) := of_decide_eq_true zq1_; have q48 : (ji45) < (a0.size : Int) := of_decide_eq_true zq1_; have hx48 := bt_at a0 (ji45); replace p48 := eq_true p48; replace q48 := eq_true q48) | (go_at_call 32; (with_reducible refine (topiaryref05_value.calls kj23 (bt a0 (ji45)) t121 _ A49.out).mono ?_); rintro e w' ⟨rfl, ⟨nd, rfl⟩⟩; (try exact zqD_)) | (go_at_call 19; (with_reducible refine (topiaryref05_plain.calls ((wrap64 ((wrap64 (16 * t120)) + t121)) % 256) true _ A50.out).mono ?_); rintro e w' ⟨rfl, ⟨nd, rfl⟩⟩; (try exact zqD_))); try go_wp2_with (first | (go_at_call 32; (with_reducible refine (topiaryref05_value.calls kj23 (bt a0 (ji40)) t120 _ A44.out).mono ?_); rintro e w' ⟨rfl, ⟨nd, rfl⟩⟩; (try exact zqD_); have p48 : 0 ≤ ((ji45) : Int) := of_decide_eq_true zq1_; have q48 : (ji45) < (a0.size : Int) := of_decide_eq_true zq1_; have hx48 := bt_at a0 (ji45); replace p48 := eq_true p48; replace q48 := eq_true q48) | (go_at_call 32; (with_reducible refine (topiaryref05_value.calls kj23 (bt a0 (ji45)) t121 _ A49.out).mono ?_); rintro e w' ⟨rfl, ⟨nd, rfl⟩⟩; (try exact zqD_)) | (go_at_call 19; (with_reducible refine (topiaryref05_plain.calls ((wrap64 ((wrap64 (16 * t120)) + t121)) % 256) true _ A50.out).mono ?_); rintro e w' ⟨rfl, ⟨nd, rfl⟩⟩; (try exact zqD_))))
                    go_ret3
                    exact ⟨by first | rfl | (simp [errW_none, errW_some] <;> rfl) | (simp only [← hji40, ← hji45]; first | rfl | (simp [errW_none, errW_some] <;> rfl)) | (simp [*, errW_none, errW_some] <;> rfl), by repeat (first | (with_reducible first | exact HB.out | apply below_alloc | apply pw_below_drewN | apply below_drew1) | exact HB.out)⟩
                   ·replace c51 := Bool.eq_false_iff.mpr c51
                    subst c51
                    have H1 : (if x7_2.length < 140737488355328 then (topiaryref05_Unquoted.l0 kj23 a0 (x7_2 ++ [(wrap64 ((wrap64 (16 * t120)) + t121)) % 256]) (wrap64 (x8_2 + 3))) else (none)) = some (r1, r2, r3) := by rw [if_neg (show ¬ (false = true) by decide)] at H; exact H
                    clear H
                    have H := H1
                    clear H1
                    by_cases c52 : x7_2.length < 140737488355328
                    ·rw [if_pos c52] at H
                     have LMc52 := Aside0.mk c52
                     clear c52
                     obtain ⟨y123, hy123⟩ : ∃ y_ : List Int, y_ = (x7_2 ++ [(wrap64 ((wrap64 (16 * t120)) + t121)) % 256]) := ⟨_, rfl⟩
                     replace H : (topiaryref05_Unquoted.l0 kj23 a0 y123 (wrap64 (x8_2 + 3))) = some (r1, r2, r3) := by first | (rw [hy123]; with_reducible exact H) | (have H2_ := (Option.bind_some _ _).symm.trans H; rw [hy123]; with_reducible exact H2_) | (have H2_ := (Option.bind_some _ _).symm.trans H; with_reducible exact H2_) | with_reducible exact H | (rw [hy123]; exact H) | exact H
                     have Ny123 := Aside0.mk hy123
                     clear hy123
                     have H' := Aside0.mk H
                     clear H
                     have p43 : 0 ≤ ((ji40) : Int) := of_decide_eq_true zq1_
                     have q43 : (ji40) < (a0.size : Int) := of_decide_eq_true zq1_
                     have hx43 := bt_at a0 (ji40)
                     replace p43 := eq_true p43
                     replace q43 := eq_true q43
                     go_wp2_with (first | (go_at_call 32; (with_reducible refine (topiaryref05_value.calls kj23 (bt a0 (ji40)) t120 _ A44.out).mono ?_); rintro e w' ⟨rfl, ⟨nd, rfl⟩⟩; (try exact zqD_); have p48 : 0 ≤ ((ji45) : Int) := of_decide_eq_true zq1_; have q48 : (ji45) < (a0.size : Int) := of_decide_eq_true zq1_; have hx48 := bt_at a0 (ji45); replace p48 := eq_true p48; replace q48 := eq_true q48) | (go_at_call 32; (with_reducible refine (topiaryref05_value.calls kj23 (bt a0 (ji45)) t121 _ A49.out).mono ?_); rintro e w' ⟨rfl, ⟨nd, rfl⟩⟩; (try exact zqD_)) | (go_at_call 19; (with_reducible refine (topiaryref05_plain.calls ((wrap64 ((wrap64 (16 * t120)) + t121)) % 256) false _ A50.out).mono ?_); rintro e w' ⟨rfl, ⟨nd, rfl⟩⟩; (try exact zqD_)) | ((with_reducible refine gate_builtin (b := .append) (xs := #[.tmp 87, .tmp 89]) rfl ?_); (try (refine gate_guard (by rfl) ?_; dsimp only)); at_builtin; refine Kd.R_append (Kd.int .u8) (w0 := w) w.heap.size rfl (.tmp 87) (.tmp 89) 41 5 (.int .u8 0) 1 rfl Tryd.underlying41 info5 rfl (by decide) (by omega) u7 x7_2 ((wrap64 ((wrap64 (16 * t120)) + t121)) % 256) [.int .u8 ((wrap64 ((wrap64 (16 * t120)) + t121)) % 256)] (fun _ => True) (fun _ => False) rfl rfl ?aP (fun _ hk => hk.elim) ?aF ?aO ?aB ?aS ?aL ?_; (case aP => exact rfl); (case aB => exact zq0_); (case aF => exact (fun _ _ => trivial)); (case aO => exact zq13_); (case aS => exact (below_size zq0_)); (case aL => have := LMc52.out; omega); intro v124 w53 ho hb hg hat; rw [← Ny123.out] at ho; have n0_ := Aside0.mk (hb); have n1_ := Aside0.mk (ho); clear HB; clear HO_7; have HB := n0_; have HO125 := n1_; clear n0_ n1_; clear ho hb hg hat))
                     repeat (go_quiet (first | (go_at_call 32; (with_reducible refine (topiaryref05_value.calls kj23 (bt a0 (ji40)) t120 _ A44.out).mono ?_); rintro e w' ⟨rfl, ⟨nd, rfl⟩⟩; (try exact zqD_); have p48 : 0 ≤ ((ji45) : Int) := of_decide_eq_true zq1_; have q48 : (ji45) < (a0.size : Int) := of_decide_eq_true zq1_; have hx48 := bt_at a0 (ji45); replace p48 := eq_true p48; replace q48 := eq_true q48) | (go_at_call 32; (with_reducible refine (topiaryref05_value.calls kj23 (bt a0 (ji45)) t121 _ A49.out).mono ?_); rintro e w' ⟨rfl, ⟨nd, rfl⟩⟩; (try exact zqD_)) | (go_at_call 19; (with_reducible refine (topiaryref05_plain.calls ((wrap64 ((wrap64 (16 * t120)) + t121)) % 256) false _ A50.out).mono ?_); rintro e w' ⟨rfl, ⟨nd, rfl⟩⟩; (try exact zqD_)) | ((with_reducible refine gate_builtin (b := .append) (xs := #[.tmp 87, .tmp 89]) rfl ?_); (try (refine gate_guard (by rfl) ?_; dsimp only)); at_builtin; refine Kd.R_append (Kd.int .u8) (w0 := w) w.heap.size rfl (.tmp 87) (.tmp 89) 41 5 (.int .u8 0) 1 rfl Tryd.underlying41 info5 rfl (by decide) (by omega) u7 x7_2 ((wrap64 ((wrap64 (16 * t120)) + t121)) % 256) [.int .u8 ((wrap64 ((wrap64 (16 * t120)) + t121)) % 256)] (fun _ => True) (fun _ => False) rfl rfl ?aP (fun _ hk => hk.elim) ?aF ?aO ?aB ?aS ?aL ?_; (case aP => exact rfl); (case aB => exact zq0_); (case aF => exact (fun _ _ => trivial)); (case aO => exact zq13_); (case aS => exact (below_size zq0_)); (case aL => have := LMc52.out; omega); intro v124 w53 ho hb hg hat; rw [← Ny123.out] at ho; have n0_ := Aside0.mk (hb); have n1_ := Aside0.mk (ho); clear HB; clear HO_7; have HB := n0_; have HO125 := n1_; clear n0_ n1_; clear ho hb hg hat)); try go_wp2_with (first | (go_at_call 32; (with_reducible refine (topiaryref05_value.calls kj23 (bt a0 (ji40)) t120 _ A44.out).mono ?_); rintro e w' ⟨rfl, ⟨nd, rfl⟩⟩; (try exact zqD_); have p48 : 0 ≤ ((ji45) : Int) := of_decide_eq_true zq1_; have q48 : (ji45) < (a0.size : Int) := of_decide_eq_true zq1_; have hx48 := bt_at a0 (ji45); replace p48 := eq_true p48; replace q48 := eq_true q48) | (go_at_call 32; (with_reducible refine (topiaryref05_value.calls kj23 (bt a0 (ji45)) t121 _ A49.out).mono ?_); rintro e w' ⟨rfl, ⟨nd, rfl⟩⟩; (try exact zqD_)) | (go_at_call 19; (with_reducible refine (topiaryref05_plain.calls ((wrap64 ((wrap64 (16 * t120)) + t121)) % 256) false _ A50.out).mono ?_); rintro e w' ⟨rfl, ⟨nd, rfl⟩⟩; (try exact zqD_)) | ((with_reducible refine gate_builtin (b := .append) (xs := #[.tmp 87, .tmp 89]) rfl ?_); (try (refine gate_guard (by rfl) ?_; dsimp only)); at_builtin; refine Kd.R_append (Kd.int .u8) (w0 := w) w.heap.size rfl (.tmp 87) (.tmp 89) 41 5 (.int .u8 0) 1 rfl Tryd.underlying41 info5 rfl (by decide) (by omega) u7 x7_2 ((wrap64 ((wrap64 (16 * t120)) + t121)) % 256) [.int .u8 ((wrap64 ((wrap64 (16 * t120)) + t121)) % 256)] (fun _ => True) (fun _ => False) rfl rfl ?aP (fun _ hk => hk.elim) ?aF ?aO ?aB ?aS ?aL ?_; (case aP => exact rfl); (case aB => exact zq0_); (case aF => exact (fun _ _ => trivial)); (case aO => exact zq13_); (case aS => exact (below_size zq0_)); (case aL => have := LMc52.out; omega); intro v124 w53 ho hb hg hat; rw [← Ny123.out] at ho; have n0_ := Aside0.mk (hb); have n1_ := Aside0.mk (ho); clear HB; clear HO_7; have HB := n0_; have HO125 := n1_; clear n0_ n1_; clear ho hb hg hat)))
                     go_roundg kj23
                     case measure => have := HJ2.out; have := HK2.out; have := HJ10.out; have := HJ23.out; omega
                     case rel => exact ⟨(y123), (wrap64 (x8_2 + 3)), zq6_, H', ⟨by have := HJ2.out; have := HK2.out; have := HJ10.out; have := HJ23.out; omega⟩, ⟨by (with_reducible repeat (first | apply Kd.R_alloc | apply Kd.R_drewN | apply Kd.R_drew)); exact HO125.out⟩, ⟨by repeat (first | (with_reducible first | exact HB.out | apply below_alloc | apply pw_below_drewN | apply below_drew1) | exact HB.out)⟩⟩
                    ·rw [if_neg c52] at H
                     exact absurd H (by simp)
                  ·rw [if_neg c47] at H
                   exact absurd H (by simp)
                 ·rw [if_neg c46] at H
                  exact absurd H (by simp)
                ·rw [if_neg c42] at H
                 exact absurd H (by simp)
               ·rw [if_neg c41] at H
                exact absurd H (by simp)
          ·rw [if_neg c17] at H
           exact absurd H (by simp)
         ·rw [if_neg c16] at H
          exact absurd H (by simp)
        ·replace c15 := Bool.eq_false_iff.mpr c15
         subst c15
         have H1 : (if x8_2 ≥ (a0.size : Int) then (some ((⟨#[]⟩ : ByteArray), 0, false)) else (some (strOfNums x7_2, wrap64 (x8_2 + 1), true))) = some (r1, r2, r3) := by rw [if_neg (show ¬ (false = true) by decide)] at H; exact H
         clear H
         have H := H1
         clear H1
         by_cases c54 : x8_2 ≥ (a0.size : Int)
         ·rw [if_pos c54] at H
          have c54b0 : decide ((a0.size : Int) ≤ x8_2) = true := decide_eq_true c54
          clear c54
          simp only [Option.some.injEq, Prod.mk.injEq] at H
          obtain ⟨rfl, rfl, rfl⟩ := H
          go_wp2
          repeat (go_quiet (fail); try go_wp2)
          go_ret3
          exact ⟨by first | rfl | (simp [errW_none, errW_some] <;> rfl) | (simp [*, errW_none, errW_some] <;> rfl), by repeat (first | (with_reducible first | exact HB.out | apply below_alloc | apply pw_below_drewN | apply below_drew1) | exact HB.out)⟩
         ·rw [if_neg c54] at H
          have c54b0 : decide ((a0.size : Int) ≤ x8_2) = false := decide_eq_false c54
          clear c54
          simp only [Option.some.injEq, Prod.mk.injEq] at H
          obtain ⟨rfl, rfl, rfl⟩ := H
          have hcv55 := own_string (P := Tryd.prog) Tryd.underlying41 Tryd.underlying5 Tryd.underlying9 (Kd.own_of_R HO_7.out)
          go_wp2
          repeat (go_quiet (fail); try go_wp2)
          go_ret3
          exact ⟨by first | rfl | (simp [errW_none, errW_some] <;> rfl) | (simp [*, errW_none, errW_some] <;> rfl), by repeat (first | (with_reducible first | exact HB.out | apply below_alloc | apply pw_below_drewN | apply below_drew1) | exact HB.out)⟩

/-! ### topiaryref05_Unquote: function 7 -/
def topiaryref05_Unquote.f (k : Nat) (a0 : ByteArray) : Option (ByteArray × Bool) := (topiaryref05_Unquoted.f k a0 0).bind fun bt126 => (if bt126.2.2 = true then (if bt126.2.1 = (a0.size : Int) then (some (bt126.1, true)) else (some ((⟨#[]⟩ : ByteArray), false))) else (some ((⟨#[]⟩ : ByteArray), false)))
theorem topiaryref05_Unquote.mono : ∀ a0 k, LeO (topiaryref05_Unquote.f k a0) (topiaryref05_Unquote.f (k + 1) a0) := by
 intro a0 k
 unfold topiaryref05_Unquote.f
 repeat' first
   | (with_reducible exact topiaryref05_Unquoted.mono _ _ _)
   | (with_reducible exact LeO.refl _)
   | (with_reducible exact LeO.none _)
   | (with_reducible refine LeO.ite ?_ ?_)
   | (with_reducible refine LeO.bind ?_ (fun _ => ?_))
   | exact topiaryref05_Unquoted.mono _ _ _
   | exact LeO.none _
   | refine LeO.ite ?_ ?_
   | refine LeO.bind ?_ (fun _ => ?_)
set_option maxHeartbeats 8000000 in
set_option maxRecDepth 100000 in
theorem topiaryref05_Unquote.calls (k : Nat) (a0 : ByteArray) (r1 : ByteArray) (r2 : Bool) (w : World) (h : topiaryref05_Unquote.f k a0 = some (r1, r2)) :
  Calls Tryd.prog 7 #[.string a0] w fun e w' => e = .returned (.tuple #[.string r1, .bool r2]) ∧ Below w.heap.size w w' := by
 have HB := Aside0.mk (Below.refl w.heap.size w)
 have H : ((topiaryref05_Unquoted.f k a0 0).bind fun bt126 => (if bt126.2.2 = true then (if bt126.2.1 = (a0.size : Int) then (some (bt126.1, true)) else (some ((⟨#[]⟩ : ByteArray), false))) else (some ((⟨#[]⟩ : ByteArray), false)))) = some (r1, r2) := h
 clear h
 replace H := Option.bind_eq_some_iff.mp H
 obtain ⟨⟨t126, t127, t128⟩, A20, H⟩ := H
 replace H : (if t128 = true then (if t127 = (a0.size : Int) then (some (t126, true)) else (some ((⟨#[]⟩ : ByteArray), false))) else (some ((⟨#[]⟩ : ByteArray), false))) = some (r1, r2) := H
 have A2 := Aside0.mk A20
 clear A20
 by_cases c3 : t128 = true
 focus
  subst c3
  have H1 : (if t127 = (a0.size : Int) then (some (t126, true)) else (some ((⟨#[]⟩ : ByteArray), false))) = some (r1, r2) := by rw [if_pos rfl] at H; exact H
  clear H
  have H := H1
  clear H1
  by_cases c4 : t127 = (a0.size : Int)
  focus
   rw [if_pos c4] at H
   have c4b0 : (t127 == (a0.size : Int)) = true := beq_iff_eq.mpr c4
   have c4b1 : (t127 != (a0.size : Int)) = false := bne_eq_false_iff_eq.mpr c4
   clear c4
   simp only [Option.some.injEq, Prod.mk.injEq] at H
   obtain ⟨rfl, rfl⟩ := H
   have zqm1_ := True.intro
  rotate_right
  focus
   rw [if_neg c4] at H
   have c4b0 : (t127 == (a0.size : Int)) = false := beq_eq_false_iff_ne.mpr c4
   have c4b1 : (t127 != (a0.size : Int)) = true := bne_iff_ne.mpr c4
   simp only [Option.some.injEq, Prod.mk.injEq] at H
   obtain ⟨rfl, rfl⟩ := H
   have zqm1_ := True.intro
 rotate_right
 focus
  replace c3 := Bool.eq_false_iff.mpr c3
  subst c3
  have H1 : (some ((⟨#[]⟩ : ByteArray), false)) = some (r1, r2) := by rw [if_neg (show ¬ (false = true) by decide)] at H; exact H
  clear H
  have H := H1
  clear H1
  simp only [Option.some.injEq, Prod.mk.injEq] at H
  obtain ⟨rfl, rfl⟩ := H
 all_goals (try (clear zqm1_; go_enter Tryd.func7, Tryd.ntmps7; go_wp2_with ((with_reducible refine gate_callee (f := 18) rfl ?_); refine zqG_ (some 9) rfl Tryd.func18 #[.string a0, .int .i64 0] rfl ?_; (with_reducible refine (topiaryref05_Unquoted.calls k a0 0 t126 t127 true _ A2.out).mono ?_); rintro e wz1 ⟨rfl, hb⟩; refine ⟨_, rfl, ?_⟩; have n0_ := Aside0.mk (below_step zq0_ hb); clear HB; have HB := n0_; clear n0_; (try clear hb); (try clear hb2); (try clear hk); (try clear hi))))
 ·go_enter Tryd.func7, Tryd.ntmps7
  go_wp2_with ((with_reducible refine gate_callee (f := 18) rfl ?_); refine zqG_ (some 9) rfl Tryd.func18 #[.string a0, .int .i64 0] rfl ?_; (with_reducible refine (topiaryref05_Unquoted.calls k a0 0 t126 t127 false _ A2.out).mono ?_); rintro e wz1 ⟨rfl, hb⟩; refine ⟨_, rfl, ?_⟩; have n0_ := Aside0.mk (below_step zq0_ hb); clear HB; have HB := n0_; clear n0_; (try clear hb); (try clear hb2); (try clear hk); (try clear hi))
  go_ret2
  exact ⟨by first | rfl | (simp [errW_none, errW_some] <;> rfl) | (simp [*, errW_none, errW_some] <;> rfl), by repeat (first | (with_reducible first | exact HB.out | apply below_alloc | apply pw_below_drewN | apply below_drew1) | exact HB.out)⟩
 ·go_ret2
  exact ⟨by first | rfl | (simp [errW_none, errW_some] <;> rfl) | (simp [*, errW_none, errW_some] <;> rfl), by repeat (first | (with_reducible first | exact HB.out | apply below_alloc | apply pw_below_drewN | apply below_drew1) | exact HB.out)⟩
 ·go_ret2
  exact ⟨by first | rfl | (simp [errW_none, errW_some] <;> rfl) | (simp [*, errW_none, errW_some] <;> rfl), by repeat (first | (with_reducible first | exact HB.out | apply below_alloc | apply pw_below_drewN | apply below_drew1) | exact HB.out)⟩

end Go.Proofs.YtgoolgmcbnikkaaDoor.QChangeQuotes
