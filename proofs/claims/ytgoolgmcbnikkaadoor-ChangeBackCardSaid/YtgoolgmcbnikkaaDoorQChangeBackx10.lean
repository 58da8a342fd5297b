-- Own text of this seat, laid by the session's program ownprint.py (wip/tools). Lean checks it.
import Derived.Test.YtgoolgmcbnikkaaDoorQChangeBackx0
import Derived.Test.YtgoolgmcbnikkaaDoorQChangeBackx2
import Derived.Test.YtgoolgmcbnikkaaDoorQChangeBackx6
import Derived.Test.YtgoolgmcbnikkaaDoorQChangeBackx9
namespace Go.Proofs.YtgoolgmcbnikkaaDoor.QChangeBack
open Go.RowKit Go.Proofs.YtgoolgmcbnikkaaDoorW.PrintWords Go.Proofs.YtgoolgmcbnikkaaDoorW.PrintLast Go.Proofs.YtgoolgmcbnikkaaDoorW.PrintMore
attribute [local go_sem] max2_int min2_int max_two min_two max_three min_three max_four min_four   -- for this text's walks alone
set_option linter.unusedVariables false
set_option linter.unusedSimpArgs false

/-! ### ident_whole: function 62 -/
mutual
def ident_whole.j0 : Nat → ByteArray → Bool → Option (Int × Bool)
 | 0, _, _ => none
 | k + 1, x0, x23 => if x23 = true then (some (0, false)) else (ident_whole.l0 k x0 0 (x0.size : Int) 0)
def ident_whole.l0 : Nat → ByteArray → Int → Int → Int → Option (Int × Bool)
 | 0, _, _, _, _ => none
 | k + 1, x0, x4, x25, x26 => if x26 < x25 then (if 0 ≤ x26 then (if x26 < (x0.size : Int) then (if (bt x0 x26) < 48 then (some (0, false)) else (if (bt x0 x26) > 57 then (some (0, false)) else (ident_whole.l0 k x0 (wrap64 ((wrap64 (10 * x4)) + (((bt x0 x26) - 48) % 256))) x25 (wrap64 (x26 + 1))))) else (none)) else (none)) else (some (x4, true))
end
def ident_whole.f (k : Nat) (a0 : ByteArray) : Option (Int × Bool) := if (a0.size : Int) = 0 then (ident_whole.j0 k a0 true) else (if (a0.size : Int) > 14 then (ident_whole.j0 k a0 true) else (if 0 < (a0.size : Int) then (if (bt a0 0) = 48 then (ident_whole.j0 k a0 (decide ((a0.size : Int) > 1))) else (ident_whole.j0 k a0 false)) else (none)))
theorem ident_whole.mono_l : ∀ k, (∀ y0 y1, LeO (ident_whole.j0 k y0 y1) (ident_whole.j0 (k + 1) y0 y1)) ∧ (∀ y0 y1 y2 y3, LeO (ident_whole.l0 k y0 y1 y2 y3) (ident_whole.l0 (k + 1) y0 y1 y2 y3))
 | 0 => ⟨fun _ _ r h => by simp [ident_whole.j0] at h, fun _ _ _ _ r h => by simp [ident_whole.l0] at h⟩
 | k + 1 => by
  obtain ⟨ih0, ih1⟩ := ident_whole.mono_l k
  refine ⟨?_, ?_⟩
  ·intro y0 y1
   unfold ident_whole.j0
   repeat' first
   | (with_reducible exact ih0 _ _)
   | (with_reducible exact ih1 _ _ _ _)
   | (with_reducible exact LeO.refl _)
   | (with_reducible exact LeO.none _)
   | (with_reducible refine LeO.ite ?_ ?_)
   | (with_reducible refine LeO.bind ?_ (fun _ => ?_))
   | exact ih0 _ _
   | exact ih1 _ _ _ _
   | exact LeO.none _
   | refine LeO.ite ?_ ?_
   | refine LeO.bind ?_ (fun _ => ?_)
  ·intro y0 y1 y2 y3
   unfold ident_whole.l0
   repeat' first
   | (with_reducible exact ih0 _ _)
   | (with_reducible exact ih1 _ _ _ _)
   | (with_reducible exact LeO.refl _)
   | (with_reducible exact LeO.none _)
   | (with_reducible refine LeO.ite ?_ ?_)
   | (with_reducible refine LeO.bind ?_ (fun _ => ?_))
   | exact ih0 _ _
   | exact ih1 _ _ _ _
   | exact LeO.none _
   | refine LeO.ite ?_ ?_
   | refine LeO.bind ?_ (fun _ => ?_)
theorem ident_whole.mono : ∀ a0 k, LeO (ident_whole.f k a0) (ident_whole.f (k + 1) a0) := by
 intro a0 k
 obtain ⟨ih0, ih1⟩ := ident_whole.mono_l k
 unfold ident_whole.f
 repeat' first
   | (with_reducible exact ih0 _ _)
   | (with_reducible exact ih1 _ _ _ _)
   | (with_reducible exact LeO.refl _)
   | (with_reducible exact LeO.none _)
   | (with_reducible refine LeO.ite ?_ ?_)
   | (with_reducible refine LeO.bind ?_ (fun _ => ?_))
   | exact ih0 _ _
   | exact ih1 _ _ _ _
   | exact LeO.none _
   | refine LeO.ite ?_ ?_
   | refine LeO.bind ?_ (fun _ => ?_)
set_option maxHeartbeats 8000000 in
set_option maxRecDepth 100000 in
theorem ident_whole.calls (k : Nat) (a0 : ByteArray) (r1 : Int) (r2 : Bool) (w : World) (h : ident_whole.f k a0 = some (r1, r2)) :
  Calls Tryd.prog 62 #[.string a0] w fun e w' => e = .returned (.tuple #[.int .i64 r1, .bool r2]) ∧ Drawn0 w w' := by
 have H : (if (a0.size : Int) = 0 then (ident_whole.j0 k a0 true) else (if (a0.size : Int) > 14 then (ident_whole.j0 k a0 true) else (if 0 < (a0.size : Int) then (if (bt a0 0) = 48 then (ident_whole.j0 k a0 (decide ((a0.size : Int) > 1))) else (ident_whole.j0 k a0 false)) else (none)))) = some (r1, r2) := h
 clear h
 have HC2 := Aside0.mk H
 clear H
 go_enter Tryd.func62, Tryd.ntmps62
 go_upto_region 1 with (fail)
 go_cut [23] (fun v23 wc => ∃ (kq : Nat) (x23_1 : Bool), v23 = .bool x23_1 ∧ Aside0 (ident_whole.j0 kq a0 x23_1 = some (r1, r2)) ∧ Aside0 (kq ≤ k) ∧ Drawn0 w wc)
 case first =>
  have H := HC2.out
  clear HC2
  by_cases c3 : (a0.size : Int) = 0
  ·rw [if_pos c3] at H
   have c3b0 : ((a0.size : Int) == 0) = true := beq_iff_eq.mpr c3
   have c3b1 : ((a0.size : Int) != 0) = false := bne_eq_false_iff_eq.mpr c3
   clear c3
   (first | rw [c3b0] | (simp only [i64_w, i32_w]; rw [c3b0]) | skip)
   have H' := Aside0.mk H
   clear H
   go_wp2
   go_meet
   case rel => exact ⟨_, (true), zq8_, H', ⟨by first | omega | exact Nat.le_refl _⟩, by repeat (first | exact Drawn0.refl _ | apply Drawn0.step)⟩
  ·rw [if_neg c3] at H
   have c3b0 : ((a0.size : Int) == 0) = false := beq_eq_false_iff_ne.mpr c3
   have c3b1 : ((a0.size : Int) != 0) = true := bne_iff_ne.mpr c3
   (first | rw [c3b0] | (simp only [i64_w, i32_w]; rw [c3b0]) | skip)
   by_cases c4 : (a0.size : Int) > 14
   ·rw [if_pos c4] at H
    have c4b0 : decide (14 < (a0.size : Int)) = true := decide_eq_true c4
    have c4b1 : decide (14 < a0.size) = true := decide_eq_true (by omega)
    clear c4
    have H' := Aside0.mk H
    clear H
    go_wp2
    go_meet
    case rel => exact ⟨_, (true), zq8_, H', ⟨by first | omega | exact Nat.le_refl _⟩, by repeat (first | exact Drawn0.refl _ | apply Drawn0.step)⟩
   ·rw [if_neg c4] at H
    have c4b0 : decide (14 < (a0.size : Int)) = false := decide_eq_false c4
    have c4b1 : decide (14 < a0.size) = false := decide_eq_false (by omega)
    clear c4
    by_cases c5 : 0 < (a0.size : Int)
    ·rw [if_pos c5] at H
     have c5b0 : decide (0 < (a0.size : Int)) = true := decide_eq_true c5
     have c5b1 : decide (0 < a0.size) = true := decide_eq_true (by omega)
     clear c5
     by_cases c7 : (bt a0 0) = 48
     ·rw [if_pos c7] at H
      have c7b0 : ((bt a0 0) == 48) = true := beq_iff_eq.mpr c7
      have c7b1 : ((bt a0 0) != 48) = false := bne_eq_false_iff_eq.mpr c7
      clear c7
      have H' := Aside0.mk H
      clear H
      have p6 : 0 ≤ (0 : Int) := (by omega)
      have q6 : 0 < a0.size := zq33_
      have hx6 : ∀ h : 0 < a0.size, ((a0[0]'h).toNat : Int) = bt a0 0 := bt_at a0 0
      clear p6
      have qi6 : (0 < (a0.size : Int)) = True := eq_true (of_decide_eq_true zq2_)
      replace q6 := eq_true q6
      go_wp2
      go_meet
      case rel => exact ⟨_, (decide ((a0.size : Int) > 1)), zq8_, H', ⟨by first | omega | exact Nat.le_refl _⟩, by repeat (first | exact Drawn0.refl _ | apply Drawn0.step)⟩
     ·rw [if_neg c7] at H
      have c7b0 : ((bt a0 0) == 48) = false := beq_eq_false_iff_ne.mpr c7
      have c7b1 : ((bt a0 0) != 48) = true := bne_iff_ne.mpr c7
      have H' := Aside0.mk H
      clear H
      have p6 : 0 ≤ (0 : Int) := (by omega)
      have q6 : 0 < a0.size := zq33_
      have hx6 : ∀ h : 0 < a0.size, ((a0[0]'h).toNat : Int) = bt a0 0 := bt_at a0 0
      clear p6
      have qi6 : (0 < (a0.size : Int)) = True := eq_true (of_decide_eq_true zq2_)
      replace q6 := eq_true q6
      go_wp2
      go_meet
      case rel => exact ⟨_, (false), zq8_, H', ⟨by first | omega | exact Nat.le_refl _⟩, by repeat (first | exact Drawn0.refl _ | apply Drawn0.step)⟩
    ·rw [if_neg c5] at H
     exact absurd H (by simp)
 case rest =>
  clear HC2
  try clear p2
  try clear c3
  try clear c3b0
  try clear c3b1
  try clear c4
  try clear c4b0
  try clear c4b1
  try clear c5
  try clear c5b0
  try clear c5b1
  try clear c6
  try clear p6
  try clear q6
  try clear hx6
  try clear qi6
  try clear c7
  try clear c7b0
  try clear c7b1
  try clear p6
  try clear q6
  obtain ⟨kq, x23_1, rfl, HA, HJ1, ⟨mc1, rfl⟩⟩ := hcut
  cases kq with
  | zero => exact absurd HA.out (by simp [ident_whole.j0])
  | succ kj1 =>
   have H := HA.out
   clear HA
   simp only [ident_whole.j0] at H
   by_cases c8 : x23_1 = true
   ·subst c8
    have H1 : (some (0, false)) = some (r1, r2) := by rw [if_pos rfl] at H; exact H
    clear H
    have H := H1
    clear H1
    simp only [Option.some.injEq, Prod.mk.injEq] at H
    obtain ⟨rfl, rfl⟩ := H
    go_wp2
    go_ret2
    exact ⟨by first | rfl | (simp; done) | (simp [*]; done), by repeat (first | exact Drawn0.refl _ | apply Drawn0.step)⟩
   ·replace c8 := Bool.eq_false_iff.mpr c8
    subst c8
    have H1 : (ident_whole.l0 kj1 a0 0 (a0.size : Int) 0) = some (r1, r2) := by rw [if_neg (show ¬ (false = true) by decide)] at H; exact H
    clear H
    have H := H1
    clear H1
    have H' := Aside0.mk H
    clear H
    go_wp2
    go_loopg [4, 26] kj1 (fun kq v4 v26 w' => ∃ (x4_2 : Int) (x26_2 : Int), v4 = .int .i64 x4_2 ∧ v26 = .int .i64 x26_2 ∧ Aside0 (ident_whole.l0 kq a0 x4_2 (a0.size : Int) x26_2 = some (r1, r2)) ∧ Aside0 (kq ≤ kj1) ∧ Drawn0 w w')
    case atStart => exact ⟨(0), (0), zq8_, zq8_, H', ⟨Nat.le_refl _⟩, by repeat (first | exact Drawn0.refl _ | apply Drawn0.step)⟩
    case round =>
     clear H'
     try clear c1
     try clear p2
     try clear c3
     try clear c3b0
     try clear c3b1
     try clear c4
     try clear c4b0
     try clear c4b1
     try clear c5
     try clear c5b0
     try clear c5b1
     try clear c6
     try clear p6
     try clear q6
     try clear hx6
     try clear qi6
     try clear c7
     try clear c7b0
     try clear c7b1
     try clear c8
     try clear p2
     try clear p6
     try clear q6
     obtain ⟨x4_2, x26_2, rfl, rfl, HA, HK2, ⟨m2, rfl⟩⟩ := hrel
     cases gk with
     | zero => exact absurd HA.out (by simp [ident_whole.l0])
     | succ k2 =>
      have H := HA.out
      clear HA
      simp only [ident_whole.l0] at H
      by_cases c9 : x26_2 < (a0.size : Int)
      ·rw [if_pos c9] at H
       have c9b0 : decide (x26_2 < (a0.size : Int)) = true := decide_eq_true c9
       clear c9
       by_cases c10 : 0 ≤ x26_2
       ·rw [if_pos c10] at H
        have c10b0 : decide (0 ≤ x26_2) = true := decide_eq_true c10
        clear c10
        by_cases c11 : x26_2 < (a0.size : Int)
        ·rw [if_pos c11] at H
         have c11b0 : decide (x26_2 < (a0.size : Int)) = true := decide_eq_true c11
         clear c11
         by_cases c13 : (bt a0 x26_2) < 48
         ·rw [if_pos c13] at H
          have c13b0 : decide ((bt a0 x26_2) < 48) = true := decide_eq_true c13
          clear c13
          simp only [Option.some.injEq, Prod.mk.injEq] at H
          obtain ⟨rfl, rfl⟩ := H
          have p12 : 0 ≤ (x26_2 : Int) := of_decide_eq_true zq2_
          have q12 : x26_2 < (a0.size : Int) := of_decide_eq_true zq2_
          have hx12 := bt_at a0 x26_2
          replace p12 := eq_true p12
          replace q12 := eq_true q12
          go_wp2
          go_ret2
          exact ⟨by first | rfl | (simp; done) | (simp [*]; done), by repeat (first | exact Drawn0.refl _ | apply Drawn0.step)⟩
         ·rw [if_neg c13] at H
          have c13b0 : decide ((bt a0 x26_2) < 48) = false := decide_eq_false c13
          clear c13
          by_cases c15 : (bt a0 x26_2) > 57
          ·rw [if_pos c15] at H
           have c15b0 : decide (57 < (bt a0 x26_2)) = true := decide_eq_true c15
           clear c15
           simp only [Option.some.injEq, Prod.mk.injEq] at H
           obtain ⟨rfl, rfl⟩ := H
           have p12 : 0 ≤ (x26_2 : Int) := of_decide_eq_true zq2_
           have q12 : x26_2 < (a0.size : Int) := of_decide_eq_true zq2_
           have hx12 := bt_at a0 x26_2
           replace p12 := eq_true p12
           replace q12 := eq_true q12
           have p14 : 0 ≤ (x26_2 : Int) := of_decide_eq_true zq2_
           have q14 : x26_2 < (a0.size : Int) := of_decide_eq_true zq2_
           have hx14 := bt_at a0 x26_2
           replace p14 := eq_true p14
           replace q14 := eq_true q14
           go_wp2
           go_ret2
           exact ⟨by first | rfl | (simp; done) | (simp [*]; done), by repeat (first | exact Drawn0.refl _ | apply Drawn0.step)⟩
          ·rw [if_neg c15] at H
           have c15b0 : decide (57 < (bt a0 x26_2)) = false := decide_eq_false c15
           clear c15
           have H' := Aside0.mk H
           clear H
           have p12 : 0 ≤ (x26_2 : Int) := of_decide_eq_true zq2_
           have q12 : x26_2 < (a0.size : Int) := of_decide_eq_true zq2_
           have hx12 := bt_at a0 x26_2
           replace p12 := eq_true p12
           replace q12 := eq_true q12
           have p14 : 0 ≤ (x26_2 : Int) := of_decide_eq_true zq2_
           have q14 : x26_2 < (a0.size : Int) := of_decide_eq_true zq2_
           have hx14 := bt_at a0 x26_2
           replace p14 := eq_true p14
           replace q14 := eq_true q14
           have p16 : 0 ≤ (x26_2 : Int) := of_decide_eq_true zq2_
           have q16 : x26_2 < (a0.size : Int) := of_decide_eq_true zq2_
           have hx16 := bt_at a0 x26_2
           replace p16 := eq_true p16
           replace q16 := eq_true q16
           go_wp2
           go_roundg k2
           case measure => have := HJ1.out; have := HK2.out; omega
           case rel => exact ⟨(wrap64 ((wrap64 (10 * x4_2)) + (((bt a0 x26_2) - 48) % 256))), (wrap64 (x26_2 + 1)), zq8_, zq8_, H', ⟨by have := HJ1.out; have := HK2.out; omega⟩, by repeat (first | exact Drawn0.refl _ | apply Drawn0.step)⟩
        ·rw [if_neg c11] at H
         exact absurd H (by simp)
       ·rw [if_neg c10] at H
        exact absurd H (by simp)
      ·rw [if_neg c9] at H
       have c9b0 : decide (x26_2 < (a0.size : Int)) = false := decide_eq_false c9
       clear c9
       simp only [Option.some.injEq, Prod.mk.injEq] at H
       obtain ⟨rfl, rfl⟩ := H
       go_wp2
       go_ret2
       exact ⟨by first | rfl | (simp; done) | (simp [*]; done), by repeat (first | exact Drawn0.refl _ | apply Drawn0.step)⟩

/-! ### ident_Parse: function 47 -/
def ident_Parse.f (k : Nat) (a0 : ByteArray) : Option (Int × Int × Int) := if a0.toList = ([114, 111, 111, 116] : List UInt8) then (some (0, 0, 0)) else (if a0.toList = ([116, 114, 97, 115, 104] : List UInt8) then (some (0, 1, 0)) else ((strings_Cut.f a0 (⟨#[46]⟩ : ByteArray)).bind fun bt228 => ((ident_whole.f k bt228.1).bind fun bt231 => ((ident_whole.f k bt228.2.1).bind fun bt233 => (if bt228.2.2 = true then (if bt231.2 = true then (if bt233.2 = true then ((ident_Right.f bt231.1 bt233.1).bind fun t236 => (if t236 = true then (some (bt231.1, bt233.1, 0)) else (some (0, 0, 2)))) else (some (0, 0, 2))) else (some (0, 0, 2))) else (some (0, 0, 2)))))))
theorem ident_Parse.mono : ∀ a0 k, LeO (ident_Parse.f k a0) (ident_Parse.f (k + 1) a0) := by
 intro a0 k
 unfold ident_Parse.f
 repeat' first
   | (with_reducible exact ident_whole.mono _ _)
   | (with_reducible exact LeO.refl _)
   | (with_reducible exact LeO.none _)
   | (with_reducible refine LeO.ite ?_ ?_)
   | (with_reducible refine LeO.bind ?_ (fun _ => ?_))
   | exact ident_whole.mono _ _
   | exact LeO.none _
   | refine LeO.ite ?_ ?_
   | refine LeO.bind ?_ (fun _ => ?_)
set_option maxHeartbeats 8000000 in
set_option maxRecDepth 100000 in
theorem ident_Parse.calls (k : Nat) (a0 : ByteArray) (r1 : Int) (r2 : Int) (r3 : Int) (w : World) (htab : TabW_ w) (h : ident_Parse.f k a0 = some (r1, r2, r3)) :
  Calls Tryd.prog 47 #[.string a0] w fun e w' => e = .returned (.tuple #[.agg #[.int .i64 r1, .int .i64 r2], .int .i64 r3]) ∧ Below w.heap.size w w' := by
 have HTAB := Aside0.mk htab
 clear htab
 have hu28 := Tryd.underlying28
 have HB := Aside0.mk (Below.refl w.heap.size w)
 have H : (if a0.toList = ([114, 111, 111, 116] : List UInt8) then (some (0, 0, 0)) else (if a0.toList = ([116, 114, 97, 115, 104] : List UInt8) then (some (0, 1, 0)) else ((strings_Cut.f a0 (⟨#[46]⟩ : ByteArray)).bind fun bt228 => ((ident_whole.f k bt228.1).bind fun bt231 => ((ident_whole.f k bt228.2.1).bind fun bt233 => (if bt228.2.2 = true then (if bt231.2 = true then (if bt233.2 = true then ((ident_Right.f bt231.1 bt233.1).bind fun t236 => (if t236 = true then (some (bt231.1, bt233.1, 0)) else (some (0, 0, 2)))) else (some (0, 0, 2))) else (some (0, 0, 2))) else (some (0, 0, 2)))))))) = some (r1, r2, r3) := h
 clear h
 by_cases c2 : a0.toList = ([114, 111, 111, 116] : List UInt8)
 focus
  rw [if_pos c2] at H
  have c2b0 : (a0.toList == ([114, 111, 111, 116] : List UInt8)) = true := beq_iff_eq.mpr c2
  have c2b1 : (a0.toList != ([114, 111, 111, 116] : List UInt8)) = false := bne_eq_false_iff_eq.mpr c2
  clear c2
  simp only [Option.some.injEq, Prod.mk.injEq] at H
  obtain ⟨rfl, rfl, rfl⟩ := H
  have zqm5_ := True.intro
 rotate_right
 focus
  rw [if_neg c2] at H
  have c2b0 : (a0.toList == ([114, 111, 111, 116] : List UInt8)) = false := beq_eq_false_iff_ne.mpr c2
  have c2b1 : (a0.toList != ([114, 111, 111, 116] : List UInt8)) = true := bne_iff_ne.mpr c2
  by_cases c5 : a0.toList = ([116, 114, 97, 115, 104] : List UInt8)
  focus
   rw [if_pos c5] at H
   have c5b0 : (a0.toList == ([116, 114, 97, 115, 104] : List UInt8)) = true := beq_iff_eq.mpr c5
   have c5b1 : (a0.toList != ([116, 114, 97, 115, 104] : List UInt8)) = false := bne_eq_false_iff_eq.mpr c5
   clear c5
   simp only [Option.some.injEq, Prod.mk.injEq] at H
   obtain ⟨rfl, rfl, rfl⟩ := H
   have zqm5_ := True.intro
  rotate_right
  focus
   rw [if_neg c5] at H
   have c5b0 : (a0.toList == ([116, 114, 97, 115, 104] : List UInt8)) = false := beq_eq_false_iff_ne.mpr c5
   have c5b1 : (a0.toList != ([116, 114, 97, 115, 104] : List UInt8)) = true := bne_iff_ne.mpr c5
   replace H := Option.bind_eq_some_iff.mp H
   obtain ⟨⟨t228, t229, t230⟩, A80, H⟩ := H
   replace H : ((ident_whole.f k t228).bind fun bt231 => ((ident_whole.f k t229).bind fun bt233 => (if t230 = true then (if bt231.2 = true then (if bt233.2 = true then ((ident_Right.f bt231.1 bt233.1).bind fun t236 => (if t236 = true then (some (bt231.1, bt233.1, 0)) else (some (0, 0, 2)))) else (some (0, 0, 2))) else (some (0, 0, 2))) else (some (0, 0, 2))))) = some (r1, r2, r3) := H
   have A8 := Aside0.mk A80
   clear A80
   replace H := Option.bind_eq_some_iff.mp H
   obtain ⟨⟨t231, t232⟩, A90, H⟩ := H
   replace H : ((ident_whole.f k t229).bind fun bt233 => (if t230 = true then (if t232 = true then (if bt233.2 = true then ((ident_Right.f t231 bt233.1).bind fun t236 => (if t236 = true then (some (t231, bt233.1, 0)) else (some (0, 0, 2)))) else (some (0, 0, 2))) else (some (0, 0, 2))) else (some (0, 0, 2)))) = some (r1, r2, r3) := H
   have A9 := Aside0.mk A90
   clear A90
   replace H := Option.bind_eq_some_iff.mp H
   obtain ⟨⟨t233, t234⟩, A100, H⟩ := H
   replace H : (if t230 = true then (if t232 = true then (if t234 = true then ((ident_Right.f t231 t233).bind fun t236 => (if t236 = true then (some (t231, t233, 0)) else (some (0, 0, 2)))) else (some (0, 0, 2))) else (some (0, 0, 2))) else (some (0, 0, 2))) = some (r1, r2, r3) := H
   have A10 := Aside0.mk A100
   clear A100
   by_cases c11 : t230 = true
   focus
    subst c11
    have H1 : (if t232 = true then (if t234 = true then ((ident_Right.f t231 t233).bind fun t236 => (if t236 = true then (some (t231, t233, 0)) else (some (0, 0, 2)))) else (some (0, 0, 2))) else (some (0, 0, 2))) = some (r1, r2, r3) := by rw [if_pos rfl] at H; exact H
    clear H
    have H := H1
    clear H1
    by_cases c12 : t232 = true
    focus
     subst c12
     have H1 : (if t234 = true then ((ident_Right.f t231 t233).bind fun t236 => (if t236 = true then (some (t231, t233, 0)) else (some (0, 0, 2)))) else (some (0, 0, 2))) = some (r1, r2, r3) := by rw [if_pos rfl] at H; exact H
     clear H
     have H := H1
     clear H1
     by_cases c13 : t234 = true
     focus
      subst c13
      have H1 : ((ident_Right.f t231 t233).bind fun t236 => (if t236 = true then (some (t231, t233, 0)) else (some (0, 0, 2)))) = some (r1, r2, r3) := by rw [if_pos rfl] at H; exact H
      clear H
      have H := H1
      clear H1
      replace H := Option.bind_eq_some_iff.mp H
      obtain ⟨t236, A140, H⟩ := H
      replace H : (if t236 = true then (some (t231, t233, 0)) else (some (0, 0, 2))) = some (r1, r2, r3) := H
      have A14 := Aside0.mk A140
      clear A140
      by_cases c15 : t236 = true
      focus
       subst c15
       have H1 : (some (t231, t233, 0)) = some (r1, r2, r3) := by rw [if_pos rfl] at H; exact H
       clear H
       have H := H1
       clear H1
       simp only [Option.some.injEq, Prod.mk.injEq] at H
       obtain ⟨rfl, rfl, rfl⟩ := H
      rotate_right
      focus
       replace c15 := Bool.eq_false_iff.mpr c15
       subst c15
       have H1 : (some (0, 0, 2)) = some (r1, r2, r3) := by rw [if_neg (show ¬ (false = true) by decide)] at H; exact H
       clear H
       have H := H1
       clear H1
       simp only [Option.some.injEq, Prod.mk.injEq] at H
       obtain ⟨rfl, rfl, rfl⟩ := H
     rotate_right
     focus
      replace c13 := Bool.eq_false_iff.mpr c13
      subst c13
      have H1 : (some (0, 0, 2)) = some (r1, r2, r3) := by rw [if_neg (show ¬ (false = true) by decide)] at H; exact H
      clear H
      have H := H1
      clear H1
      simp only [Option.some.injEq, Prod.mk.injEq] at H
      obtain ⟨rfl, rfl, rfl⟩ := H
    rotate_right
    focus
     replace c12 := Bool.eq_false_iff.mpr c12
     subst c12
     have H1 : (some (0, 0, 2)) = some (r1, r2, r3) := by rw [if_neg (show ¬ (false = true) by decide)] at H; exact H
     clear H
     have H := H1
     clear H1
     simp only [Option.some.injEq, Prod.mk.injEq] at H
     obtain ⟨rfl, rfl, rfl⟩ := H
   rotate_right
   focus
    replace c11 := Bool.eq_false_iff.mpr c11
    subst c11
    have H1 : (some (0, 0, 2)) = some (r1, r2, r3) := by rw [if_neg (show ¬ (false = true) by decide)] at H; exact H
    clear H
    have H := H1
    clear H1
    simp only [Option.some.injEq, Prod.mk.injEq] at H
    obtain ⟨rfl, rfl, rfl⟩ := H
 all_goals (try (clear zqm5_; go_enter Tryd.func47, Tryd.ntmps47; go_wp2_with ((with_reducible refine gate_dst (N := 2) rfl ?_); refine box_event ?hg (N := 2) ?hd (cs := #[.int .i64 0, .int .i64 0]) (t := 28) ?hr ?_; (case hd => rfl); (case hg => rfl); (case hr => first | (go_simp; done) | (go_simp; rfl)); intro gbz1 hg wz1 hbox hb; have n0_ := Aside0.mk (below_step zq0_ hb); have n1_ := Aside0.mk (hbox); have n2_ := Aside0.mk ((zq9_ : w.heap.size ≤ gbz1)); have n3_ := Aside0.mk ((zq9_ : w.heap.size ≤ gbz1)); clear HB; have HB := n0_; have BKz1 := n1_; have GWz1 := n2_; have GEz1 := n3_; clear n0_ n1_ n2_ n3_; clear hb hbox hg; obtain ⟨hczz2_0, hfzz2_0, hczz2_1, hfzz2_1⟩ := zqC2_ BKz1.out)))
 ·go_enter Tryd.func47, Tryd.ntmps47
  go_wp2_with (first | ((with_reducible refine gate_dst (N := 2) rfl ?_); refine box_event ?hg (N := 2) ?hd (cs := #[.int .i64 0, .int .i64 0]) (t := 28) ?hr ?_; (case hd => rfl); (case hg => rfl); (case hr => first | (go_simp; done) | (go_simp; rfl)); intro gbz1 hg wz1 hbox hb; have n0_ := Aside0.mk (below_step zq0_ hb); have n1_ := Aside0.mk (hbox); have n2_ := Aside0.mk ((zq9_ : w.heap.size ≤ gbz1)); have n3_ := Aside0.mk ((zq9_ : w.heap.size ≤ gbz1)); clear HB; have HB := n0_; have BKz1 := n1_; have GWz1 := n2_; have GEz1 := n3_; clear n0_ n1_ n2_ n3_; clear hb hbox hg) | ((with_reducible refine gate_callee (f := 48) rfl ?_); refine zqG_ (some 21) rfl Tryd.func48 #[.string a0, .string (⟨#[46]⟩ : ByteArray)] rfl ?_; (with_reducible refine (strings_Cut.calls a0 (⟨#[46]⟩ : ByteArray) t228 t229 false _ (tabW_below_ HTAB.out (zqB1_ GEz1.out)) A8.out).mono ?_); rintro e wz2 ⟨rfl, hb⟩; refine ⟨_, rfl, ?_⟩; have n0_ := Aside0.mk (blk_below (zqK_ BKz1.out) hb); have n1_ := Aside0.mk (below_step (zqB1_ GEz1.out) hb); clear BKz1; clear HB; have BKz1 := n0_; have HB := n1_; clear n0_ n1_; (try clear hb); (try clear hb2); (try clear hk); (try clear hi)) | ((with_reducible refine gate_callee (f := 62) rfl ?_); refine zqG_ (some 27) rfl Tryd.func62 #[.string t228] rfl ?_; (with_reducible refine (ident_whole.calls k t228 t231 t232 _ A9.out).mono ?_); rintro e w' ⟨rfl, ⟨nd, rfl⟩⟩; refine ⟨_, rfl, ?_⟩; (try (rw [drewN_self wz2]; generalize hq_ : World.drewN wz2 _ = wz2; have n0_ : Aside0 (wz2.heap[gbz1]? = some (.cells #[.int .i64 0, .int .i64 0] 28 (0, 0))) := ⟨by rw [← hq_]; exact (zqK_ BKz1.out)⟩; have n1_ : Aside0 (Below w.heap.size w wz2) := ⟨by rw [← hq_]; exact (zqB1_ GEz1.out)⟩; clear BKz1 HB hq_; have BKz1 := n0_; have HB := n1_; clear n0_ n1_))) | ((with_reducible refine gate_callee (f := 62) rfl ?_); refine zqG_ (some 32) rfl Tryd.func62 #[.string t229] rfl ?_; (with_reducible refine (ident_whole.calls k t229 t233 t234 _ A10.out).mono ?_); rintro e w' ⟨rfl, ⟨nd, rfl⟩⟩; refine ⟨_, rfl, ?_⟩; (try (rw [drewN_self wz2]; generalize hq_ : World.drewN wz2 _ = wz2; have n0_ : Aside0 (wz2.heap[gbz1]? = some (.cells #[.int .i64 0, .int .i64 0] 28 (0, 0))) := ⟨by rw [← hq_]; exact (zqK_ BKz1.out)⟩; have n1_ : Aside0 (Below w.heap.size w wz2) := ⟨by rw [← hq_]; exact (zqB1_ GEz1.out)⟩; clear BKz1 HB hq_; have BKz1 := n0_; have HB := n1_; clear n0_ n1_))) | ((with_reducible refine gate_dst (N := 11) rfl ?_); refine box_event ?hg (N := 11) ?hd (cs := #[.int .i64 0, .int .i64 0]) (t := 28) ?hr ?_; (case hd => rfl); (case hg => rfl); (case hr => first | (go_simp; done) | (go_simp; rfl)); intro gbz2 hg wz3 hbox hb; have n0_ := Aside0.mk (blk_below (zqK_ BKz1.out) hb); have n1_ := Aside0.mk (below_step (zqB1_ GEz1.out) hb); have n2_ := Aside0.mk (hbox); have n3_ := Aside0.mk ((zq31_ : w.heap.size ≤ gbz2)); have n4_ := Aside0.mk ((zq31_ : w.heap.size ≤ gbz2)); have n5_ := Aside0.mk ((zq44_ : gbz1 ≠ gbz2)); have n6_ := Aside0.mk ((zq45_ : gbz2 ≠ gbz1)); clear BKz1; clear HB; have BKz1 := n0_; have HB := n1_; have BKz2 := n2_; have GWz2 := n3_; have GEz2 := n4_; have NBz1_z2 := n5_; have NBz2_z1 := n6_; clear n0_ n1_ n2_ n3_ n4_ n5_ n6_; clear hb hbox hg; have hnbz3 := NBz2_z1.out; have hncz3 := NBz1_z2.out; obtain ⟨hczz4_0, hfzz4_0, hczz4_1, hfzz4_1⟩ := zqC2_ BKz2.out; obtain ⟨hczz5_0, hfzz5_0, hczz5_1, hfzz5_1⟩ := zqC2_ BKz1.out))
  refine bodyPost_ret (results_ct rfl _ _ gbz1 28 #[.int .i64 0, .int .i64 0] (0, 0) _ rfl zq14_ Tryd.underlying28 rfl (by kernel_rfl)) rfl ?_
  exact ⟨by first | rfl | (simp [errW_none, errW_some] <;> rfl) | (simp [*, errW_none, errW_some] <;> rfl), by repeat (first | (with_reducible first | exact HB.out | apply below_alloc | apply pw_below_drewN | apply below_drew1 | refine below_set ?_ GEz1.out | refine below_set ?_ GEz2.out) | exact HB.out)⟩
 ·go_enter Tryd.func47, Tryd.ntmps47
  go_wp2_with (first | ((with_reducible refine gate_dst (N := 2) rfl ?_); refine box_event ?hg (N := 2) ?hd (cs := #[.int .i64 0, .int .i64 0]) (t := 28) ?hr ?_; (case hd => rfl); (case hg => rfl); (case hr => first | (go_simp; done) | (go_simp; rfl)); intro gbz1 hg wz1 hbox hb; have n0_ := Aside0.mk (below_step zq0_ hb); have n1_ := Aside0.mk (hbox); have n2_ := Aside0.mk ((zq9_ : w.heap.size ≤ gbz1)); have n3_ := Aside0.mk ((zq9_ : w.heap.size ≤ gbz1)); clear HB; have HB := n0_; have BKz1 := n1_; have GWz1 := n2_; have GEz1 := n3_; clear n0_ n1_ n2_ n3_; clear hb hbox hg) | ((with_reducible refine gate_callee (f := 48) rfl ?_); refine zqG_ (some 21) rfl Tryd.func48 #[.string a0, .string (⟨#[46]⟩ : ByteArray)] rfl ?_; (with_reducible refine (strings_Cut.calls a0 (⟨#[46]⟩ : ByteArray) t228 t229 true _ (tabW_below_ HTAB.out (zqB1_ GEz1.out)) A8.out).mono ?_); rintro e wz2 ⟨rfl, hb⟩; refine ⟨_, rfl, ?_⟩; have n0_ := Aside0.mk (blk_below (zqK_ BKz1.out) hb); have n1_ := Aside0.mk (below_step (zqB1_ GEz1.out) hb); clear BKz1; clear HB; have BKz1 := n0_; have HB := n1_; clear n0_ n1_; (try clear hb); (try clear hb2); (try clear hk); (try clear hi)) | ((with_reducible refine gate_callee (f := 62) rfl ?_); refine zqG_ (some 27) rfl Tryd.func62 #[.string t228] rfl ?_; (with_reducible refine (ident_whole.calls k t228 t231 false _ A9.out).mono ?_); rintro e w' ⟨rfl, ⟨nd, rfl⟩⟩; refine ⟨_, rfl, ?_⟩; (try (rw [drewN_self wz2]; generalize hq_ : World.drewN wz2 _ = wz2; have n0_ : Aside0 (wz2.heap[gbz1]? = some (.cells #[.int .i64 0, .int .i64 0] 28 (0, 0))) := ⟨by rw [← hq_]; exact (zqK_ BKz1.out)⟩; have n1_ : Aside0 (Below w.heap.size w wz2) := ⟨by rw [← hq_]; exact (zqB1_ GEz1.out)⟩; clear BKz1 HB hq_; have BKz1 := n0_; have HB := n1_; clear n0_ n1_))) | ((with_reducible refine gate_callee (f := 62) rfl ?_); refine zqG_ (some 32) rfl Tryd.func62 #[.string t229] rfl ?_; (with_reducible refine (ident_whole.calls k t229 t233 t234 _ A10.out).mono ?_); rintro e w' ⟨rfl, ⟨nd, rfl⟩⟩; refine ⟨_, rfl, ?_⟩; (try (rw [drewN_self wz2]; generalize hq_ : World.drewN wz2 _ = wz2; have n0_ : Aside0 (wz2.heap[gbz1]? = some (.cells #[.int .i64 0, .int .i64 0] 28 (0, 0))) := ⟨by rw [← hq_]; exact (zqK_ BKz1.out)⟩; have n1_ : Aside0 (Below w.heap.size w wz2) := ⟨by rw [← hq_]; exact (zqB1_ GEz1.out)⟩; clear BKz1 HB hq_; have BKz1 := n0_; have HB := n1_; clear n0_ n1_))) | ((with_reducible refine gate_dst (N := 11) rfl ?_); refine box_event ?hg (N := 11) ?hd (cs := #[.int .i64 0, .int .i64 0]) (t := 28) ?hr ?_; (case hd => rfl); (case hg => rfl); (case hr => first | (go_simp; done) | (go_simp; rfl)); intro gbz2 hg wz3 hbox hb; have n0_ := Aside0.mk (blk_below (zqK_ BKz1.out) hb); have n1_ := Aside0.mk (below_step (zqB1_ GEz1.out) hb); have n2_ := Aside0.mk (hbox); have n3_ := Aside0.mk ((zq31_ : w.heap.size ≤ gbz2)); have n4_ := Aside0.mk ((zq31_ : w.heap.size ≤ gbz2)); have n5_ := Aside0.mk ((zq44_ : gbz1 ≠ gbz2)); have n6_ := Aside0.mk ((zq45_ : gbz2 ≠ gbz1)); clear BKz1; clear HB; have BKz1 := n0_; have HB := n1_; have BKz2 := n2_; have GWz2 := n3_; have GEz2 := n4_; have NBz1_z2 := n5_; have NBz2_z1 := n6_; clear n0_ n1_ n2_ n3_ n4_ n5_ n6_; clear hb hbox hg; have hnbz3 := NBz2_z1.out; have hncz3 := NBz1_z2.out; obtain ⟨hczz4_0, hfzz4_0, hczz4_1, hfzz4_1⟩ := zqC2_ BKz2.out; obtain ⟨hczz5_0, hfzz5_0, hczz5_1, hfzz5_1⟩ := zqC2_ BKz1.out))
  refine bodyPost_ret (results_ct rfl _ _ gbz1 28 #[.int .i64 0, .int .i64 0] (0, 0) _ rfl zq14_ Tryd.underlying28 rfl (by kernel_rfl)) rfl ?_
  exact ⟨by first | rfl | (simp [errW_none, errW_some] <;> rfl) | (simp [*, errW_none, errW_some] <;> rfl), by repeat (first | (with_reducible first | exact HB.out | apply below_alloc | apply pw_below_drewN | apply below_drew1 | refine below_set ?_ GEz1.out | refine below_set ?_ GEz2.out) | exact HB.out)⟩
 ·go_enter Tryd.func47, Tryd.ntmps47
  go_wp2_with (first | ((with_reducible refine gate_dst (N := 2) rfl ?_); refine box_event ?hg (N := 2) ?hd (cs := #[.int .i64 0, .int .i64 0]) (t := 28) ?hr ?_; (case hd => rfl); (case hg => rfl); (case hr => first | (go_simp; done) | (go_simp; rfl)); intro gbz1 hg wz1 hbox hb; have n0_ := Aside0.mk (below_step zq0_ hb); have n1_ := Aside0.mk (hbox); have n2_ := Aside0.mk ((zq9_ : w.heap.size ≤ gbz1)); have n3_ := Aside0.mk ((zq9_ : w.heap.size ≤ gbz1)); clear HB; have HB := n0_; have BKz1 := n1_; have GWz1 := n2_; have GEz1 := n3_; clear n0_ n1_ n2_ n3_; clear hb hbox hg) | ((with_reducible refine gate_callee (f := 48) rfl ?_); refine zqG_ (some 21) rfl Tryd.func48 #[.string a0, .string (⟨#[46]⟩ : ByteArray)] rfl ?_; (with_reducible refine (strings_Cut.calls a0 (⟨#[46]⟩ : ByteArray) t228 t229 true _ (tabW_below_ HTAB.out (zqB1_ GEz1.out)) A8.out).mono ?_); rintro e wz2 ⟨rfl, hb⟩; refine ⟨_, rfl, ?_⟩; have n0_ := Aside0.mk (blk_below (zqK_ BKz1.out) hb); have n1_ := Aside0.mk (below_step (zqB1_ GEz1.out) hb); clear BKz1; clear HB; have BKz1 := n0_; have HB := n1_; clear n0_ n1_; (try clear hb); (try clear hb2); (try clear hk); (try clear hi)) | ((with_reducible refine gate_callee (f := 62) rfl ?_); refine zqG_ (some 27) rfl Tryd.func62 #[.string t228] rfl ?_; (with_reducible refine (ident_whole.calls k t228 t231 true _ A9.out).mono ?_); rintro e w' ⟨rfl, ⟨nd, rfl⟩⟩; refine ⟨_, rfl, ?_⟩; (try (rw [drewN_self wz2]; generalize hq_ : World.drewN wz2 _ = wz2; have n0_ : Aside0 (wz2.heap[gbz1]? = some (.cells #[.int .i64 0, .int .i64 0] 28 (0, 0))) := ⟨by rw [← hq_]; exact (zqK_ BKz1.out)⟩; have n1_ : Aside0 (Below w.heap.size w wz2) := ⟨by rw [← hq_]; exact (zqB1_ GEz1.out)⟩; clear BKz1 HB hq_; have BKz1 := n0_; have HB := n1_; clear n0_ n1_))) | ((with_reducible refine gate_callee (f := 62) rfl ?_); refine zqG_ (some 32) rfl Tryd.func62 #[.string t229] rfl ?_; (with_reducible refine (ident_whole.calls k t229 t233 false _ A10.out).mono ?_); rintro e w' ⟨rfl, ⟨nd, rfl⟩⟩; refine ⟨_, rfl, ?_⟩; (try (rw [drewN_self wz2]; generalize hq_ : World.drewN wz2 _ = wz2; have n0_ : Aside0 (wz2.heap[gbz1]? = some (.cells #[.int .i64 0, .int .i64 0] 28 (0, 0))) := ⟨by rw [← hq_]; exact (zqK_ BKz1.out)⟩; have n1_ : Aside0 (Below w.heap.size w wz2) := ⟨by rw [← hq_]; exact (zqB1_ GEz1.out)⟩; clear BKz1 HB hq_; have BKz1 := n0_; have HB := n1_; clear n0_ n1_))) | ((with_reducible refine gate_dst (N := 11) rfl ?_); refine box_event ?hg (N := 11) ?hd (cs := #[.int .i64 0, .int .i64 0]) (t := 28) ?hr ?_; (case hd => rfl); (case hg => rfl); (case hr => first | (go_simp; done) | (go_simp; rfl)); intro gbz2 hg wz3 hbox hb; have n0_ := Aside0.mk (blk_below (zqK_ BKz1.out) hb); have n1_ := Aside0.mk (below_step (zqB1_ GEz1.out) hb); have n2_ := Aside0.mk (hbox); have n3_ := Aside0.mk ((zq31_ : w.heap.size ≤ gbz2)); have n4_ := Aside0.mk ((zq31_ : w.heap.size ≤ gbz2)); have n5_ := Aside0.mk ((zq44_ : gbz1 ≠ gbz2)); have n6_ := Aside0.mk ((zq45_ : gbz2 ≠ gbz1)); clear BKz1; clear HB; have BKz1 := n0_; have HB := n1_; have BKz2 := n2_; have GWz2 := n3_; have GEz2 := n4_; have NBz1_z2 := n5_; have NBz2_z1 := n6_; clear n0_ n1_ n2_ n3_ n4_ n5_ n6_; clear hb hbox hg; have hnbz3 := NBz2_z1.out; have hncz3 := NBz1_z2.out; obtain ⟨hczz4_0, hfzz4_0, hczz4_1, hfzz4_1⟩ := zqC2_ BKz2.out; obtain ⟨hczz5_0, hfzz5_0, hczz5_1, hfzz5_1⟩ := zqC2_ BKz1.out))
  refine bodyPost_ret (results_ct rfl _ _ gbz1 28 #[.int .i64 0, .int .i64 0] (0, 0) _ rfl zq14_ Tryd.underlying28 rfl (by kernel_rfl)) rfl ?_
  exact ⟨by first | rfl | (simp [errW_none, errW_some] <;> rfl) | (simp [*, errW_none, errW_some] <;> rfl), by repeat (first | (with_reducible first | exact HB.out | apply below_alloc | apply pw_below_drewN | apply below_drew1 | refine below_set ?_ GEz1.out | refine below_set ?_ GEz2.out) | exact HB.out)⟩
 ·go_enter Tryd.func47, Tryd.ntmps47
  go_wp2_with (first | ((with_reducible refine gate_dst (N := 2) rfl ?_); refine box_event ?hg (N := 2) ?hd (cs := #[.int .i64 0, .int .i64 0]) (t := 28) ?hr ?_; (case hd => rfl); (case hg => rfl); (case hr => first | (go_simp; done) | (go_simp; rfl)); intro gbz1 hg wz1 hbox hb; have n0_ := Aside0.mk (below_step zq0_ hb); have n1_ := Aside0.mk (hbox); have n2_ := Aside0.mk ((zq9_ : w.heap.size ≤ gbz1)); have n3_ := Aside0.mk ((zq9_ : w.heap.size ≤ gbz1)); clear HB; have HB := n0_; have BKz1 := n1_; have GWz1 := n2_; have GEz1 := n3_; clear n0_ n1_ n2_ n3_; clear hb hbox hg) | ((with_reducible refine gate_callee (f := 48) rfl ?_); refine zqG_ (some 21) rfl Tryd.func48 #[.string a0, .string (⟨#[46]⟩ : ByteArray)] rfl ?_; (with_reducible refine (strings_Cut.calls a0 (⟨#[46]⟩ : ByteArray) t228 t229 true _ (tabW_below_ HTAB.out (zqB1_ GEz1.out)) A8.out).mono ?_); rintro e wz2 ⟨rfl, hb⟩; refine ⟨_, rfl, ?_⟩; have n0_ := Aside0.mk (blk_below (zqK_ BKz1.out) hb); have n1_ := Aside0.mk (below_step (zqB1_ GEz1.out) hb); clear BKz1; clear HB; have BKz1 := n0_; have HB := n1_; clear n0_ n1_; (try clear hb); (try clear hb2); (try clear hk); (try clear hi)) | ((with_reducible refine gate_callee (f := 62) rfl ?_); refine zqG_ (some 27) rfl Tryd.func62 #[.string t228] rfl ?_; (with_reducible refine (ident_whole.calls k t228 t231 true _ A9.out).mono ?_); rintro e w' ⟨rfl, ⟨nd, rfl⟩⟩; refine ⟨_, rfl, ?_⟩; (try (rw [drewN_self wz2]; generalize hq_ : World.drewN wz2 _ = wz2; have n0_ : Aside0 (wz2.heap[gbz1]? = some (.cells #[.int .i64 0, .int .i64 0] 28 (0, 0))) := ⟨by rw [← hq_]; exact (zqK_ BKz1.out)⟩; have n1_ : Aside0 (Below w.heap.size w wz2) := ⟨by rw [← hq_]; exact (zqB1_ GEz1.out)⟩; clear BKz1 HB hq_; have BKz1 := n0_; have HB := n1_; clear n0_ n1_))) | ((with_reducible refine gate_callee (f := 62) rfl ?_); refine zqG_ (some 32) rfl Tryd.func62 #[.string t229] rfl ?_; (with_reducible refine (ident_whole.calls k t229 t233 true _ A10.out).mono ?_); rintro e w' ⟨rfl, ⟨nd, rfl⟩⟩; refine ⟨_, rfl, ?_⟩; (try (rw [drewN_self wz2]; generalize hq_ : World.drewN wz2 _ = wz2; have n0_ : Aside0 (wz2.heap[gbz1]? = some (.cells #[.int .i64 0, .int .i64 0] 28 (0, 0))) := ⟨by rw [← hq_]; exact (zqK_ BKz1.out)⟩; have n1_ : Aside0 (Below w.heap.size w wz2) := ⟨by rw [← hq_]; exact (zqB1_ GEz1.out)⟩; clear BKz1 HB hq_; have BKz1 := n0_; have HB := n1_; clear n0_ n1_))) | ((with_reducible refine gate_dst (N := 11) rfl ?_); refine box_event ?hg (N := 11) ?hd (cs := #[.int .i64 0, .int .i64 0]) (t := 28) ?hr ?_; (case hd => rfl); (case hg => rfl); (case hr => first | (go_simp; done) | (go_simp; rfl)); intro gbz2 hg wz3 hbox hb; have n0_ := Aside0.mk (blk_below (zqK_ BKz1.out) hb); have n1_ := Aside0.mk (below_step (zqB1_ GEz1.out) hb); have n2_ := Aside0.mk (hbox); have n3_ := Aside0.mk ((zq31_ : w.heap.size ≤ gbz2)); have n4_ := Aside0.mk ((zq31_ : w.heap.size ≤ gbz2)); have n5_ := Aside0.mk ((zq44_ : gbz1 ≠ gbz2)); have n6_ := Aside0.mk ((zq45_ : gbz2 ≠ gbz1)); clear BKz1; clear HB; have BKz1 := n0_; have HB := n1_; have BKz2 := n2_; have GWz2 := n3_; have GEz2 := n4_; have NBz1_z2 := n5_; have NBz2_z1 := n6_; clear n0_ n1_ n2_ n3_ n4_ n5_ n6_; clear hb hbox hg; have hnbz3 := NBz2_z1.out; have hncz3 := NBz1_z2.out; obtain ⟨hczz4_0, hfzz4_0, hczz4_1, hfzz4_1⟩ := zqC2_ BKz2.out) | (go_at_call 33; (with_reducible refine (ident_Right.calls t231 t233 false _ A14.out).mono ?_); rintro e wz4 ⟨rfl, hb⟩; have n0_ := Aside0.mk (blk_below (g := gbz1) (o := .cells #[.int .i64 0, .int .i64 0] 28 (0, 0)) zq42_ hb); have n1_ := Aside0.mk (blk_below (g := gbz2) (o := .cells #[.int .i64 t231, .int .i64 t233] 28 (0, 0)) zq37_ hb); have n2_ := Aside0.mk (below_step (zqB2_ GEz1.out GEz2.out) hb); clear BKz1; clear BKz2; clear HB; have BKz1 := n0_; have BKz2 := n1_; have HB := n2_; clear n0_ n1_ n2_; (try clear hb); (try clear hb2); (try clear hk); (try clear hi); obtain ⟨hczz5_0, hfzz5_0, hczz5_1, hfzz5_1⟩ := zqC2_ BKz1.out))
  refine bodyPost_ret (results_ct rfl _ _ gbz1 28 #[.int .i64 0, .int .i64 0] (0, 0) _ rfl zq24_ Tryd.underlying28 rfl (by kernel_rfl)) rfl ?_
  exact ⟨by first | rfl | (simp [errW_none, errW_some] <;> rfl) | (simp [*, errW_none, errW_some] <;> rfl), by repeat (first | (with_reducible first | exact HB.out | apply below_alloc | apply pw_below_drewN | apply below_drew1 | refine below_set ?_ GEz1.out | refine below_set ?_ GEz2.out) | exact HB.out)⟩
 ·go_enter Tryd.func47, Tryd.ntmps47
  go_wp2_with (first | ((with_reducible refine gate_dst (N := 2) rfl ?_); refine box_event ?hg (N := 2) ?hd (cs := #[.int .i64 0, .int .i64 0]) (t := 28) ?hr ?_; (case hd => rfl); (case hg => rfl); (case hr => first | (go_simp; done) | (go_simp; rfl)); intro gbz1 hg wz1 hbox hb; have n0_ := Aside0.mk (below_step zq0_ hb); have n1_ := Aside0.mk (hbox); have n2_ := Aside0.mk ((zq9_ : w.heap.size ≤ gbz1)); have n3_ := Aside0.mk ((zq9_ : w.heap.size ≤ gbz1)); clear HB; have HB := n0_; have BKz1 := n1_; have GWz1 := n2_; have GEz1 := n3_; clear n0_ n1_ n2_ n3_; clear hb hbox hg) | ((with_reducible refine gate_callee (f := 48) rfl ?_); refine zqG_ (some 21) rfl Tryd.func48 #[.string a0, .string (⟨#[46]⟩ : ByteArray)] rfl ?_; (with_reducible refine (strings_Cut.calls a0 (⟨#[46]⟩ : ByteArray) t228 t229 true _ (tabW_below_ HTAB.out (zqB1_ GEz1.out)) A8.out).mono ?_); rintro e wz2 ⟨rfl, hb⟩; refine ⟨_, rfl, ?_⟩; have n0_ := Aside0.mk (blk_below (zqK_ BKz1.out) hb); have n1_ := Aside0.mk (below_step (zqB1_ GEz1.out) hb); clear BKz1; clear HB; have BKz1 := n0_; have HB := n1_; clear n0_ n1_; (try clear hb); (try clear hb2); (try clear hk); (try clear hi)) | ((with_reducible refine gate_callee (f := 62) rfl ?_); refine zqG_ (some 27) rfl Tryd.func62 #[.string t228] rfl ?_; (with_reducible refine (ident_whole.calls k t228 t231 true _ A9.out).mono ?_); rintro e w' ⟨rfl, ⟨nd, rfl⟩⟩; refine ⟨_, rfl, ?_⟩; (try (rw [drewN_self wz2]; generalize hq_ : World.drewN wz2 _ = wz2; have n0_ : Aside0 (wz2.heap[gbz1]? = some (.cells #[.int .i64 0, .int .i64 0] 28 (0, 0))) := ⟨by rw [← hq_]; exact (zqK_ BKz1.out)⟩; have n1_ : Aside0 (Below w.heap.size w wz2) := ⟨by rw [← hq_]; exact (zqB1_ GEz1.out)⟩; clear BKz1 HB hq_; have BKz1 := n0_; have HB := n1_; clear n0_ n1_))) | ((with_reducible refine gate_callee (f := 62) rfl ?_); refine zqG_ (some 32) rfl Tryd.func62 #[.string t229] rfl ?_; (with_reducible refine (ident_whole.calls k t229 t233 true _ A10.out).mono ?_); rintro e w' ⟨rfl, ⟨nd, rfl⟩⟩; refine ⟨_, rfl, ?_⟩; (try (rw [drewN_self wz2]; generalize hq_ : World.drewN wz2 _ = wz2; have n0_ : Aside0 (wz2.heap[gbz1]? = some (.cells #[.int .i64 0, .int .i64 0] 28 (0, 0))) := ⟨by rw [← hq_]; exact (zqK_ BKz1.out)⟩; have n1_ : Aside0 (Below w.heap.size w wz2) := ⟨by rw [← hq_]; exact (zqB1_ GEz1.out)⟩; clear BKz1 HB hq_; have BKz1 := n0_; have HB := n1_; clear n0_ n1_))) | ((with_reducible refine gate_dst (N := 11) rfl ?_); refine box_event ?hg (N := 11) ?hd (cs := #[.int .i64 0, .int .i64 0]) (t := 28) ?hr ?_; (case hd => rfl); (case hg => rfl); (case hr => first | (go_simp; done) | (go_simp; rfl)); intro gbz2 hg wz3 hbox hb; have n0_ := Aside0.mk (blk_below (zqK_ BKz1.out) hb); have n1_ := Aside0.mk (below_step (zqB1_ GEz1.out) hb); have n2_ := Aside0.mk (hbox); have n3_ := Aside0.mk ((zq31_ : w.heap.size ≤ gbz2)); have n4_ := Aside0.mk ((zq31_ : w.heap.size ≤ gbz2)); have n5_ := Aside0.mk ((zq44_ : gbz1 ≠ gbz2)); have n6_ := Aside0.mk ((zq45_ : gbz2 ≠ gbz1)); clear BKz1; clear HB; have BKz1 := n0_; have HB := n1_; have BKz2 := n2_; have GWz2 := n3_; have GEz2 := n4_; have NBz1_z2 := n5_; have NBz2_z1 := n6_; clear n0_ n1_ n2_ n3_ n4_ n5_ n6_; clear hb hbox hg; have hnbz3 := NBz2_z1.out; have hncz3 := NBz1_z2.out; obtain ⟨hczz4_0, hfzz4_0, hczz4_1, hfzz4_1⟩ := zqC2_ BKz2.out) | (go_at_call 33; (with_reducible refine (ident_Right.calls t231 t233 true _ A14.out).mono ?_); rintro e wz4 ⟨rfl, hb⟩; have n0_ := Aside0.mk (blk_below (g := gbz1) (o := .cells #[.int .i64 0, .int .i64 0] 28 (0, 0)) zq42_ hb); have n1_ := Aside0.mk (blk_below (g := gbz2) (o := .cells #[.int .i64 t231, .int .i64 t233] 28 (0, 0)) zq37_ hb); have n2_ := Aside0.mk (below_step (zqB2_ GEz1.out GEz2.out) hb); clear BKz1; clear BKz2; clear HB; have BKz1 := n0_; have BKz2 := n1_; have HB := n2_; clear n0_ n1_ n2_; (try clear hb); (try clear hb2); (try clear hk); (try clear hi); obtain ⟨hczz5_0, hfzz5_0, hczz5_1, hfzz5_1⟩ := zqC2_ BKz2.out; obtain ⟨hczz6_0, hfzz6_0, hczz6_1, hfzz6_1⟩ := zqC2_ BKz1.out))
  refine bodyPost_ret (results_ct rfl _ _ gbz1 28 #[.int .i64 t231, .int .i64 t233] (0, 0) _ rfl (by (with_reducible repeat (first | refine blk_drewN ?_ _ | refine blk_drew ?_ | refine blk_alloc ?_ _)); refine blk_put (cs := #[.int .i64 t231, .int .i64 0]) ?_ 1 _ rfl; (with_reducible repeat (first | refine blk_drewN ?_ _ | refine blk_drew ?_ | refine blk_alloc ?_ _)); refine blk_put (cs := #[.int .i64 0, .int .i64 0]) ?_ 0 _ rfl; (with_reducible repeat (first | refine blk_drewN ?_ _ | refine blk_drew ?_ | refine blk_alloc ?_ _)); exact BKz1.out) Tryd.underlying28 rfl (by kernel_rfl)) rfl ?_
  exact ⟨by first | rfl | (simp [errW_none, errW_some] <;> rfl) | (simp [*, errW_none, errW_some] <;> rfl), by repeat (first | (with_reducible first | exact HB.out | apply below_alloc | apply pw_below_drewN | apply below_drew1 | refine below_set ?_ GEz1.out | refine below_set ?_ GEz2.out) | exact HB.out)⟩
 ·refine bodyPost_ret (results_ct rfl _ _ gbz1 28 #[.int .i64 0, .int .i64 1] (0, 0) _ rfl zq24_ Tryd.underlying28 rfl (by kernel_rfl)) rfl ?_
  exact ⟨by first | rfl | (simp [errW_none, errW_some] <;> rfl) | (simp [*, errW_none, errW_some] <;> rfl), by repeat (first | (with_reducible first | exact HB.out | apply below_alloc | apply pw_below_drewN | apply below_drew1 | refine below_set ?_ GEz1.out) | exact HB.out)⟩
 ·refine bodyPost_ret (results_ct rfl _ _ gbz1 28 #[.int .i64 0, .int .i64 0] (0, 0) _ rfl zq24_ Tryd.underlying28 rfl (by kernel_rfl)) rfl ?_
  exact ⟨by first | rfl | (simp [errW_none, errW_some] <;> rfl) | (simp [*, errW_none, errW_some] <;> rfl), by repeat (first | (with_reducible first | exact HB.out | apply below_alloc | apply pw_below_drewN | apply below_drew1 | refine below_set ?_ GEz1.out) | exact HB.out)⟩

/-! ### change_reader_stamp: function 28 -/
def change_reader_stamp.f (k : Nat) (s0_0 : ByteArray) (s0_1 : Bool) (a1 : Bool) : Option (Int × Int × ByteArray × Bool) := (change_reader_next.f s0_0 s0_1).bind fun bt238 => (if a1 = true then (if bt238.1.toList = ([45] : List UInt8) then (some (0, 0, bt238.2.1, bt238.2.2)) else ((ident_Parse.f k bt238.1).bind fun bt241 => (if bt238.2.2 = true then (some (bt241.1, bt241.2.1, bt238.2.1, true)) else (some (bt241.1, bt241.2.1, bt238.2.1, (bt241.2.2 != 0)))))) else ((ident_Parse.f k bt238.1).bind fun bt245 => (if bt238.2.2 = true then (some (bt245.1, bt245.2.1, bt238.2.1, true)) else (some (bt245.1, bt245.2.1, bt238.2.1, (bt245.2.2 != 0))))))
theorem change_reader_stamp.mono : ∀ a0 a1 a2 k, LeO (change_reader_stamp.f k a0 a1 a2) (change_reader_stamp.f (k + 1) a0 a1 a2) := by
 intro a0 a1 a2 k
 unfold change_reader_stamp.f
 repeat' first
   | (with_reducible exact ident_Parse.mono _ _)
   | (with_reducible exact LeO.refl _)
   | (with_reducible exact LeO.none _)
   | (with_reducible refine LeO.ite ?_ ?_)
   | (with_reducible refine LeO.bind ?_ (fun _ => ?_))
   | exact ident_Parse.mono _ _
   | exact LeO.none _
   | refine LeO.ite ?_ ?_
   | refine LeO.bind ?_ (fun _ => ?_)
set_option maxHeartbeats 8000000 in
set_option maxRecDepth 100000 in
theorem change_reader_stamp.calls (k : Nat) (g : Nat) (s0_0 : ByteArray) (s0_1 : Bool) (a1 : Bool) (r1 : Int) (r2 : Int) (r3 : ByteArray) (r4 : Bool) (w0 w : World) (hI : IsS56 w0 w g s0_0 s0_1) (hB : Below w0.heap.size w0 w) (htab : TabW_ w0) (h : change_reader_stamp.f k s0_0 s0_1 a1 = some (r1, r2, r3, r4)) :
  Calls Tryd.prog 28 #[.pointer (some ⟨g, 0, none⟩), .bool a1] w fun e w' => e = .returned (.agg #[.int .i64 r1, .int .i64 r2]) ∧ IsS56 w0 w' g r3 r4 ∧ Below w0.heap.size w0 w' ∧ KeepBut w w' g none := by
 have HTAB := Aside0.mk htab
 clear htab
 have hu28 := Tryd.underlying28
 have HI0 := Aside0.mk hI
 have HK := Aside0.mk (KeepBut.refl w g none)
 have HL := Aside0.mk hB.size
 clear hI
 have HW0 := Aside0.mk hB.size
 have HB := Aside0.mk hB
 clear hB
 have H : ((change_reader_next.f s0_0 s0_1).bind fun bt238 => (if a1 = true then (if bt238.1.toList = ([45] : List UInt8) then (some (0, 0, bt238.2.1, bt238.2.2)) else ((ident_Parse.f k bt238.1).bind fun bt241 => (if bt238.2.2 = true then (some (bt241.1, bt241.2.1, bt238.2.1, true)) else (some (bt241.1, bt241.2.1, bt238.2.1, (bt241.2.2 != 0)))))) else ((ident_Parse.f k bt238.1).bind fun bt245 => (if bt238.2.2 = true then (some (bt245.1, bt245.2.1, bt238.2.1, true)) else (some (bt245.1, bt245.2.1, bt238.2.1, (bt245.2.2 != 0))))))) = some (r1, r2, r3, r4) := h
 clear h
 replace H := Option.bind_eq_some_iff.mp H
 obtain ⟨⟨t238, t239, t240⟩, A30, H⟩ := H
 replace H : (if a1 = true then (if t238.toList = ([45] : List UInt8) then (some (0, 0, t239, t240)) else ((ident_Parse.f k t238).bind fun bt241 => (if t240 = true then (some (bt241.1, bt241.2.1, t239, true)) else (some (bt241.1, bt241.2.1, t239, (bt241.2.2 != 0)))))) else ((ident_Parse.f k t238).bind fun bt245 => (if t240 = true then (some (bt245.1, bt245.2.1, t239, true)) else (some (bt245.1, bt245.2.1, t239, (bt245.2.2 != 0)))))) = some (r1, r2, r3, r4) := H
 have A3 := Aside0.mk A30
 clear A30
 by_cases c4 : a1 = true
 ·subst c4
  have H1 : (if t238.toList = ([45] : List UInt8) then (some (0, 0, t239, t240)) else ((ident_Parse.f k t238).bind fun bt241 => (if t240 = true then (some (bt241.1, bt241.2.1, t239, true)) else (some (bt241.1, bt241.2.1, t239, (bt241.2.2 != 0)))))) = some (r1, r2, r3, r4) := by rw [if_pos rfl] at H; exact H
  clear H
  have H := H1
  clear H1
  by_cases c5 : t238.toList = ([45] : List UInt8)
  ·rw [if_pos c5] at H
   have c5b0 : (t238.toList == ([45] : List UInt8)) = true := beq_iff_eq.mpr c5
   have c5b1 : (t238.toList != ([45] : List UInt8)) = false := bne_eq_false_iff_eq.mpr c5
   clear c5
   simp only [Option.some.injEq, Prod.mk.injEq] at H
   obtain ⟨rfl, rfl, rfl, rfl⟩ := H
   go_enter Tryd.func28, Tryd.ntmps28
   go_wp2_with (first | ((with_reducible refine gate_dst (N := 4) rfl ?_); refine box_event ?hg (N := 4) ?hd (cs := #[.int .i64 0, .int .i64 0]) (t := 28) ?hr ?_; (case hd => rfl); (case hg => rfl); (case hr => first | (go_simp; done) | (go_simp; rfl)); intro gb237 hg w6 hbox hb; have n0_ := Aside0.mk (IsS56.below zq22_ hb); have n1_ := Aside0.mk (KeepBut.trans zq7_ (KeepBut.of_below hb g none) (.inl rfl)); have n2_ := Aside0.mk (below_step (zqB1_ (IsS56.ge HI0.out)) hb); have n3_ := Aside0.mk (hbox); have n4_ := Aside0.mk ((zq30_ : w.heap.size ≤ gb237)); have n5_ := Aside0.mk ((Nat.le_trans HW0.out (zq30_ : w.heap.size ≤ gb237) : w0.heap.size ≤ gb237)); have n6_ := Aside0.mk ((zq15_ : g ≠ gb237)); have n7_ := Aside0.mk ((zq16_ : gb237 ≠ g)); clear HI0; clear HK; clear HB; have HI0 := n0_; have HK := n1_; have HB := n2_; have BK237 := n3_; have GW237 := n4_; have GE237 := n5_; have NB0_237 := n6_; have NB237_0 := n7_; clear n0_ n1_ n2_ n3_ n4_ n5_ n6_ n7_; clear hb hbox hg) | ((with_reducible refine gate_callee (f := 29) rfl ?_); refine zqG_ (some 9) rfl Tryd.func29 #[.pointer (some ⟨g, 0, none⟩)] rfl ?_; (with_reducible refine (change_reader_next.calls g s0_0 s0_1 t238 t239 t240 w0 _ ?side1 ?side2 HTAB.out A3.out).mono ?_); (case side1 => repeat (first | (with_reducible first | exact HI0.out | apply IsS56.alloc | apply IsS56.drewN | apply IsS56.drew | apply IsS56.set_0 | apply IsS56.set_1 | apply IsS56.far (hne := NB0_237.out)) | exact HI0.out)); (case side2 => repeat (first | (with_reducible first | exact HB.out | apply below_alloc | apply pw_below_drewN | apply below_drew1 | refine below_set ?_ (IsS56.ge HI0.out) | refine below_set ?_ GE237.out) | exact HB.out)); rintro e w7 ⟨rfl, hi, hb, hk⟩; refine ⟨_, rfl, ?_⟩; have n0_ := Aside0.mk (KeepBut.blk hk (g' := gb237) (o := .cells #[.int .i64 0, .int .i64 0] 28 (0, 0)) (zqK_ BK237.out) NB237_0.out (by simp)); have n1_ := Aside0.mk (KeepBut.trans zq6_ hk (.inl rfl)); have n2_ := Aside0.mk (hb); have n3_ := Aside0.mk (hi); clear BK237; clear HK; clear HB; clear HI0; have BK237 := n0_; have HK := n1_; have HB := n2_; have HI0 := n3_; clear n0_ n1_ n2_ n3_; (try clear hb); (try clear hb2); (try clear hk); (try clear hi); have hnb8 := NB237_0.out; have hnc8 := NB0_237.out; obtain ⟨hcz9_0, hfz9_0, hcz9_1, hfz9_1⟩ := zqC2_ BK237.out))
   refine bodyPost_ret (results_cell_row rfl _ _ gb237 28 #[.int .i64 0, .int .i64 0] (0, 0) _ rfl (by (with_reducible repeat (first | refine blk_drewN ?_ _ | refine blk_drew ?_ | refine blk_alloc ?_ _)); refine blk_put (cs := #[.int .i64 0, .int .i64 0]) ?_ 1 _ rfl; (with_reducible repeat (first | refine blk_drewN ?_ _ | refine blk_drew ?_ | refine blk_alloc ?_ _)); refine blk_put (cs := #[.int .i64 0, .int .i64 0]) ?_ 0 _ rfl; (with_reducible repeat (first | refine blk_drewN ?_ _ | refine blk_drew ?_ | refine blk_alloc ?_ _)); exact BK237.out) Tryd.underlying28 rfl (by kernel_rfl)) rfl ?_
   exact ⟨by first | rfl | (simp [errW_none, errW_some] <;> rfl) | (simp [*, errW_none, errW_some] <;> rfl), by repeat (first | (with_reducible first | exact HI0.out | apply IsS56.alloc | apply IsS56.drewN | apply IsS56.drew | apply IsS56.set_0 | apply IsS56.set_1 | apply IsS56.far (hne := NB0_237.out)) | exact HI0.out), by repeat (first | (with_reducible first | exact HB.out | apply below_alloc | apply pw_below_drewN | apply below_drew1 | refine below_set ?_ (IsS56.ge HI0.out) | refine below_set ?_ GE237.out) | exact HB.out), by repeat (first | (with_reducible first | exact HK.out | apply KeepBut.set_ | apply keep_drewN | apply keep_drew | apply keep_alloc | refine keep_far ?_ GW237.out _) | exact HK.out)⟩
  ·rw [if_neg c5] at H
   have c5b0 : (t238.toList == ([45] : List UInt8)) = false := beq_eq_false_iff_ne.mpr c5
   have c5b1 : (t238.toList != ([45] : List UInt8)) = true := bne_iff_ne.mpr c5
   replace H := Option.bind_eq_some_iff.mp H
   obtain ⟨⟨t241, t242, t243⟩, A100, H⟩ := H
   replace H : (if t240 = true then (some (t241, t242, t239, true)) else (some (t241, t242, t239, (t243 != 0)))) = some (r1, r2, r3, r4) := H
   have A10 := Aside0.mk A100
   clear A100
   by_cases c11 : t240 = true
   ·subst c11
    have H1 : (some (t241, t242, t239, true)) = some (r1, r2, r3, r4) := by rw [if_pos rfl] at H; exact H
    clear H
    have H := H1
    clear H1
    simp only [Option.some.injEq, Prod.mk.injEq] at H
    obtain ⟨rfl, rfl, rfl, rfl⟩ := H
    go_enter Tryd.func28, Tryd.ntmps28
    go_wp2_with (first | ((with_reducible refine gate_dst (N := 4) rfl ?_); refine box_event ?hg (N := 4) ?hd (cs := #[.int .i64 0, .int .i64 0]) (t := 28) ?hr ?_; (case hd => rfl); (case hg => rfl); (case hr => first | (go_simp; done) | (go_simp; rfl)); intro gb237 hg w12 hbox hb; have n0_ := Aside0.mk (IsS56.below zq22_ hb); have n1_ := Aside0.mk (KeepBut.trans zq7_ (KeepBut.of_below hb g none) (.inl rfl)); have n2_ := Aside0.mk (below_step (zqB1_ (IsS56.ge HI0.out)) hb); have n3_ := Aside0.mk (hbox); have n4_ := Aside0.mk ((zq30_ : w.heap.size ≤ gb237)); have n5_ := Aside0.mk ((Nat.le_trans HW0.out (zq30_ : w.heap.size ≤ gb237) : w0.heap.size ≤ gb237)); have n6_ := Aside0.mk ((zq15_ : g ≠ gb237)); have n7_ := Aside0.mk ((zq16_ : gb237 ≠ g)); clear HI0; clear HK; clear HB; have HI0 := n0_; have HK := n1_; have HB := n2_; have BK237 := n3_; have GW237 := n4_; have GE237 := n5_; have NB0_237 := n6_; have NB237_0 := n7_; clear n0_ n1_ n2_ n3_ n4_ n5_ n6_ n7_; clear hb hbox hg) | ((with_reducible refine gate_callee (f := 29) rfl ?_); refine zqG_ (some 9) rfl Tryd.func29 #[.pointer (some ⟨g, 0, none⟩)] rfl ?_; (with_reducible refine (change_reader_next.calls g s0_0 s0_1 t238 t239 true w0 _ ?side1 ?side2 HTAB.out A3.out).mono ?_); (case side1 => repeat (first | (with_reducible first | exact HI0.out | apply IsS56.alloc | apply IsS56.drewN | apply IsS56.drew | apply IsS56.set_0 | apply IsS56.set_1 | apply IsS56.far (hne := NB0_237.out)) | exact HI0.out)); (case side2 => repeat (first | (with_reducible first | exact HB.out | apply below_alloc | apply pw_below_drewN | apply below_drew1 | refine below_set ?_ (IsS56.ge HI0.out) | refine below_set ?_ GE237.out) | exact HB.out)); rintro e w13 ⟨rfl, hi, hb, hk⟩; refine ⟨_, rfl, ?_⟩; have n0_ := Aside0.mk (KeepBut.blk hk (g' := gb237) (o := .cells #[.int .i64 0, .int .i64 0] 28 (0, 0)) (zqK_ BK237.out) NB237_0.out (by simp)); have n1_ := Aside0.mk (KeepBut.trans zq6_ hk (.inl rfl)); have n2_ := Aside0.mk (hb); have n3_ := Aside0.mk (hi); clear BK237; clear HK; clear HB; clear HI0; have BK237 := n0_; have HK := n1_; have HB := n2_; have HI0 := n3_; clear n0_ n1_ n2_ n3_; (try clear hb); (try clear hb2); (try clear hk); (try clear hi)) | ((with_reducible refine gate_callee (f := 47) rfl ?_); refine zqG_ (some 18) rfl Tryd.func47 #[.string t238] rfl ?_; (with_reducible refine (ident_Parse.calls k t238 t241 t242 t243 _ (tabW_below_ HTAB.out (zqB2_ (IsS56.ge HI0.out) GE237.out)) A10.out).mono ?_); rintro e w14 ⟨rfl, hb⟩; refine ⟨_, rfl, ?_⟩; have n0_ := Aside0.mk (IsS56.below zq13_ hb); have n1_ := Aside0.mk (blk_below (zqK_ BK237.out) hb); have n2_ := Aside0.mk (KeepBut.trans zq6_ (KeepBut.of_below hb g none) (.inl rfl)); have n3_ := Aside0.mk (below_step (zqB2_ (IsS56.ge HI0.out) GE237.out) hb); clear HI0; clear BK237; clear HK; clear HB; have HI0 := n0_; have BK237 := n1_; have HK := n2_; have HB := n3_; clear n0_ n1_ n2_ n3_; (try clear hb); (try clear hb2); (try clear hk); (try clear hi)) | ((with_reducible refine gate_dst (N := 6) rfl ?_); refine box_event ?hg (N := 6) ?hd (cs := #[.int .i64 0, .int .i64 0]) (t := 28) ?hr ?_; (case hd => rfl); (case hg => rfl); (case hr => first | (go_simp; done) | (go_simp; rfl)); intro gb244 hg w15 hbox hb; have n0_ := Aside0.mk (IsS56.below zq13_ hb); have n1_ := Aside0.mk (blk_below (zqK_ BK237.out) hb); have n2_ := Aside0.mk (KeepBut.trans zq6_ (KeepBut.of_below hb g none) (.inl rfl)); have n3_ := Aside0.mk (below_step (zqB2_ (IsS56.ge HI0.out) GE237.out) hb); have n4_ := Aside0.mk (hbox); have n5_ := Aside0.mk ((zq38_ : w.heap.size ≤ gb244)); have n6_ := Aside0.mk ((Nat.le_trans HW0.out (zq38_ : w.heap.size ≤ gb244) : w0.heap.size ≤ gb244)); have n7_ := Aside0.mk (((by rw [hg]; exact Nat.ne_of_lt (blk_lt (zqK_ BK237.out))) : gb237 ≠ gb244)); have n8_ := Aside0.mk (((by rw [hg]; exact Nat.ne_of_gt (blk_lt (zqK_ BK237.out))) : gb244 ≠ gb237)); have n9_ := Aside0.mk (((by rw [hg]; exact Nat.ne_of_lt (IsS56.lt (show IsS56 w0 _ g t239 true from by repeat (first | (with_reducible first | exact HI0.out | apply IsS56.alloc | apply IsS56.drewN | apply IsS56.drew | apply IsS56.set_0 | apply IsS56.set_1 | apply IsS56.far (hne := NB0_237.out)) | exact HI0.out)))) : g ≠ gb244)); have n10_ := Aside0.mk (((by rw [hg]; exact Nat.ne_of_gt (IsS56.lt (show IsS56 w0 _ g t239 true from by repeat (first | (with_reducible first | exact HI0.out | apply IsS56.alloc | apply IsS56.drewN | apply IsS56.drew | apply IsS56.set_0 | apply IsS56.set_1 | apply IsS56.far (hne := NB0_237.out)) | exact HI0.out)))) : gb244 ≠ g)); clear HI0; clear BK237; clear HK; clear HB; have HI0 := n0_; have BK237 := n1_; have HK := n2_; have HB := n3_; have BK244 := n4_; have GW244 := n5_; have GE244 := n6_; have NB237_244 := n7_; have NB244_237 := n8_; have NB0_244 := n9_; have NB244_0 := n10_; clear n0_ n1_ n2_ n3_ n4_ n5_ n6_ n7_ n8_ n9_ n10_; clear hb hbox hg; have hnb16 := NB244_237.out; have hnc16 := NB237_244.out; have hnb17 := NB244_0.out; have hnc17 := NB0_244.out; obtain ⟨hcz18_0, hfz18_0, hcz18_1, hfz18_1⟩ := zqC2_ BK244.out; obtain ⟨HGz19, hgz19⟩ := HI0.out; have hcz19_0 := cellS56_0 HGz19; have hcz19_1 := cellS56_1 HGz19; have hfz19_0 := blk_frozen HGz19 0; have hfz19_1 := blk_frozen HGz19 1; clear HGz19 hgz19; have hnb20 := NB237_0.out; have hnc20 := NB0_237.out; obtain ⟨hcz21_0, hfz21_0, hcz21_1, hfz21_1⟩ := zqC2_ BK237.out))
    refine bodyPost_ret (results_cell_row rfl _ _ gb237 28 #[.int .i64 t241, .int .i64 t242] (0, 0) _ rfl zq26_ Tryd.underlying28 rfl (by kernel_rfl)) rfl ?_
    exact ⟨by first | rfl | (simp [errW_none, errW_some] <;> rfl) | (simp [*, errW_none, errW_some] <;> rfl), by repeat (first | (with_reducible first | exact HI0.out | apply IsS56.alloc | apply IsS56.drewN | apply IsS56.drew | apply IsS56.set_0 | apply IsS56.set_1 | apply IsS56.far (hne := NB0_237.out) | apply IsS56.far (hne := NB0_244.out)) | exact HI0.out), by repeat (first | (with_reducible first | exact HB.out | apply below_alloc | apply pw_below_drewN | apply below_drew1 | refine below_set ?_ (IsS56.ge HI0.out) | refine below_set ?_ GE237.out | refine below_set ?_ GE244.out) | exact HB.out), by repeat (first | (with_reducible first | exact HK.out | apply KeepBut.set_ | apply keep_drewN | apply keep_drew | apply keep_alloc | refine keep_far ?_ GW237.out _ | refine keep_far ?_ GW244.out _) | exact HK.out)⟩
   ·replace c11 := Bool.eq_false_iff.mpr c11
    subst c11
    have H1 : (some (t241, t242, t239, (t243 != 0))) = some (r1, r2, r3, r4) := by rw [if_neg (show ¬ (false = true) by decide)] at H; exact H
    clear H
    have H := H1
    clear H1
    simp only [Option.some.injEq, Prod.mk.injEq] at H
    obtain ⟨rfl, rfl, rfl, rfl⟩ := H
    go_enter Tryd.func28, Tryd.ntmps28
    go_wp2_with (first | ((with_reducible refine gate_dst (N := 4) rfl ?_); refine box_event ?hg (N := 4) ?hd (cs := #[.int .i64 0, .int .i64 0]) (t := 28) ?hr ?_; (case hd => rfl); (case hg => rfl); (case hr => first | (go_simp; done) | (go_simp; rfl)); intro gb237 hg w22 hbox hb; have n0_ := Aside0.mk (IsS56.below zq22_ hb); have n1_ := Aside0.mk (KeepBut.trans zq7_ (KeepBut.of_below hb g none) (.inl rfl)); have n2_ := Aside0.mk (below_step (zqB1_ (IsS56.ge HI0.out)) hb); have n3_ := Aside0.mk (hbox); have n4_ := Aside0.mk ((zq30_ : w.heap.size ≤ gb237)); have n5_ := Aside0.mk ((Nat.le_trans HW0.out (zq30_ : w.heap.size ≤ gb237) : w0.heap.size ≤ gb237)); have n6_ := Aside0.mk ((zq15_ : g ≠ gb237)); have n7_ := Aside0.mk ((zq16_ : gb237 ≠ g)); clear HI0; clear HK; clear HB; have HI0 := n0_; have HK := n1_; have HB := n2_; have BK237 := n3_; have GW237 := n4_; have GE237 := n5_; have NB0_237 := n6_; have NB237_0 := n7_; clear n0_ n1_ n2_ n3_ n4_ n5_ n6_ n7_; clear hb hbox hg) | ((with_reducible refine gate_callee (f := 29) rfl ?_); refine zqG_ (some 9) rfl Tryd.func29 #[.pointer (some ⟨g, 0, none⟩)] rfl ?_; (with_reducible refine (change_reader_next.calls g s0_0 s0_1 t238 t239 false w0 _ ?side1 ?side2 HTAB.out A3.out).mono ?_); (case side1 => repeat (first | (with_reducible first | exact HI0.out | apply IsS56.alloc | apply IsS56.drewN | apply IsS56.drew | apply IsS56.set_0 | apply IsS56.set_1 | apply IsS56.far (hne := NB0_237.out)) | exact HI0.out)); (case side2 => repeat (first | (with_reducible first | exact HB.out | apply below_alloc | apply pw_below_drewN | apply below_drew1 | refine below_set ?_ (IsS56.ge HI0.out) | refine below_set ?_ GE237.out) | exact HB.out)); rintro e w23 ⟨rfl, hi, hb, hk⟩; refine ⟨_, rfl, ?_⟩; have n0_ := Aside0.mk (KeepBut.blk hk (g' := gb237) (o := .cells #[.int .i64 0, .int .i64 0] 28 (0, 0)) (zqK_ BK237.out) NB237_0.out (by simp)); have n1_ := Aside0.mk (KeepBut.trans zq6_ hk (.inl rfl)); have n2_ := Aside0.mk (hb); have n3_ := Aside0.mk (hi); clear BK237; clear HK; clear HB; clear HI0; have BK237 := n0_; have HK := n1_; have HB := n2_; have HI0 := n3_; clear n0_ n1_ n2_ n3_; (try clear hb); (try clear hb2); (try clear hk); (try clear hi)) | ((with_reducible refine gate_callee (f := 47) rfl ?_); refine zqG_ (some 18) rfl Tryd.func47 #[.string t238] rfl ?_; (with_reducible refine (ident_Parse.calls k t238 t241 t242 t243 _ (tabW_below_ HTAB.out (zqB2_ (IsS56.ge HI0.out) GE237.out)) A10.out).mono ?_); rintro e w24 ⟨rfl, hb⟩; refine ⟨_, rfl, ?_⟩; have n0_ := Aside0.mk (IsS56.below zq13_ hb); have n1_ := Aside0.mk (blk_below (zqK_ BK237.out) hb); have n2_ := Aside0.mk (KeepBut.trans zq6_ (KeepBut.of_below hb g none) (.inl rfl)); have n3_ := Aside0.mk (below_step (zqB2_ (IsS56.ge HI0.out) GE237.out) hb); clear HI0; clear BK237; clear HK; clear HB; have HI0 := n0_; have BK237 := n1_; have HK := n2_; have HB := n3_; clear n0_ n1_ n2_ n3_; (try clear hb); (try clear hb2); (try clear hk); (try clear hi)) | ((with_reducible refine gate_dst (N := 6) rfl ?_); refine box_event ?hg (N := 6) ?hd (cs := #[.int .i64 0, .int .i64 0]) (t := 28) ?hr ?_; (case hd => rfl); (case hg => rfl); (case hr => first | (go_simp; done) | (go_simp; rfl)); intro gb244 hg w25 hbox hb; have n0_ := Aside0.mk (IsS56.below zq13_ hb); have n1_ := Aside0.mk (blk_below (zqK_ BK237.out) hb); have n2_ := Aside0.mk (KeepBut.trans zq6_ (KeepBut.of_below hb g none) (.inl rfl)); have n3_ := Aside0.mk (below_step (zqB2_ (IsS56.ge HI0.out) GE237.out) hb); have n4_ := Aside0.mk (hbox); have n5_ := Aside0.mk ((zq38_ : w.heap.size ≤ gb244)); have n6_ := Aside0.mk ((Nat.le_trans HW0.out (zq38_ : w.heap.size ≤ gb244) : w0.heap.size ≤ gb244)); have n7_ := Aside0.mk (((by rw [hg]; exact Nat.ne_of_lt (blk_lt (zqK_ BK237.out))) : gb237 ≠ gb244)); have n8_ := Aside0.mk (((by rw [hg]; exact Nat.ne_of_gt (blk_lt (zqK_ BK237.out))) : gb244 ≠ gb237)); have n9_ := Aside0.mk (((by rw [hg]; exact Nat.ne_of_lt (IsS56.lt (show IsS56 w0 _ g t239 false from by repeat (first | (with_reducible first | exact HI0.out | apply IsS56.alloc | apply IsS56.drewN | apply IsS56.drew | apply IsS56.set_0 | apply IsS56.set_1 | apply IsS56.far (hne := NB0_237.out)) | exact HI0.out)))) : g ≠ gb244)); have n10_ := Aside0.mk (((by rw [hg]; exact Nat.ne_of_gt (IsS56.lt (show IsS56 w0 _ g t239 false from by repeat (first | (with_reducible first | exact HI0.out | apply IsS56.alloc | apply IsS56.drewN | apply IsS56.drew | apply IsS56.set_0 | apply IsS56.set_1 | apply IsS56.far (hne := NB0_237.out)) | exact HI0.out)))) : gb244 ≠ g)); clear HI0; clear BK237; clear HK; clear HB; have HI0 := n0_; have BK237 := n1_; have HK := n2_; have HB := n3_; have BK244 := n4_; have GW244 := n5_; have GE244 := n6_; have NB237_244 := n7_; have NB244_237 := n8_; have NB0_244 := n9_; have NB244_0 := n10_; clear n0_ n1_ n2_ n3_ n4_ n5_ n6_ n7_ n8_ n9_ n10_; clear hb hbox hg; have hnb26 := NB244_237.out; have hnc26 := NB237_244.out; have hnb27 := NB244_0.out; have hnc27 := NB0_244.out; obtain ⟨hcz28_0, hfz28_0, hcz28_1, hfz28_1⟩ := zqC2_ BK244.out; obtain ⟨HGz29, hgz29⟩ := HI0.out; have hcz29_0 := cellS56_0 HGz29; have hcz29_1 := cellS56_1 HGz29; have hfz29_0 := blk_frozen HGz29 0; have hfz29_1 := blk_frozen HGz29 1; clear HGz29 hgz29; have hnb30 := NB237_0.out; have hnc30 := NB0_237.out; obtain ⟨hcz31_0, hfz31_0, hcz31_1, hfz31_1⟩ := zqC2_ BK237.out))
    refine bodyPost_ret (results_cell_row rfl _ _ gb237 28 #[.int .i64 t241, .int .i64 t242] (0, 0) _ rfl zq26_ Tryd.underlying28 rfl (by kernel_rfl)) rfl ?_
    exact ⟨by first | rfl | (simp [errW_none, errW_some] <;> rfl) | (simp [*, errW_none, errW_some] <;> rfl), by repeat (first | (with_reducible first | exact HI0.out | apply IsS56.alloc | apply IsS56.drewN | apply IsS56.drew | apply IsS56.set_0 | apply IsS56.set_1 | apply IsS56.far (hne := NB0_237.out) | apply IsS56.far (hne := NB0_244.out)) | exact HI0.out), by repeat (first | (with_reducible first | exact HB.out | apply below_alloc | apply pw_below_drewN | apply below_drew1 | refine below_set ?_ (IsS56.ge HI0.out) | refine below_set ?_ GE237.out | refine below_set ?_ GE244.out) | exact HB.out), by repeat (first | (with_reducible first | exact HK.out | apply KeepBut.set_ | apply keep_drewN | apply keep_drew | apply keep_alloc | refine keep_far ?_ GW237.out _ | refine keep_far ?_ GW244.out _) | exact HK.out)⟩
 ·replace c4 := Bool.eq_false_iff.mpr c4
  subst c4
  have H1 : ((ident_Parse.f k t238).bind fun bt245 => (if t240 = true then (some (bt245.1, bt245.2.1, t239, true)) else (some (bt245.1, bt245.2.1, t239, (bt245.2.2 != 0))))) = some (r1, r2, r3, r4) := by rw [if_neg (show ¬ (false = true) by decide)] at H; exact H
  clear H
  have H := H1
  clear H1
  replace H := Option.bind_eq_some_iff.mp H
  obtain ⟨⟨t245, t246, t247⟩, A320, H⟩ := H
  replace H : (if t240 = true then (some (t245, t246, t239, true)) else (some (t245, t246, t239, (t247 != 0)))) = some (r1, r2, r3, r4) := H
  have A32 := Aside0.mk A320
  clear A320
  by_cases c33 : t240 = true
  ·subst c33
   have H1 : (some (t245, t246, t239, true)) = some (r1, r2, r3, r4) := by rw [if_pos rfl] at H; exact H
   clear H
   have H := H1
   clear H1
   simp only [Option.some.injEq, Prod.mk.injEq] at H
   obtain ⟨rfl, rfl, rfl, rfl⟩ := H
   go_enter Tryd.func28, Tryd.ntmps28
   go_wp2_with (first | ((with_reducible refine gate_dst (N := 4) rfl ?_); refine box_event ?hg (N := 4) ?hd (cs := #[.int .i64 0, .int .i64 0]) (t := 28) ?hr ?_; (case hd => rfl); (case hg => rfl); (case hr => first | (go_simp; done) | (go_simp; rfl)); intro gb237 hg w34 hbox hb; have n0_ := Aside0.mk (IsS56.below zq22_ hb); have n1_ := Aside0.mk (KeepBut.trans zq7_ (KeepBut.of_below hb g none) (.inl rfl)); have n2_ := Aside0.mk (below_step (zqB1_ (IsS56.ge HI0.out)) hb); have n3_ := Aside0.mk (hbox); have n4_ := Aside0.mk ((zq30_ : w.heap.size ≤ gb237)); have n5_ := Aside0.mk ((Nat.le_trans HW0.out (zq30_ : w.heap.size ≤ gb237) : w0.heap.size ≤ gb237)); have n6_ := Aside0.mk ((zq15_ : g ≠ gb237)); have n7_ := Aside0.mk ((zq16_ : gb237 ≠ g)); clear HI0; clear HK; clear HB; have HI0 := n0_; have HK := n1_; have HB := n2_; have BK237 := n3_; have GW237 := n4_; have GE237 := n5_; have NB0_237 := n6_; have NB237_0 := n7_; clear n0_ n1_ n2_ n3_ n4_ n5_ n6_ n7_; clear hb hbox hg) | ((with_reducible refine gate_callee (f := 29) rfl ?_); refine zqG_ (some 9) rfl Tryd.func29 #[.pointer (some ⟨g, 0, none⟩)] rfl ?_; (with_reducible refine (change_reader_next.calls g s0_0 s0_1 t238 t239 true w0 _ ?side1 ?side2 HTAB.out A3.out).mono ?_); (case side1 => repeat (first | (with_reducible first | exact HI0.out | apply IsS56.alloc | apply IsS56.drewN | apply IsS56.drew | apply IsS56.set_0 | apply IsS56.set_1 | apply IsS56.far (hne := NB0_237.out)) | exact HI0.out)); (case side2 => repeat (first | (with_reducible first | exact HB.out | apply below_alloc | apply pw_below_drewN | apply below_drew1 | refine below_set ?_ (IsS56.ge HI0.out) | refine below_set ?_ GE237.out) | exact HB.out)); rintro e w35 ⟨rfl, hi, hb, hk⟩; refine ⟨_, rfl, ?_⟩; have n0_ := Aside0.mk (KeepBut.blk hk (g' := gb237) (o := .cells #[.int .i64 0, .int .i64 0] 28 (0, 0)) (zqK_ BK237.out) NB237_0.out (by simp)); have n1_ := Aside0.mk (KeepBut.trans zq6_ hk (.inl rfl)); have n2_ := Aside0.mk (hb); have n3_ := Aside0.mk (hi); clear BK237; clear HK; clear HB; clear HI0; have BK237 := n0_; have HK := n1_; have HB := n2_; have HI0 := n3_; clear n0_ n1_ n2_ n3_; (try clear hb); (try clear hb2); (try clear hk); (try clear hi)) | ((with_reducible refine gate_callee (f := 47) rfl ?_); refine zqG_ (some 18) rfl Tryd.func47 #[.string t238] rfl ?_; (with_reducible refine (ident_Parse.calls k t238 t245 t246 t247 _ (tabW_below_ HTAB.out (zqB2_ (IsS56.ge HI0.out) GE237.out)) A32.out).mono ?_); rintro e w36 ⟨rfl, hb⟩; refine ⟨_, rfl, ?_⟩; have n0_ := Aside0.mk (IsS56.below zq13_ hb); have n1_ := Aside0.mk (blk_below (zqK_ BK237.out) hb); have n2_ := Aside0.mk (KeepBut.trans zq6_ (KeepBut.of_below hb g none) (.inl rfl)); have n3_ := Aside0.mk (below_step (zqB2_ (IsS56.ge HI0.out) GE237.out) hb); clear HI0; clear BK237; clear HK; clear HB; have HI0 := n0_; have BK237 := n1_; have HK := n2_; have HB := n3_; clear n0_ n1_ n2_ n3_; (try clear hb); (try clear hb2); (try clear hk); (try clear hi)) | ((with_reducible refine gate_dst (N := 6) rfl ?_); refine box_event ?hg (N := 6) ?hd (cs := #[.int .i64 0, .int .i64 0]) (t := 28) ?hr ?_; (case hd => rfl); (case hg => rfl); (case hr => first | (go_simp; done) | (go_simp; rfl)); intro gb248 hg w37 hbox hb; have n0_ := Aside0.mk (IsS56.below zq13_ hb); have n1_ := Aside0.mk (blk_below (zqK_ BK237.out) hb); have n2_ := Aside0.mk (KeepBut.trans zq6_ (KeepBut.of_below hb g none) (.inl rfl)); have n3_ := Aside0.mk (below_step (zqB2_ (IsS56.ge HI0.out) GE237.out) hb); have n4_ := Aside0.mk (hbox); have n5_ := Aside0.mk ((zq38_ : w.heap.size ≤ gb248)); have n6_ := Aside0.mk ((Nat.le_trans HW0.out (zq38_ : w.heap.size ≤ gb248) : w0.heap.size ≤ gb248)); have n7_ := Aside0.mk (((by rw [hg]; exact Nat.ne_of_lt (blk_lt (zqK_ BK237.out))) : gb237 ≠ gb248)); have n8_ := Aside0.mk (((by rw [hg]; exact Nat.ne_of_gt (blk_lt (zqK_ BK237.out))) : gb248 ≠ gb237)); have n9_ := Aside0.mk (((by rw [hg]; exact Nat.ne_of_lt (IsS56.lt (show IsS56 w0 _ g t239 true from by repeat (first | (with_reducible first | exact HI0.out | apply IsS56.alloc | apply IsS56.drewN | apply IsS56.drew | apply IsS56.set_0 | apply IsS56.set_1 | apply IsS56.far (hne := NB0_237.out)) | exact HI0.out)))) : g ≠ gb248)); have n10_ := Aside0.mk (((by rw [hg]; exact Nat.ne_of_gt (IsS56.lt (show IsS56 w0 _ g t239 true from by repeat (first | (with_reducible first | exact HI0.out | apply IsS56.alloc | apply IsS56.drewN | apply IsS56.drew | apply IsS56.set_0 | apply IsS56.set_1 | apply IsS56.far (hne := NB0_237.out)) | exact HI0.out)))) : gb248 ≠ g)); clear HI0; clear BK237; clear HK; clear HB; have HI0 := n0_; have BK237 := n1_; have HK := n2_; have HB := n3_; have BK248 := n4_; have GW248 := n5_; have GE248 := n6_; have NB237_248 := n7_; have NB248_237 := n8_; have NB0_248 := n9_; have NB248_0 := n10_; clear n0_ n1_ n2_ n3_ n4_ n5_ n6_ n7_ n8_ n9_ n10_; clear hb hbox hg; have hnb38 := NB248_237.out; have hnc38 := NB237_248.out; have hnb39 := NB248_0.out; have hnc39 := NB0_248.out; obtain ⟨hcz40_0, hfz40_0, hcz40_1, hfz40_1⟩ := zqC2_ BK248.out; obtain ⟨HGz41, hgz41⟩ := HI0.out; have hcz41_0 := cellS56_0 HGz41; have hcz41_1 := cellS56_1 HGz41; have hfz41_0 := blk_frozen HGz41 0; have hfz41_1 := blk_frozen HGz41 1; clear HGz41 hgz41; have hnb42 := NB237_0.out; have hnc42 := NB0_237.out; obtain ⟨hcz43_0, hfz43_0, hcz43_1, hfz43_1⟩ := zqC2_ BK237.out))
   refine bodyPost_ret (results_cell_row rfl _ _ gb237 28 #[.int .i64 t245, .int .i64 t246] (0, 0) _ rfl zq25_ Tryd.underlying28 rfl (by kernel_rfl)) rfl ?_
   exact ⟨by first | rfl | (simp [errW_none, errW_some] <;> rfl) | (simp [*, errW_none, errW_some] <;> rfl), by repeat (first | (with_reducible first | exact HI0.out | apply IsS56.alloc | apply IsS56.drewN | apply IsS56.drew | apply IsS56.set_0 | apply IsS56.set_1 | apply IsS56.far (hne := NB0_237.out) | apply IsS56.far (hne := NB0_248.out)) | exact HI0.out), by repeat (first | (with_reducible first | exact HB.out | apply below_alloc | apply pw_below_drewN | apply below_drew1 | refine below_set ?_ (IsS56.ge HI0.out) | refine below_set ?_ GE237.out | refine below_set ?_ GE248.out) | exact HB.out), by repeat (first | (with_reducible first | exact HK.out | apply KeepBut.set_ | apply keep_drewN | apply keep_drew | apply keep_alloc | refine keep_far ?_ GW237.out _ | refine keep_far ?_ GW248.out _) | exact HK.out)⟩
  ·replace c33 := Bool.eq_false_iff.mpr c33
   subst c33
   have H1 : (some (t245, t246, t239, (t247 != 0))) = some (r1, r2, r3, r4) := by rw [if_neg (show ¬ (false = true) by decide)] at H; exact H
   clear H
   have H := H1
   clear H1
   simp only [Option.some.injEq, Prod.mk.injEq] at H
   obtain ⟨rfl, rfl, rfl, rfl⟩ := H
   go_enter Tryd.func28, Tryd.ntmps28
   go_wp2_with (first | ((with_reducible refine gate_dst (N := 4) rfl ?_); refine box_event ?hg (N := 4) ?hd (cs := #[.int .i64 0, .int .i64 0]) (t := 28) ?hr ?_; (case hd => rfl); (case hg => rfl); (case hr => first | (go_simp; done) | (go_simp; rfl)); intro gb237 hg w44 hbox hb; have n0_ := Aside0.mk (IsS56.below zq22_ hb); have n1_ := Aside0.mk (KeepBut.trans zq7_ (KeepBut.of_below hb g none) (.inl rfl)); have n2_ := Aside0.mk (below_step (zqB1_ (IsS56.ge HI0.out)) hb); have n3_ := Aside0.mk (hbox); have n4_ := Aside0.mk ((zq30_ : w.heap.size ≤ gb237)); have n5_ := Aside0.mk ((Nat.le_trans HW0.out (zq30_ : w.heap.size ≤ gb237) : w0.heap.size ≤ gb237)); have n6_ := Aside0.mk ((zq15_ : g ≠ gb237)); have n7_ := Aside0.mk ((zq16_ : gb237 ≠ g)); clear HI0; clear HK; clear HB; have HI0 := n0_; have HK := n1_; have HB := n2_; have BK237 := n3_; have GW237 := n4_; have GE237 := n5_; have NB0_237 := n6_; have NB237_0 := n7_; clear n0_ n1_ n2_ n3_ n4_ n5_ n6_ n7_; clear hb hbox hg) | ((with_reducible refine gate_callee (f := 29) rfl ?_); refine zqG_ (some 9) rfl Tryd.func29 #[.pointer (some ⟨g, 0, none⟩)] rfl ?_; (with_reducible refine (change_reader_next.calls g s0_0 s0_1 t238 t239 false w0 _ ?side1 ?side2 HTAB.out A3.out).mono ?_); (case side1 => repeat (first | (with_reducible first | exact HI0.out | apply IsS56.alloc | apply IsS56.drewN | apply IsS56.drew | apply IsS56.set_0 | apply IsS56.set_1 | apply IsS56.far (hne := NB0_237.out)) | exact HI0.out)); (case side2 => repeat (first | (with_reducible first | exact HB.out | apply below_alloc | apply pw_below_drewN | apply below_drew1 | refine below_set ?_ (IsS56.ge HI0.out) | refine below_set ?_ GE237.out) | exact HB.out)); rintro e w45 ⟨rfl, hi, hb, hk⟩; refine ⟨_, rfl, ?_⟩; have n0_ := Aside0.mk (KeepBut.blk hk (g' := gb237) (o := .cells #[.int .i64 0, .int .i64 0] 28 (0, 0)) (zqK_ BK237.out) NB237_0.out (by simp)); have n1_ := Aside0.mk (KeepBut.trans zq6_ hk (.inl rfl)); have n2_ := Aside0.mk (hb); have n3_ := Aside0.mk (hi); clear BK237; clear HK; clear HB; clear HI0; have BK237 := n0_; have HK := n1_; have HB := n2_; have HI0 := n3_; clear n0_ n1_ n2_ n3_; (try clear hb); (try clear hb2); (try clear hk); (try clear hi)) | ((with_reducible refine gate_callee (f := 47) rfl ?_); refine zqG_ (some 18) rfl Tryd.func47 #[.string t238] rfl ?_; (with_reducible refine (ident_Parse.calls k t238 t245 t246 t247 _ (tabW_below_ HTAB.out (zqB2_ (IsS56.ge HI0.out) GE237.out)) A32.out).mono ?_); rintro e w46 ⟨rfl, hb⟩; refine ⟨_, rfl, ?_⟩; have n0_ := Aside0.mk (IsS56.below zq13_ hb); have n1_ := Aside0.mk (blk_below (zqK_ BK237.out) hb); have n2_ := Aside0.mk (KeepBut.trans zq6_ (KeepBut.of_below hb g none) (.inl rfl)); have n3_ := Aside0.mk (below_step (zqB2_ (IsS56.ge HI0.out) GE237.out) hb); clear HI0; clear BK237; clear HK; clear HB; have HI0 := n0_; have BK237 := n1_; have HK := n2_; have HB := n3_; clear n0_ n1_ n2_ n3_; (try clear hb); (try clear hb2); (try clear hk); (try clear hi)) | ((with_reducible refine gate_dst (N := 6) rfl ?_); refine box_event ?hg (N := 6) ?hd (cs := #[.int .i64 0, .int .i64 0]) (t := 28) ?hr ?_; (case hd => rfl); (case hg => rfl); (case hr => first | (go_simp; done) | (go_simp; rfl)); intro gb248 hg w47 hbox hb; have n0_ := Aside0.mk (IsS56.below zq13_ hb); have n1_ := Aside0.mk (blk_below (zqK_ BK237.out) hb); have n2_ := Aside0.mk (KeepBut.trans zq6_ (KeepBut.of_below hb g none) (.inl rfl)); have n3_ := Aside0.mk (below_step (zqB2_ (IsS56.ge HI0.out) GE237.out) hb); have n4_ := Aside0.mk (hbox); have n5_ := Aside0.mk ((zq38_ : w.heap.size ≤ gb248)); have n6_ := Aside0.mk ((Nat.le_trans HW0.out (zq38_ : w.heap.size ≤ gb248) : w0.heap.size ≤ gb248)); have n7_ := Aside0.mk (((by rw [hg]; exact Nat.ne_of_lt (blk_lt (zqK_ BK237.out))) : gb237 ≠ gb248)); have n8_ := Aside0.mk (((by rw [hg]; exact Nat.ne_of_gt (blk_lt (zqK_ BK237.out))) : gb248 ≠ gb237)); have n9_ := Aside0.mk (((by rw [hg]; exact Nat.ne_of_lt (IsS56.lt (show IsS56 w0 _ g t239 false from by repeat (first | (with_reducible first | exact HI0.out | apply IsS56.alloc | apply IsS56.drewN | apply IsS56.drew | apply IsS56.set_0 | apply IsS56.set_1 | apply IsS56.far (hne := NB0_237.out)) | exact HI0.out)))) : g ≠ gb248)); have n10_ := Aside0.mk (((by rw [hg]; exact Nat.ne_of_gt (IsS56.lt (show IsS56 w0 _ g t239 false from by repeat (first | (with_reducible first | exact HI0.out | apply IsS56.alloc | apply IsS56.drewN | apply IsS56.drew | apply IsS56.set_0 | apply IsS56.set_1 | apply IsS56.far (hne := NB0_237.out)) | exact HI0.out)))) : gb248 ≠ g)); clear HI0; clear BK237; clear HK; clear HB; have HI0 := n0_; have BK237 := n1_; have HK := n2_; have HB := n3_; have BK248 := n4_; have GW248 := n5_; have GE248 := n6_; have NB237_248 := n7_; have NB248_237 := n8_; have NB0_248 := n9_; have NB248_0 := n10_; clear n0_ n1_ n2_ n3_ n4_ n5_ n6_ n7_ n8_ n9_ n10_; clear hb hbox hg; have hnb48 := NB248_237.out; have hnc48 := NB237_248.out; have hnb49 := NB248_0.out; have hnc49 := NB0_248.out; obtain ⟨hcz50_0, hfz50_0, hcz50_1, hfz50_1⟩ := zqC2_ BK248.out; obtain ⟨HGz51, hgz51⟩ := HI0.out; have hcz51_0 := cellS56_0 HGz51; have hcz51_1 := cellS56_1 HGz51; have hfz51_0 := blk_frozen HGz51 0; have hfz51_1 := blk_frozen HGz51 1; clear HGz51 hgz51; have hnb52 := NB237_0.out; have hnc52 := NB0_237.out; obtain ⟨hcz53_0, hfz53_0, hcz53_1, hfz53_1⟩ := zqC2_ BK237.out))
   refine bodyPost_ret (results_cell_row rfl _ _ gb237 28 #[.int .i64 t245, .int .i64 t246] (0, 0) _ rfl zq25_ Tryd.underlying28 rfl (by kernel_rfl)) rfl ?_
   exact ⟨by first | rfl | (simp [errW_none, errW_some] <;> rfl) | (simp [*, errW_none, errW_some] <;> rfl), by repeat (first | (with_reducible first | exact HI0.out | apply IsS56.alloc | apply IsS56.drewN | apply IsS56.drew | apply IsS56.set_0 | apply IsS56.set_1 | apply IsS56.far (hne := NB0_237.out) | apply IsS56.far (hne := NB0_248.out)) | exact HI0.out), by repeat (first | (with_reducible first | exact HB.out | apply below_alloc | apply pw_below_drewN | apply below_drew1 | refine below_set ?_ (IsS56.ge HI0.out) | refine below_set ?_ GE237.out | refine below_set ?_ GE248.out) | exact HB.out), by repeat (first | (with_reducible first | exact HK.out | apply KeepBut.set_ | apply keep_drewN | apply keep_drew | apply keep_alloc | refine keep_far ?_ GW237.out _ | refine keep_far ?_ GW248.out _) | exact HK.out)⟩

-- NOT PRINTED: function 94 (strconv_lower)

-- NOT PRINTED: function 95 (strconv_underscoreOK)

-- NOT PRINTED: function 83 (strconv_ParseUint)

-- NOT PRINTED: function 71 (strconv_ParseInt)

-- NOT PRINTED: function 58 (strconv_Atoi_58)

-- NOT PRINTED: function 84 (stringslite_Clone)

-- NOT PRINTED: function 72 (strconv_syntaxError)

-- NOT PRINTED: function 73 (strconv_rangeError)

-- NOT PRINTED: function 85 (errors_New)

-- NOT PRINTED: function 74 (strconv_baseError)

-- NOT PRINTED: function 75 (strconv_bitSizeError)

-- NOT PRINTED: function 59 (strconv_toError)

/-! ### strconv_Atoi_45: function 45 (by hand) -/
/-- What an error of strconv.Atoi is: none is the nil interface, one a pointer to a new block. -/
def ErrV_ : Option Int → Value → Prop
 | none, v => v = .nilIface
 | some _, v => ∃ N : Nat, v = .iface 103 (.pointer (some ⟨N, 0, none⟩))
def strconv_Atoi_45.f (a0 : ByteArray) : Option (Int × Option Int) := if a0.size ≤ 281474976710656 then some (match Lib.atoiAll a0.data.toList with | .ok v => (v, none) | .«syntax» => (0, some 0) | .range => (Lib.atoiSat a0.data.toList, some 0)) else none
set_option maxRecDepth 100000 in
theorem strconv_Atoi_45.calls (a0 : ByteArray) (r1 : Int) (r2 : Option Int) (w : World) (htab : TabW_ w) (h : strconv_Atoi_45.f a0 = some (r1, r2)) :
  Calls Tryd.prog 45 #[.string a0] w fun e w' => ∃ v_ : Value, e = .returned (.tuple #[.int .i64 r1, v_]) ∧ ErrV_ r2 v_ ∧ Below w.heap.size w w' := by
 unfold strconv_Atoi_45.f at h
 split at h
 ·rename_i hs
  have h := Option.some.inj h
  cases hA : Lib.atoiAll a0.data.toList with
  | ok v =>
   rw [hA] at h
   obtain ⟨rfl, rfl⟩ := Prod.mk.inj h
   refine (Tryd.strconv_Atoi_ok a0 (by omega) v hA w).mono ?_
   rintro e w' ⟨rfl, rfl | ⟨t, rfl⟩⟩
   ·exact ⟨_, rfl, rfl, Below.refl _ _⟩
   ·exact ⟨_, rfl, rfl, bytes_below (Below.refl _ _) (Nat.le_refl _) _ _⟩
  | «syntax» =>
   rw [hA] at h
   obtain ⟨rfl, rfl⟩ := Prod.mk.inj h
   obtain ⟨tp, p, hv⟩ := htab.1.2.1
   have h0 := World.var?_cell (show Tryd.prog.globalNamed "strconv.ErrSyntax" = some 2 from by kernel_rfl) hv 0
   refine (Tryd.strconv_Atoi_syntax a0 hs hA (.iface tp p) w (by simpa using h0) (Or.inr ⟨tp, p, rfl⟩)).mono ?_
   rintro e w' ⟨N, rfl, _, _, hb⟩
   exact ⟨_, rfl, ⟨N, rfl⟩, hb⟩
  | range =>
   rw [hA] at h
   obtain ⟨rfl, rfl⟩ := Prod.mk.inj h
   obtain ⟨tp, p, hv⟩ := htab.1.2.2
   have h0 := World.var?_cell (show Tryd.prog.globalNamed "strconv.ErrRange" = some 3 from by kernel_rfl) hv 0
   refine (Tryd.strconv_Atoi_range a0 hs hA (.iface tp p) w (by simpa using h0) (Or.inr ⟨tp, p, rfl⟩)).mono ?_
   rintro e w' ⟨N, rfl, _, _, hb⟩
   exact ⟨_, rfl, ⟨N, rfl⟩, hb⟩
 ·cases h


-- NOT PRINTED: function 96 (utf8_RuneCountInString)

-- NOT PRINTED: function 100 (utf8_decodeRuneInStringSlow)

-- NOT PRINTED: function 97 (utf8_DecodeRuneInString)

-- NOT PRINTED: function 86 (strings_explode)

-- NOT PRINTED: function 88 (strings_Index)

-- NOT PRINTED: function 98 (bytealg_CountString)

-- NOT PRINTED: function 87 (strings_Count)

-- NOT PRINTED: function 76 (strings_genSplit)

/-! ### strings_Split: function 60 (by hand) -/
def strings_Split.f (a0 : ByteArray) (a1 : ByteArray) : Option (List ByteArray) := if a0.size ≤ 1048576 then (if 1 ≤ a1.size then some (Lib.splitB a1 0 (Lib.countB a0 a1) a0) else none) else none
theorem R_strings_ (w : World) (xs : List ByteArray) (n : Nat) (hn : n = xs.length) (hm : n ≤ maxLen) : Kd.R Kd.string 9 (w.alloc (.cells (xs.map Value.string).toArray 9)) w.heap.size (fun _ => True) (.slice (some ⟨w.heap.size, 0, none⟩) n n) xs := by
 subst hn
 refine ⟨fun _ _ => trivial, xs.map Value.string, ?_, ⟨by simp [Kd.string, Kd.scalar], fun j p hj => ?_⟩⟩
 ·have h2 := World.ownsRow_lit (base := w.heap.size) (e := 9) (size := 1) w (xs.map Value.string).toArray xs.length (Nat.le_refl _) hm (by simp)
  simpa [Kd.string, Kd.scalar] using h2
 ·obtain ⟨hl, rfl⟩ := List.getElem?_eq_some_iff.1 hj
  show ((xs.map Value.string).drop (j * 1)).take 1 = [.string xs[j]]
  rw [Nat.mul_one, List.drop_eq_getElem_cons (by simpa using hl)]
  simp
set_option maxRecDepth 100000 in
theorem strings_Split.calls (a0 : ByteArray) (a1 : ByteArray) (r : List ByteArray) (w : World) (htab : TabW_ w) (h : strings_Split.f a0 a1 = some r) :
  Calls Tryd.prog 60 #[.string a0, .string a1] w fun e w' => ∃ v0_ : Value, e = .returned (v0_) ∧ Kd.R Kd.string 9 w' w.heap.size (fun _ => True) v0_ r ∧ Below w.heap.size w w' := by
 unfold strings_Split.f at h
 split at h
 ·rename_i hs
  split at h
  ·rename_i h1
   obtain rfl := Option.some.inj h
   obtain ⟨m, hm⟩ := htab.2
   have hle := Lib.countB_le a1 h1 a0.size a0 (Nat.le_refl _)
   have hlen := Lib.splitB_all a1 h1 0 _ a0 rfl
   refine (Tryd.strings_Split a0 a1 m w (by omega) hm h1).mono ?_
   rintro e w' ⟨rfl, rfl⟩
   exact ⟨_, rfl, R_strings_ w _ _ hlen.symm (by unfold maxLen; omega), Below.alloc (Below.refl _ _) (Nat.le_refl _) _⟩
  ·cases h
 ·cases h


end Go.Proofs.YtgoolgmcbnikkaaDoor.QChangeBack
