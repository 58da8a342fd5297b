-- Own text of this seat, laid by the session's program ownprint.py (wip/tools). Lean checks it.
import Derived.Test.YtgoolgmcbnikkaaGreatDoorQChangeSamesx0
import Derived.Test.YtgoolgmcbnikkaaGreatDoorQChangeSamesx1
import Derived.Test.YtgoolgmcbnikkaaGreatDoorQChangeSamesx2
import Derived.Test.YtgoolgmcbnikkaaGreatDoorQChangeSamesx5
namespace Go.Proofs.YtgoolgmcbnikkaaGreatDoor.QChangeSames
open Go.RowKit Go.Proofs.YtgoolgmcbnikkaaGreatDoorW.PrintWords Go.Proofs.YtgoolgmcbnikkaaGreatDoorW.PrintLast Go.Proofs.YtgoolgmcbnikkaaGreatDoorW.PrintMore
attribute [local go_sem] max2_int min2_int max_two min_two max_three min_three max_four min_four   -- for this text's walks alone
set_option linter.unusedVariables false
set_option linter.unusedSimpArgs false

attribute [local go_sem high] eqA23
/-! ### clock_Text: function 35 -/
def clock_Text.l0 : Nat → List ByteArray → List Int → Int → Int → Option (ByteArray × Int)
 | 0, _, _, _, _ => none
 | k + 1, x5, x14, x15, x16 => if x16 < x15 then (if 0 ≤ x16 then (if x16 < (x14.length : Int) then ((strconv_Itoa_38.f (rd x14 x16)).bind fun t161 => (if x5.length < 8796093022208 then (clock_Text.l0 k (x5 ++ [t161]) x14 x15 (wrap64 (x16 + 1))) else (none))) else (none)) else (none)) else (if (x5.length : Int) = 0 then (some ((⟨#[45]⟩ : ByteArray), 0)) else ((strings_Join.f x5 (⟨#[44]⟩ : ByteArray)).bind fun t165 => (some (t165, 0))))
def clock_Text.f (k : Nat) (l0 : List Int) : Option (ByteArray × Int) := (clock_Check.f k l0).bind fun t156 => (if t156 = 0 then ((clock_Trim.f k l0).bind fun t157 => (clock_Text.l0 k ([] : List ByteArray) t157 (t157.length : Int) 0)) else (some ((⟨#[]⟩ : ByteArray), t156)))
theorem clock_Text.mono_l : ∀ k, (∀ y0 y1 y2 y3, LeO (clock_Text.l0 k y0 y1 y2 y3) (clock_Text.l0 (k + 1) y0 y1 y2 y3))
 | 0 => fun _ _ _ _ r h => by simp [clock_Text.l0] at h
 | k + 1 => by
  have ih0 := clock_Text.mono_l k
  ·intro y0 y1 y2 y3
   unfold clock_Text.l0
   repeat' first
   | (with_reducible exact ih0 _ _ _ _)
   | (with_reducible exact clock_Check.mono _ _)
   | (with_reducible exact clock_Trim.mono _ _)
   | (with_reducible exact LeO.refl _)
   | (with_reducible exact LeO.none _)
   | (with_reducible refine LeO.ite ?_ ?_)
   | (with_reducible refine LeO.bind ?_ (fun _ => ?_))
   | exact ih0 _ _ _ _
   | exact clock_Check.mono _ _
   | exact clock_Trim.mono _ _
   | exact LeO.none _
   | refine LeO.ite ?_ ?_
   | refine LeO.bind ?_ (fun _ => ?_)
theorem clock_Text.mono : ∀ a0 k, LeO (clock_Text.f k a0) (clock_Text.f (k + 1) a0) := by
 intro a0 k
 have ih0 := clock_Text.mono_l k
 unfold clock_Text.f
 repeat' first
   | (with_reducible exact ih0 _ _ _ _)
   | (with_reducible exact clock_Check.mono _ _)
   | (with_reducible exact clock_Trim.mono _ _)
   | (with_reducible exact LeO.refl _)
   | (with_reducible exact LeO.none _)
   | (with_reducible refine LeO.ite ?_ ?_)
   | (with_reducible refine LeO.bind ?_ (fun _ => ?_))
   | exact ih0 _ _ _ _
   | exact clock_Check.mono _ _
   | exact clock_Trim.mono _ _
   | exact LeO.none _
   | refine LeO.ite ?_ ?_
   | refine LeO.bind ?_ (fun _ => ?_)
set_option maxHeartbeats 8000000 in
set_option maxRecDepth 100000 in
theorem clock_Text.calls (k : Nat) (A0 : Option Addr) (c0 : Nat) (l0 : List Int) (r1 : ByteArray) (r2 : Int) (w : World) (hr0 : Kd.C (Kd.int .i64) w A0 l0.length l0) (hc0 : l0.length ≤ c0) (htab : TabW_ w) (h : clock_Text.f k l0 = some (r1, r2)) :
  Calls Tryz.prog 35 #[.slice A0 l0.length c0] w fun e w' => e = .returned (.tuple #[.string r1, .int .i64 r2]) ∧ Below w.heap.size w w' := by
 have HTAB := Aside0.mk htab
 clear htab
 have HR0 := Aside0.mk hr0
 have HC0 := Aside0.mk hc0
 clear hr0 hc0
 have HB := Aside0.mk (Below.refl w.heap.size w)
 have H : ((clock_Check.f k l0).bind fun t156 => (if t156 = 0 then ((clock_Trim.f k l0).bind fun t157 => (clock_Text.l0 k ([] : List ByteArray) t157 (t157.length : Int) 0)) else (some ((⟨#[]⟩ : ByteArray), t156)))) = some (r1, r2) := h
 clear h
 replace H := Option.bind_eq_some_iff.mp H
 obtain ⟨t156, A20, H⟩ := H
 have A2 := Aside0.mk A20
 clear A20
 by_cases c3 : t156 = 0
 ·rw [if_pos c3] at H
  have c3b0 : (t156 == 0) = true := beq_iff_eq.mpr c3
  have c3b1 : (t156 != 0) = false := bne_eq_false_iff_eq.mpr c3
  clear c3
  replace H := Option.bind_eq_some_iff.mp H
  obtain ⟨t157, A40, H⟩ := H
  have A4 := Aside0.mk A40
  clear A40
  have H' := Aside0.mk H
  clear H
  go_enter Tryz.func35, Tryz.ntmps35
  go_wp2_with (first | ((with_reducible refine gate_callee (f := 62) rfl ?_); refine zqG_ (some 9) rfl Tryz.func62 #[.slice A0 l0.length c0] rfl ?_; (with_reducible refine (clock_Check.calls k _ _ l0 t156 _ ?side1 ?side2 A2.out).mono ?_); (case side1 => repeat (first | exact HR0.out | (with_reducible refine Kd.C_alloc ?_ _) | (with_reducible refine Kd.C_drewN ?_ _) | (with_reducible refine Kd.C_drew ?_))); (case side2 => exact HC0.out); rintro e w' ⟨rfl, ⟨nd, rfl⟩⟩; refine ⟨_, rfl, ?_⟩) | ((with_reducible refine gate_callee (f := 67) rfl ?_); refine zqG_ (some 14) rfl Tryz.func67 #[.slice A0 l0.length c0] rfl ?_; (with_reducible refine (clock_Trim.calls k _ _ l0 t157 _ ?side1 ?side2 A4.out).mono ?_); (case side1 => repeat (first | exact HR0.out | (with_reducible refine Kd.C_alloc ?_ _) | (with_reducible refine Kd.C_drewN ?_ _) | (with_reducible refine Kd.C_drew ?_))); (case side2 => exact HC0.out); rintro e w5 ⟨v158, rfl, ho0, hb⟩; refine ⟨_, rfl, ?_⟩; have HO159 := Aside0.mk (Kd.R_lower ho0 (below_size zq0_)); replace HB := Aside0.mk (below_step zq0_ hb); (try clear hb); (try clear hb2); (try clear hk); (try clear hi); (try clear ho0); obtain ⟨Ao6, co6, eo6⟩ := Kd.R_slice HO159.out; subst eo6))
  go_loopg [5, 16] k (fun kq v5 v16 w' => ∃ (x5_1 : List ByteArray) (x16_1 : Int), v16 = .int .i64 x16_1 ∧ Aside0 (clock_Text.l0 kq x5_1 t157 (t157.length : Int) x16_1 = some (r1, r2)) ∧ Aside0 (kq ≤ k) ∧ Aside0 (Kd.R Kd.string 9 w' w.heap.size (fun _ => True) v5 x5_1) ∧ Aside0 (Kd.R (Kd.int .i64) 3 w' w.heap.size (fun _ => True) (.slice Ao6 t157.length co6) t157) ∧ Aside0 (Below w.heap.size w w'))
  case atStart => exact ⟨(([] : List ByteArray)), (0), zq8_, H', ⟨Nat.le_refl _⟩, ⟨by first | exact Kd.R_nil _ _ _ _ _ | exact Kd.N_nil _ _ _ _ _ | exact Kd.V_nil _ _ _ _ _ | exact Kd.Q_nil _ _ _ _ _ | exact Kd.S_nil _ _ _ _ _⟩, ⟨by (with_reducible repeat (first | apply Kd.R_alloc | apply Kd.R_drewN | apply Kd.R_drew)); exact HO159.out⟩, ⟨by repeat (first | (with_reducible first | exact HB.out | apply below_alloc | apply pw_below_drewN | apply below_drew1) | exact HB.out)⟩⟩
  case round =>
   clear H'
   try clear p2
   try clear c3
   try clear c3b0
   try clear c3b1
   try clear c6
   obtain ⟨x5_1, x16_1, rfl, HA, HK1, HO_5, HO_14, HB⟩ := hrel
   cases gk with
   | zero => exact absurd HA.out (by simp [clock_Text.l0])
   | succ k1 =>
    have H := HA.out
    clear HA
    simp only [clock_Text.l0] at H
    by_cases c7 : x16_1 < (t157.length : Int)
    ·rw [if_pos c7] at H
     have c7b0 : decide (x16_1 < (t157.length : Int)) = true := decide_eq_true c7
     clear c7
     by_cases c8 : 0 ≤ x16_1
     ·rw [if_pos c8] at H
      have c8b0 : decide (0 ≤ x16_1) = true := decide_eq_true c8
      clear c8
      by_cases c9 : x16_1 < (t157.length : Int)
      ·rw [if_pos c9] at H
       have c9b0 : decide (x16_1 < (t157.length : Int)) = true := decide_eq_true c9
       clear c9
       replace H := Option.bind_eq_some_iff.mp H
       obtain ⟨t161, A100, H⟩ := H
       have A10 := Aside0.mk A100
       clear A100
       by_cases c11 : x5_1.length < 8796093022208
       ·rw [if_pos c11] at H
        have LMc11 := Aside0.mk c11
        clear c11
        obtain ⟨y162, hy162⟩ : ∃ y_ : List ByteArray, y_ = (x5_1 ++ [t161]) := ⟨_, rfl⟩
        replace H : (clock_Text.l0 k1 y162 t157 (t157.length : Int) (wrap64 (x16_1 + 1))) = some (r1, r2) := by first | (rw [hy162]; with_reducible exact H) | (have H2_ := (Option.bind_some _ _).symm.trans H; rw [hy162]; with_reducible exact H2_) | (have H2_ := (Option.bind_some _ _).symm.trans H; with_reducible exact H2_) | with_reducible exact H | (rw [hy162]; exact H) | exact H
        have Ny162 := Aside0.mk hy162
        clear hy162
        have H' := Aside0.mk H
        clear H
        have p160 : 0 ≤ (x16_1 : Int) := of_decide_eq_true zq2_
        have q160 : x16_1 < (t157.length : Int) := of_decide_eq_true zq2_
        obtain ⟨ad160, e160, hx160_0⟩ := Kd.at_int (Kd.R_reads' HO_14.out).2.2 x16_1 p160 q160
        cases e160
        replace p160 := eq_true p160
        replace q160 := eq_true q160
        go_wp2_with (first | ((with_reducible refine gate_callee (f := 38) rfl ?_); refine zqG_ (some 22) rfl Tryz.func38 #[.int .i64 (rd t157 x16_1)] rfl ?_; (with_reducible refine (strconv_Itoa_38.calls (rd t157 x16_1) t161 _ (tabW_below_ HTAB.out zq0_) A10.out).mono ?_); rintro e w12 ⟨rfl, hb⟩; refine ⟨_, rfl, ?_⟩; replace HO_5 := Aside0.mk (Kd.R_below zq19_ hb); replace HO_14 := Aside0.mk (Kd.R_below (by (with_reducible repeat (first | apply Kd.R_alloc | apply Kd.R_drewN | apply Kd.R_drew)); exact HO_14.out) hb); replace HB := Aside0.mk (below_step zq0_ hb); (try clear hb); (try clear hb2); (try clear hk); (try clear hi)) | ((with_reducible refine gate_builtin (b := .append) (xs := #[.tmp 20, .tmp 23]) rfl ?_); at_builtin; refine Kd.R_append Kd.string (w0 := w) w.heap.size rfl (.tmp 20) (.tmp 23) 50 9 (.string ⟨#[]⟩) 16 rfl Tryz.underlying50 info9 rfl (by decide) (by omega) u5 x5_1 t161 [.string t161] (fun _ => True) (fun _ => False) rfl rfl ?aP (fun _ hk => hk.elim) ?aF ?aO ?aB ?aS ?aL ?_; (case aP => exact rfl); (case aB => exact zq0_); (case aF => exact (fun _ _ => trivial)); (case aO => exact zq19_); (case aS => exact (below_size zq0_)); (case aL => have := LMc11.out; omega); intro v163 w13 ho hb hg hat; rw [← Ny162.out] at ho; replace HO_14 := Aside0.mk (Kd.R_over' (by (with_reducible repeat (first | apply Kd.R_alloc | apply Kd.R_drewN | apply Kd.R_drew)); exact HO_14.out) (Kd.R_typed zq19_) (by decide) hg); replace HB := Aside0.mk (hb); have HO164 := Aside0.mk (ho); clear HO_5; clear ho hb hg hat))
        go_roundg k1
        case measure => have := HK1.out; omega
        case rel => exact ⟨(y162), (wrap64 (x16_1 + 1)), zq8_, H', ⟨by have := HK1.out; omega⟩, ⟨by (with_reducible repeat (first | apply Kd.R_alloc | apply Kd.R_drewN | apply Kd.R_drew)); exact HO164.out⟩, ⟨by (with_reducible repeat (first | apply Kd.R_alloc | apply Kd.R_drewN | apply Kd.R_drew)); exact HO_14.out⟩, ⟨by repeat (first | (with_reducible first | exact HB.out | apply below_alloc | apply pw_below_drewN | apply below_drew1) | exact HB.out)⟩⟩
       ·rw [if_neg c11] at H
        exact absurd H (by simp)
      ·rw [if_neg c9] at H
       exact absurd H (by simp)
     ·rw [if_neg c8] at H
      exact absurd H (by simp)
    ·rw [if_neg c7] at H
     have c7b0 : decide (x16_1 < (t157.length : Int)) = false := decide_eq_false c7
     clear c7
     by_cases c14 : (x5_1.length : Int) = 0
     ·rw [if_pos c14] at H
      have c14b0 : ((x5_1.length : Int) == 0) = true := beq_iff_eq.mpr c14
      have c14b1 : ((x5_1.length : Int) != 0) = false := bne_eq_false_iff_eq.mpr c14
      clear c14
      simp only [Option.some.injEq, Prod.mk.injEq] at H
      obtain ⟨rfl, rfl⟩ := H
      obtain ⟨Ao15, co15, eo15⟩ := Kd.R_slice HO_5.out
      subst eo15
      go_wp2
      go_ret2
      exact ⟨by first | rfl | (simp [errW_none, errW_some] <;> rfl) | (simp [*, errW_none, errW_some] <;> rfl), by repeat (first | (with_reducible first | exact HB.out | apply below_alloc | apply pw_below_drewN | apply below_drew1) | exact HB.out)⟩
     ·rw [if_neg c14] at H
      have c14b0 : ((x5_1.length : Int) == 0) = false := beq_eq_false_iff_ne.mpr c14
      have c14b1 : ((x5_1.length : Int) != 0) = true := bne_iff_ne.mpr c14
      have c14b2 : ¬ (x5_1 = []) := fun h_ => c14 (by rw [h_]; rfl)
      replace H := Option.bind_eq_some_iff.mp H
      obtain ⟨t165, A160, H⟩ := H
      replace H : (some (t165, 0)) = some (r1, r2) := H
      have A16 := Aside0.mk A160
      clear A160
      simp only [Option.some.injEq, Prod.mk.injEq] at H
      obtain ⟨rfl, rfl⟩ := H
      obtain ⟨Ao17, co17, eo17⟩ := Kd.R_slice HO_5.out
      subst eo17
      go_wp2_with (first | ((with_reducible refine gate_callee (f := 40) rfl ?_); refine zqG_ (some 30) rfl Tryz.func40 #[.slice Ao17 x5_1.length co17, .string (⟨#[44]⟩ : ByteArray)] rfl ?_; (with_reducible refine (strings_Join.calls _ _ x5_1 (⟨#[44]⟩ : ByteArray) t165 _ ?side1 ?side2 A16.out).mono ?_); (case side1 => repeat (first | exact (Kd.R_reads' HO_5.out).2.2 | (with_reducible refine Kd.C_alloc ?_ _) | (with_reducible refine Kd.C_drewN ?_ _) | (with_reducible refine Kd.C_drew ?_))); (case side2 => exact (Kd.R_reads' HO_5.out).2.1); rintro e w18 ⟨rfl, hb⟩; refine ⟨_, rfl, ?_⟩; replace HO_5 := Aside0.mk (Kd.R_below zq19_ hb); replace HO_14 := Aside0.mk (Kd.R_below (by (with_reducible repeat (first | apply Kd.R_alloc | apply Kd.R_drewN | apply Kd.R_drew)); exact HO_14.out) hb); replace HB := Aside0.mk (below_step zq0_ hb); (try clear hb); (try clear hb2); (try clear hk); (try clear hi)))
      go_ret2
      exact ⟨by first | rfl | (simp [errW_none, errW_some] <;> rfl) | (simp [*, errW_none, errW_some] <;> rfl), by repeat (first | (with_reducible first | exact HB.out | apply below_alloc | apply pw_below_drewN | apply below_drew1) | exact HB.out)⟩
 ·rw [if_neg c3] at H
  have c3b0 : (t156 == 0) = false := beq_eq_false_iff_ne.mpr c3
  have c3b1 : (t156 != 0) = true := bne_iff_ne.mpr c3
  simp only [Option.some.injEq, Prod.mk.injEq] at H
  obtain ⟨rfl, rfl⟩ := H
  go_enter Tryz.func35, Tryz.ntmps35
  go_wp2_with (first | ((with_reducible refine gate_callee (f := 62) rfl ?_); refine zqG_ (some 9) rfl Tryz.func62 #[.slice A0 l0.length c0] rfl ?_; (with_reducible refine (clock_Check.calls k _ _ l0 t156 _ ?side1 ?side2 A2.out).mono ?_); (case side1 => repeat (first | exact HR0.out | (with_reducible refine Kd.C_alloc ?_ _) | (with_reducible refine Kd.C_drewN ?_ _) | (with_reducible refine Kd.C_drew ?_))); (case side2 => exact HC0.out); rintro e w' ⟨rfl, ⟨nd, rfl⟩⟩; refine ⟨_, rfl, ?_⟩))
  go_ret2
  exact ⟨by first | rfl | (simp [errW_none, errW_some] <;> rfl) | (simp [*, errW_none, errW_some] <;> rfl), by repeat (first | (with_reducible first | exact HB.out | apply below_alloc | apply pw_below_drewN | apply below_drew1) | exact HB.out)⟩

/-! ### change_word: function 36 -/
def change_word.f (a0 : Int) : Option (ByteArray) := if a0 = 1 then (some (⟨#[99, 114, 101, 97, 116, 101]⟩ : ByteArray)) else (if a0 = 2 then (some (⟨#[109, 111, 118, 101]⟩ : ByteArray)) else (if a0 = 3 then (some (⟨#[115, 101, 116]⟩ : ByteArray)) else (if a0 = 4 then (some (⟨#[99, 108, 101, 97, 114]⟩ : ByteArray)) else (some (⟨#[116, 101, 120, 116]⟩ : ByteArray)))))
set_option maxHeartbeats 8000000 in
set_option maxRecDepth 100000 in
theorem change_word.calls (a0 : Int) (r : ByteArray) (w : World) (h : change_word.f a0 = some r) :
  Calls Tryz.prog 36 #[.int .i64 a0] w fun e w' => e = .returned (.string r) ∧ Drawn0 w w' := by
 have H : (if a0 = 1 then (some (⟨#[99, 114, 101, 97, 116, 101]⟩ : ByteArray)) else (if a0 = 2 then (some (⟨#[109, 111, 118, 101]⟩ : ByteArray)) else (if a0 = 3 then (some (⟨#[115, 101, 116]⟩ : ByteArray)) else (if a0 = 4 then (some (⟨#[99, 108, 101, 97, 114]⟩ : ByteArray)) else (some (⟨#[116, 101, 120, 116]⟩ : ByteArray)))))) = some r := h
 clear h
 by_cases c2 : a0 = 1
 ·rw [if_pos c2] at H
  have c2b0 : (a0 == 1) = true := beq_iff_eq.mpr c2
  have c2b1 : (a0 != 1) = false := bne_eq_false_iff_eq.mpr c2
  clear c2
  obtain rfl := Option.some.inj H
  go_enter Tryz.func36, Tryz.ntmps36
  go_wp2
  go_ret
  exact ⟨by first | rfl | (simp; done) | (simp [*]; done), by repeat (first | exact Drawn0.refl _ | apply Drawn0.step)⟩
 ·rw [if_neg c2] at H
  have c2b0 : (a0 == 1) = false := beq_eq_false_iff_ne.mpr c2
  have c2b1 : (a0 != 1) = true := bne_iff_ne.mpr c2
  by_cases c3 : a0 = 2
  ·rw [if_pos c3] at H
   have c3b0 : (a0 == 2) = true := beq_iff_eq.mpr c3
   have c3b1 : (a0 != 2) = false := bne_eq_false_iff_eq.mpr c3
   clear c3
   obtain rfl := Option.some.inj H
   go_enter Tryz.func36, Tryz.ntmps36
   go_wp2
   go_ret
   exact ⟨by first | rfl | (simp; done) | (simp [*]; done), by repeat (first | exact Drawn0.refl _ | apply Drawn0.step)⟩
  ·rw [if_neg c3] at H
   have c3b0 : (a0 == 2) = false := beq_eq_false_iff_ne.mpr c3
   have c3b1 : (a0 != 2) = true := bne_iff_ne.mpr c3
   by_cases c4 : a0 = 3
   ·rw [if_pos c4] at H
    have c4b0 : (a0 == 3) = true := beq_iff_eq.mpr c4
    have c4b1 : (a0 != 3) = false := bne_eq_false_iff_eq.mpr c4
    clear c4
    obtain rfl := Option.some.inj H
    go_enter Tryz.func36, Tryz.ntmps36
    go_wp2
    go_ret
    exact ⟨by first | rfl | (simp; done) | (simp [*]; done), by repeat (first | exact Drawn0.refl _ | apply Drawn0.step)⟩
   ·rw [if_neg c4] at H
    have c4b0 : (a0 == 3) = false := beq_eq_false_iff_ne.mpr c4
    have c4b1 : (a0 != 3) = true := bne_iff_ne.mpr c4
    by_cases c5 : a0 = 4
    ·rw [if_pos c5] at H
     have c5b0 : (a0 == 4) = true := beq_iff_eq.mpr c5
     have c5b1 : (a0 != 4) = false := bne_eq_false_iff_eq.mpr c5
     clear c5
     obtain rfl := Option.some.inj H
     go_enter Tryz.func36, Tryz.ntmps36
     go_wp2
     go_ret
     exact ⟨by first | rfl | (simp; done) | (simp [*]; done), by repeat (first | exact Drawn0.refl _ | apply Drawn0.step)⟩
    ·rw [if_neg c5] at H
     have c5b0 : (a0 == 4) = false := beq_eq_false_iff_ne.mpr c5
     have c5b1 : (a0 != 4) = true := bne_iff_ne.mpr c5
     obtain rfl := Option.some.inj H
     go_enter Tryz.func36, Tryz.ntmps36
     go_wp2
     go_ret
     exact ⟨by first | rfl | (simp; done) | (simp [*]; done), by repeat (first | exact Drawn0.refl _ | apply Drawn0.step)⟩

/-! ### ident_Text: function 68 -/
def ident_Text.f (a0_0 : Int) (a0_1 : Int) : Option (ByteArray × Int) := (ident_Right.f a0_0 a0_1).bind fun t167 => (if t167 = true then ((strconv_Itoa_38.f a0_0).bind fun t168 => (if t168.size + 1 ≤ 9223372036854775807 then ((strconv_Itoa_38.f a0_1).bind fun t169 => (if (t168 ++ (⟨#[46]⟩ : ByteArray)).size + t169.size ≤ 9223372036854775807 then (some ((t168 ++ (⟨#[46]⟩ : ByteArray)) ++ t169, 0)) else (none))) else (none))) else (if (a0_0 == 0 && (a0_1 == 0)) = true then (some ((⟨#[114, 111, 111, 116]⟩ : ByteArray), 0)) else (if (a0_0 == 0 && (a0_1 == 1)) = true then (some ((⟨#[116, 114, 97, 115, 104]⟩ : ByteArray), 0)) else (some ((⟨#[]⟩ : ByteArray), 2)))))
def ident_Text.T2 : Bool × List (List Nat × List Nat) := (true, [([], []), ([0], [0]), ([1], [1]), ([2], [2]), ([], []), ([4], [4]), ([5, 2], [5]), ([3, 6], [3, 6]), ([7, 6, 0, 1, 2, 3, 4, 5, 6, 7], [7]), ([8, 0, 1, 2, 3, 4, 5, 6, 7, 8], [])])
def ident_Text.B2 : List Nat := [0, 1, 3, 7, 0, 16, 55, 127, 255, 511]
theorem ident_Text.tab2 : rtab .any (opsOf Tryz.f68 2) = ident_Text.T2 := by kernel_rfl
theorem ident_Text.bits2 : waitsOk ident_Text.T2.2 ident_Text.B2 = true := by kernel_rfl
set_option maxHeartbeats 8000000 in
set_option maxRecDepth 100000 in
theorem ident_Text.calls (a0_0 : Int) (a0_1 : Int) (r1 : ByteArray) (r2 : Int) (w : World) (htab : TabW_ w) (h : ident_Text.f a0_0 a0_1 = some (r1, r2)) :
  Calls Tryz.prog 68 #[.agg #[.int .i64 a0_0, .int .i64 a0_1]] w fun e w' => e = .returned (.tuple #[.string r1, .int .i64 r2]) ∧ Below w.heap.size w w' := by
 have HTAB := Aside0.mk htab
 clear htab
 have hu23 := Tryz.underlying23
 have HB := Aside0.mk (Below.refl w.heap.size w)
 have H : ((ident_Right.f a0_0 a0_1).bind fun t167 => (if t167 = true then ((strconv_Itoa_38.f a0_0).bind fun t168 => (if t168.size + 1 ≤ 9223372036854775807 then ((strconv_Itoa_38.f a0_1).bind fun t169 => (if (t168 ++ (⟨#[46]⟩ : ByteArray)).size + t169.size ≤ 9223372036854775807 then (some ((t168 ++ (⟨#[46]⟩ : ByteArray)) ++ t169, 0)) else (none))) else (none))) else (if (a0_0 == 0 && (a0_1 == 0)) = true then (some ((⟨#[114, 111, 111, 116]⟩ : ByteArray), 0)) else (if (a0_0 == 0 && (a0_1 == 1)) = true then (some ((⟨#[116, 114, 97, 115, 104]⟩ : ByteArray), 0)) else (some ((⟨#[]⟩ : ByteArray), 2)))))) = some (r1, r2) := h
 clear h
 replace H := Option.bind_eq_some_iff.mp H
 obtain ⟨t167, A20, H⟩ := H
 have A2 := Aside0.mk A20
 clear A20
 by_cases c3 : t167 = true
 focus
  subst c3
  have H1 : ((strconv_Itoa_38.f a0_0).bind fun t168 => (if t168.size + 1 ≤ 9223372036854775807 then ((strconv_Itoa_38.f a0_1).bind fun t169 => (if (t168 ++ (⟨#[46]⟩ : ByteArray)).size + t169.size ≤ 9223372036854775807 then (some ((t168 ++ (⟨#[46]⟩ : ByteArray)) ++ t169, 0)) else (none))) else (none))) = some (r1, r2) := by rw [if_pos rfl] at H; exact H
  clear H
  have H := H1
  clear H1
  replace H := Option.bind_eq_some_iff.mp H
  obtain ⟨t168, A40, H⟩ := H
  have A4 := Aside0.mk A40
  clear A40
  by_cases c5 : t168.size + 1 ≤ 9223372036854775807
  ·rw [if_pos c5] at H
   have c5b0 := eq_true c5
   have c5b1 : decide (t168.size + 1 ≤ 9223372036854775807) = true := decide_eq_true c5
   try have c5b2 : (9223372036854775807 < t168.size + 1) = False := eq_false (Nat.not_lt.2 c5)
   replace H := Option.bind_eq_some_iff.mp H
   obtain ⟨t169, A60, H⟩ := H
   have A6 := Aside0.mk A60
   clear A60
   by_cases c7 : (t168 ++ (⟨#[46]⟩ : ByteArray)).size + t169.size ≤ 9223372036854775807
   ·rw [if_pos c7] at H
    have c7b0 := eq_true c7
    have c7b1 : decide ((t168 ++ (⟨#[46]⟩ : ByteArray)).size + t169.size ≤ 9223372036854775807) = true := decide_eq_true c7
    try have c7b2 : (9223372036854775807 < (t168 ++ (⟨#[46]⟩ : ByteArray)).size + t169.size) = False := eq_false (Nat.not_lt.2 c7)
    try have c7b3 : (9223372036854775807 < t168.size + 1 + t169.size) = False := eq_false (Nat.not_lt.2 (by have h_ := c7; (try simp only [ByteArray.size_append] at h_); exact h_))
    simp only [Option.some.injEq, Prod.mk.injEq] at H
    obtain ⟨rfl, rfl⟩ := H
    go_enter Tryz.func68, Tryz.ntmps68
    try go_wp2_with (first | ((with_reducible refine gate_dst (N := 1) rfl ?_); refine box_event ?hg (N := 1) ?hd (cs := #[.int .i64 a0_0, .int .i64 a0_1]) (t := 23) ?hr ?_; (case hd => rfl); (case hg => rfl); (case hr => first | (go_simp; done) | (go_simp; rfl)); intro gb166 hg w8 hbox hb; have BK166 := Aside0.mk (hbox); have GW166 := Aside0.mk ((zq7_ : w.heap.size ≤ gb166)); have GE166 := Aside0.mk ((zq7_ : w.heap.size ≤ gb166)); replace HB := Aside0.mk (below_step zq0_ hb); clear hb hbox hg; obtain ⟨hcz9_0, hfz9_0, hcz9_1, hfz9_1⟩ := zqC2_ BK166.out) | ((with_reducible refine gate_callee (f := 25) rfl ?_); refine zqG_ (some 6) rfl Tryz.func25 #[.agg #[.int .i64 a0_0, .int .i64 a0_1]] rfl ?_; (with_reducible refine (ident_Right.calls a0_0 a0_1 true _ A2.out).mono ?_); rintro e w10 ⟨rfl, hb⟩; refine ⟨_, rfl, ?_⟩; replace BK166 := Aside0.mk (blk_below (zqK_ BK166.out) hb); replace HB := Aside0.mk (below_step (zqB1_ GE166.out) hb); (try clear hb); (try clear hb2); (try clear hk); (try clear hi)))
    replace BK166 := Aside0.mk (blk_drew BK166.out)
    replace HB := Aside0.mk (below_drew1 HB.out)
    refine start_ (n := 10) (S := fun w' => w'.cell? ⟨gb166, 0, none⟩ = some (.int .i64 a0_0) ∧ w'.cell? ⟨gb166, 1, none⟩ = some (.int .i64 a0_1)) (ds := []) #[false, false, false, false, false, false, false, false, false, false] (by kernel_rfl) rfl rfl ⟨(blk_cell BK166.out 0).trans rfl, (blk_cell BK166.out 1).trans rfl⟩ (fun hHeld => ?_); refine with_tabW ident_Text.tab2 ident_Text.bits2 (fun HT_ HW_ => ?_)
    generalize w10.drew = w11 at BK166 HB hHeld ⊢
    refine zqp_ 0 7 HT_ ?_
    refine zqp_ 4 11 HT_ ?_
    refine zqt2_ 1 8 HT_ HW_ hHeld ?_
    refine zqt2_ 5 12 HT_ HW_ hHeld ?_
    refine zqo_ 2 9 HT_ (fun K hK => ?_)
    refine goes_ Tryz.func38 (by kernel_rfl) rfl #[.int .i64 a0_0] (by rfl) rfl rfl zq3_ ?_
    with_reducible refine (strconv_Itoa_38.calls a0_0 t168 _ (tabW_below_ HTAB.out zq0_) A4.out).mono ?_
    rintro e w12 ⟨rfl, hb⟩
    refine ⟨_, rfl, ?_⟩
    replace BK166 := Aside0.mk (blk_below (zqK_ BK166.out) hb)
    replace HB := Aside0.mk (below_step (zqB1_ GE166.out) hb)
    (try clear hb)
    (try clear hb2)
    (try clear hk)
    (try clear hi)
    refine hK.out _ _ ⟨(blk_cell BK166.out 0).trans rfl, (blk_cell BK166.out 1).trans rfl⟩ (fun hHeld => ?_)
    clear hK K
    refine norm_ (a' := ?_) ?_ ?_
    rotate_left
    ·show Act.put _ (some 9) _ = _
     simp only [Act.put, List.setIfInBounds_toArray, List.set_cons_zero, List.set_cons_succ, i64_w, i32_w]
     rfl
    refine zqp_ 3 10 HT_ ?_
    refine zqo_ 6 13 HT_ (fun K hK => ?_)
    refine goes_ Tryz.func38 (by kernel_rfl) rfl #[.int .i64 a0_1] (by rfl) rfl rfl zq3_ ?_
    with_reducible refine (strconv_Itoa_38.calls a0_1 t169 _ (tabW_below_ HTAB.out zq0_) A6.out).mono ?_
    rintro e w13 ⟨rfl, hb⟩
    refine ⟨_, rfl, ?_⟩
    replace BK166 := Aside0.mk (blk_below (zqK_ BK166.out) hb)
    replace HB := Aside0.mk (below_step (zqB1_ GE166.out) hb)
    (try clear hb)
    (try clear hb2)
    (try clear hk)
    (try clear hi)
    refine hK.out _ _ ⟨(blk_cell BK166.out 0).trans rfl, (blk_cell BK166.out 1).trans rfl⟩ (fun hHeld => ?_)
    clear hK K
    refine norm_ (a' := ?_) ?_ ?_
    rotate_left
    ·show Act.put _ (some 13) _ = _
     simp only [Act.put, List.setIfInBounds_toArray, List.set_cons_zero, List.set_cons_succ, i64_w, i32_w]
     rfl
    refine zqp_ 7 14 HT_ ?_
    refine zqp_ 8 2 HT_ ?_
    refine zqp_ 9 3 HT_ ?_
    refine done_ (done_of HT_.out (by kernel_rfl)) ?_
    try go_wp2
    go_ret2
    exact ⟨by first | rfl | (simp [errW_none, errW_some] <;> rfl) | (simp [*, errW_none, errW_some] <;> rfl), by repeat (first | (with_reducible first | exact HB.out | apply below_alloc | apply pw_below_drewN | apply below_drew1 | refine below_set ?_ GE166.out) | exact HB.out)⟩
   ·rw [if_neg c7] at H
    exact absurd H (by simp)
  ·rw [if_neg c5] at H
   exact absurd H (by simp)
 rotate_right
 focus
  replace c3 := Bool.eq_false_iff.mpr c3
  subst c3
  have H1 : (if (a0_0 == 0 && (a0_1 == 0)) = true then (some ((⟨#[114, 111, 111, 116]⟩ : ByteArray), 0)) else (if (a0_0 == 0 && (a0_1 == 1)) = true then (some ((⟨#[116, 114, 97, 115, 104]⟩ : ByteArray), 0)) else (some ((⟨#[]⟩ : ByteArray), 2)))) = some (r1, r2) := by rw [if_neg (show ¬ (false = true) by decide)] at H; exact H
  clear H
  have H := H1
  clear H1
  by_cases c14 : (a0_0 == 0 && (a0_1 == 0)) = true
  focus
   rw [if_pos c14] at H
   have c14b0 : (a0_0 == 0 && (a0_1 == 0)) = true := c14
   (try (have c14b1 : decide (a0_0 = 0 && (a0_1 == 0)) = true := by simpa using c14))
   (try (have c14b2 : (a0_0 == 0 && (a0_1 == 0)) = true := by simpa using c14))
   clear c14
   simp only [Option.some.injEq, Prod.mk.injEq] at H
   obtain ⟨rfl, rfl⟩ := H
  rotate_right
  focus
   rw [if_neg c14] at H
   have c14b0 : (a0_0 == 0 && (a0_1 == 0)) = false := by simpa using c14
   (try (have c14b1 : decide (a0_0 = 0 && (a0_1 == 0)) = false := by simpa using c14))
   (try (have c14b2 : (a0_0 == 0 && (a0_1 == 0)) = false := by simpa using c14))
   (try (have c14b3 : ¬ (a0_0 = 0 && (a0_1 == 0)) := by simpa using c14))
   clear c14
   by_cases c19 : (a0_0 == 0 && (a0_1 == 1)) = true
   focus
    rw [if_pos c19] at H
    have c19b0 : (a0_0 == 0 && (a0_1 == 1)) = true := c19
    (try (have c19b1 : decide (a0_0 = 0 && (a0_1 == 1)) = true := by simpa using c19))
    (try (have c19b2 : (a0_0 == 0 && (a0_1 == 1)) = true := by simpa using c19))
    clear c19
    simp only [Option.some.injEq, Prod.mk.injEq] at H
    obtain ⟨rfl, rfl⟩ := H
   rotate_right
   focus
    rw [if_neg c19] at H
    have c19b0 : (a0_0 == 0 && (a0_1 == 1)) = false := by simpa using c19
    (try (have c19b1 : decide (a0_0 = 0 && (a0_1 == 1)) = false := by simpa using c19))
    (try (have c19b2 : (a0_0 == 0 && (a0_1 == 1)) = false := by simpa using c19))
    (try (have c19b3 : ¬ (a0_0 = 0 && (a0_1 == 1)) := by simpa using c19))
    clear c19
    simp only [Option.some.injEq, Prod.mk.injEq] at H
    obtain ⟨rfl, rfl⟩ := H
 all_goals
  go_enter Tryz.func68, Tryz.ntmps68
  go_wp2_with (first | ((with_reducible refine gate_dst (N := 1) rfl ?_); refine box_event ?hg (N := 1) ?hd (cs := #[.int .i64 a0_0, .int .i64 a0_1]) (t := 23) ?hr ?_; (case hd => rfl); (case hg => rfl); (case hr => first | (go_simp; done) | (go_simp; rfl)); intro gbz1 hg wz1 hbox hb; have BK166 := Aside0.mk (hbox); have GWz1 := Aside0.mk ((zq7_ : w.heap.size ≤ gbz1)); have GEz1 := Aside0.mk ((zq7_ : w.heap.size ≤ gbz1)); replace HB := Aside0.mk (below_step zq0_ hb); clear hb hbox hg; obtain ⟨hczz2_0, hfzz2_0, hczz2_1, hfzz2_1⟩ := zqC2_ BK166.out) | ((with_reducible refine gate_callee (f := 25) rfl ?_); refine zqG_ (some 6) rfl Tryz.func25 #[.agg #[.int .i64 a0_0, .int .i64 a0_1]] rfl ?_; (with_reducible refine (ident_Right.calls a0_0 a0_1 false _ A2.out).mono ?_); rintro e wz2 ⟨rfl, hb⟩; refine ⟨_, rfl, ?_⟩; replace BK166 := Aside0.mk (blk_below (zqK_ BK166.out) hb); replace HB := Aside0.mk (below_step (zqB1_ GEz1.out) hb); (try clear hb); (try clear hb2); (try clear hk); (try clear hi); obtain ⟨hczz3_0, hfzz3_0, hczz3_1, hfzz3_1⟩ := zqC2_ BK166.out))
 ·go_ret2
  exact ⟨by first | rfl | (simp [errW_none, errW_some] <;> rfl) | (simp [*, errW_none, errW_some] <;> rfl), by repeat (first | (with_reducible first | exact HB.out | apply below_alloc | apply pw_below_drewN | apply below_drew1 | refine below_set ?_ GEz1.out) | exact HB.out)⟩
 ·go_ret2
  exact ⟨by first | rfl | (simp [errW_none, errW_some] <;> rfl) | (simp [*, errW_none, errW_some] <;> rfl), by repeat (first | (with_reducible first | exact HB.out | apply below_alloc | apply pw_below_drewN | apply below_drew1 | refine below_set ?_ GEz1.out) | exact HB.out)⟩
 ·go_ret2
  exact ⟨by first | rfl | (simp [errW_none, errW_some] <;> rfl) | (simp [*, errW_none, errW_some] <;> rfl), by repeat (first | (with_reducible first | exact HB.out | apply below_alloc | apply pw_below_drewN | apply below_drew1 | refine below_set ?_ GEz1.out) | exact HB.out)⟩

/-! ### change_stamp: function 37 -/
def change_stamp.f (a0_0 : Int) (a0_1 : Int) (a1 : Bool) : Option (ByteArray) := if a1 = true then (if (a0_0 == 0 && (a0_1 == 0)) = true then (some (⟨#[45]⟩ : ByteArray)) else ((ident_Text.f a0_0 a0_1).bind fun bt171 => (some bt171.1))) else ((ident_Text.f a0_0 a0_1).bind fun bt173 => (some bt173.1))
set_option maxHeartbeats 8000000 in
set_option maxRecDepth 100000 in
theorem change_stamp.calls (a0_0 : Int) (a0_1 : Int) (a1 : Bool) (r : ByteArray) (w : World) (htab : TabW_ w) (h : change_stamp.f a0_0 a0_1 a1 = some r) :
  Calls Tryz.prog 37 #[.agg #[.int .i64 a0_0, .int .i64 a0_1], .bool a1] w fun e w' => e = .returned (.string r) ∧ Below w.heap.size w w' := by
 have HTAB := Aside0.mk htab
 clear htab
 have hu23 := Tryz.underlying23
 have HB := Aside0.mk (Below.refl w.heap.size w)
 have H : (if a1 = true then (if (a0_0 == 0 && (a0_1 == 0)) = true then (some (⟨#[45]⟩ : ByteArray)) else ((ident_Text.f a0_0 a0_1).bind fun bt171 => (some bt171.1))) else ((ident_Text.f a0_0 a0_1).bind fun bt173 => (some bt173.1))) = some r := h
 clear h
 by_cases c3 : a1 = true
 focus
  subst c3
  have H1 : (if (a0_0 == 0 && (a0_1 == 0)) = true then (some (⟨#[45]⟩ : ByteArray)) else ((ident_Text.f a0_0 a0_1).bind fun bt171 => (some bt171.1))) = some r := by rw [if_pos rfl] at H; exact H
  clear H
  have H := H1
  clear H1
  by_cases c4 : (a0_0 == 0 && (a0_1 == 0)) = true
  focus
   rw [if_pos c4] at H
   have c4b0 : (a0_0 == 0 && (a0_1 == 0)) = true := c4
   (try (have c4b1 : decide (a0_0 = 0 && (a0_1 == 0)) = true := by simpa using c4))
   (try (have c4b2 : (a0_0 == 0 && (a0_1 == 0)) = true := by simpa using c4))
   clear c4
   obtain rfl := Option.some.inj H
   have zqm0_ := True.intro
  rotate_right
  focus
   rw [if_neg c4] at H
   have c4b0 : (a0_0 == 0 && (a0_1 == 0)) = false := by simpa using c4
   (try (have c4b1 : decide (a0_0 = 0 && (a0_1 == 0)) = false := by simpa using c4))
   (try (have c4b2 : (a0_0 == 0 && (a0_1 == 0)) = false := by simpa using c4))
   (try (have c4b3 : ¬ (a0_0 = 0 && (a0_1 == 0)) := by simpa using c4))
   clear c4
   replace H := Option.bind_eq_some_iff.mp H
   obtain ⟨⟨t171, t172⟩, A70, H⟩ := H
   replace H : (some t171) = some r := H
   have A7 := Aside0.mk A70
   clear A70
   obtain rfl := Option.some.inj H
 rotate_right
 focus
  replace c3 := Bool.eq_false_iff.mpr c3
  subst c3
  have H1 : ((ident_Text.f a0_0 a0_1).bind fun bt173 => (some bt173.1)) = some r := by rw [if_neg (show ¬ (false = true) by decide)] at H; exact H
  clear H
  have H := H1
  clear H1
  replace H := Option.bind_eq_some_iff.mp H
  obtain ⟨⟨t173, t174⟩, A110, H⟩ := H
  replace H : (some t173) = some r := H
  have A11 := Aside0.mk A110
  clear A110
  obtain rfl := Option.some.inj H
  have zqm0_ := True.intro
 all_goals (try (clear zqm0_; go_enter Tryz.func37, Tryz.ntmps37; go_wp2_with (first | ((with_reducible refine gate_dst (N := 2) rfl ?_); refine box_event ?hg (N := 2) ?hd (cs := #[.int .i64 a0_0, .int .i64 a0_1]) (t := 23) ?hr ?_; (case hd => rfl); (case hg => rfl); (case hr => first | (go_simp; done) | (go_simp; rfl)); intro gbz1 hg wz1 hbox hb; have BKz1 := Aside0.mk (hbox); have GWz1 := Aside0.mk ((zq7_ : w.heap.size ≤ gbz1)); have GEz1 := Aside0.mk ((zq7_ : w.heap.size ≤ gbz1)); replace HB := Aside0.mk (below_step zq0_ hb); clear hb hbox hg; obtain ⟨hczz2_0, hfzz2_0, hczz2_1, hfzz2_1⟩ := zqC2_ BKz1.out) | ((with_reducible refine gate_callee (f := 68) rfl ?_); refine zqG_ (some 15) rfl Tryz.func68 #[.agg #[.int .i64 a0_0, .int .i64 a0_1]] rfl ?_; (with_reducible refine (ident_Text.calls a0_0 a0_1 t173 t174 _ (tabW_below_ HTAB.out (zqB1_ GEz1.out)) A11.out).mono ?_); rintro e wz2 ⟨rfl, hb⟩; refine ⟨_, rfl, ?_⟩; replace BKz1 := Aside0.mk (blk_below (zqK_ BKz1.out) hb); replace HB := Aside0.mk (below_step (zqB1_ GEz1.out) hb); (try clear hb); (try clear hb2); (try clear hk); (try clear hi)))))
 ·go_ret
  exact ⟨by first | rfl | (simp [errW_none, errW_some] <;> rfl) | (simp [*, errW_none, errW_some] <;> rfl), by repeat (first | (with_reducible first | exact HB.out | apply below_alloc | apply pw_below_drewN | apply below_drew1 | refine below_set ?_ GEz1.out) | exact HB.out)⟩
 ·go_enter Tryz.func37, Tryz.ntmps37
  go_wp2_with (first | ((with_reducible refine gate_dst (N := 2) rfl ?_); refine box_event ?hg (N := 2) ?hd (cs := #[.int .i64 a0_0, .int .i64 a0_1]) (t := 23) ?hr ?_; (case hd => rfl); (case hg => rfl); (case hr => first | (go_simp; done) | (go_simp; rfl)); intro gbz1 hg wz1 hbox hb; have BKz1 := Aside0.mk (hbox); have GWz1 := Aside0.mk ((zq7_ : w.heap.size ≤ gbz1)); have GEz1 := Aside0.mk ((zq7_ : w.heap.size ≤ gbz1)); replace HB := Aside0.mk (below_step zq0_ hb); clear hb hbox hg; obtain ⟨hczz2_0, hfzz2_0, hczz2_1, hfzz2_1⟩ := zqC2_ BKz1.out) | ((with_reducible refine gate_callee (f := 68) rfl ?_); refine zqG_ (some 15) rfl Tryz.func68 #[.agg #[.int .i64 a0_0, .int .i64 a0_1]] rfl ?_; (with_reducible refine (ident_Text.calls a0_0 a0_1 t171 t172 _ (tabW_below_ HTAB.out (zqB1_ GEz1.out)) A7.out).mono ?_); rintro e wz2 ⟨rfl, hb⟩; refine ⟨_, rfl, ?_⟩; replace BKz1 := Aside0.mk (blk_below (zqK_ BKz1.out) hb); replace HB := Aside0.mk (below_step (zqB1_ GEz1.out) hb); (try clear hb); (try clear hb2); (try clear hk); (try clear hi)))
  go_ret
  exact ⟨by first | rfl | (simp [errW_none, errW_some] <;> rfl) | (simp [*, errW_none, errW_some] <;> rfl), by repeat (first | (with_reducible first | exact HB.out | apply below_alloc | apply pw_below_drewN | apply below_drew1 | refine below_set ?_ GEz1.out) | exact HB.out)⟩
 ·go_ret
  exact ⟨by first | rfl | (simp [errW_none, errW_some] <;> rfl) | (simp [*, errW_none, errW_some] <;> rfl), by repeat (first | (with_reducible first | exact HB.out | apply below_alloc | apply pw_below_drewN | apply below_drew1 | refine below_set ?_ GEz1.out) | exact HB.out)⟩

/-! ### change_plain: function 70 -/
def change_plain.f (a0 : Int) : Option (Bool) := if a0 ≥ 32 then (if a0 ≤ 126 then (if a0 = 34 then (some false) else (some (a0 != 92))) else (some false)) else (some false)
set_option maxHeartbeats 8000000 in
set_option maxRecDepth 100000 in
theorem change_plain.calls (a0 : Int) (r : Bool) (w : World) (h : change_plain.f a0 = some r) :
  Calls Tryz.prog 70 #[.int .u8 a0] w fun e w' => e = .returned (.bool r) ∧ Drawn0 w w' := by
 have H : (if a0 ≥ 32 then (if a0 ≤ 126 then (if a0 = 34 then (some false) else (some (a0 != 92))) else (some false)) else (some false)) = some r := h
 clear h
 by_cases c2 : a0 ≥ 32
 ·rw [if_pos c2] at H
  have c2b0 : decide (32 ≤ a0) = true := decide_eq_true c2
  clear c2
  by_cases c3 : a0 ≤ 126
  ·rw [if_pos c3] at H
   have c3b0 : decide (a0 ≤ 126) = true := decide_eq_true c3
   clear c3
   by_cases c4 : a0 = 34
   ·rw [if_pos c4] at H
    have c4b0 : (a0 == 34) = true := beq_iff_eq.mpr c4
    have c4b1 : (a0 != 34) = false := bne_eq_false_iff_eq.mpr c4
    clear c4
    obtain rfl := Option.some.inj H
    go_enter Tryz.func70, Tryz.ntmps70
    go_wp2
    go_ret
    exact ⟨by first | rfl | (simp; done) | (simp [*]; done), by repeat (first | exact Drawn0.refl _ | apply Drawn0.step)⟩
   ·rw [if_neg c4] at H
    have c4b0 : (a0 == 34) = false := beq_eq_false_iff_ne.mpr c4
    have c4b1 : (a0 != 34) = true := bne_iff_ne.mpr c4
    obtain rfl := Option.some.inj H
    go_enter Tryz.func70, Tryz.ntmps70
    go_wp2
    go_ret
    exact ⟨by first | rfl | (simp; done) | (simp [*]; done), by repeat (first | exact Drawn0.refl _ | apply Drawn0.step)⟩
  ·rw [if_neg c3] at H
   have c3b0 : decide (a0 ≤ 126) = false := decide_eq_false c3
   clear c3
   obtain rfl := Option.some.inj H
   go_enter Tryz.func70, Tryz.ntmps70
   go_wp2
   go_ret
   exact ⟨by first | rfl | (simp; done) | (simp [*]; done), by repeat (first | exact Drawn0.refl _ | apply Drawn0.step)⟩
 ·rw [if_neg c2] at H
  have c2b0 : decide (32 ≤ a0) = false := decide_eq_false c2
  clear c2
  obtain rfl := Option.some.inj H
  go_enter Tryz.func70, Tryz.ntmps70
  go_wp2
  go_ret
  exact ⟨by first | rfl | (simp; done) | (simp [*]; done), by repeat (first | exact Drawn0.refl _ | apply Drawn0.step)⟩

/-! ### change_Quote: function 39 (by hand) -/
/-- Of this statement's calls none quotes a text: nothing is told of the function. -/
def change_Quote.f (k : Nat) (a0 : ByteArray) : Option (ByteArray) := none
theorem change_Quote.mono : ∀ a0 k, LeO (change_Quote.f k a0) (change_Quote.f (k + 1) a0) := fun _ _ => LeO.refl _
theorem change_Quote.calls (k : Nat) (a0 : ByteArray) (r : ByteArray) (w : World) (h : change_Quote.f k a0 = some r) :
  Calls Tryz.prog 39 #[.string a0] w fun e w' => e = .returned (.string r) ∧ Below w.heap.size w w' := by
 cases h


end Go.Proofs.YtgoolgmcbnikkaaGreatDoor.QChangeSames
