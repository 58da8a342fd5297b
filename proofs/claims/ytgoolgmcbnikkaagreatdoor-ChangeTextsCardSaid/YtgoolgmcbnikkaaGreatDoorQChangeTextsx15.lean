-- Own text of this seat, laid by the session's program ownprint.py (wip/tools). Lean checks it.
import Derived.Test.YtgoolgmcbnikkaaGreatDoorQChangeTextsx0
import Derived.Test.YtgoolgmcbnikkaaGreatDoorQChangeTextsx12
namespace Go.Proofs.YtgoolgmcbnikkaaGreatDoor.QChangeTexts
open Go.RowKit Go.Proofs.YtgoolgmcbnikkaaGreatDoorW.PrintWords Go.Proofs.YtgoolgmcbnikkaaGreatDoorW.PrintLast Go.Proofs.YtgoolgmcbnikkaaGreatDoorW.PrintMore
attribute [local go_sem] max2_int min2_int max_two min_two max_three min_three max_four min_four   -- for this text's walks alone
set_option linter.unusedVariables false
set_option linter.unusedSimpArgs false

/-! ### topiaryref01_Digits: function 43 -/
def topiaryref01_Digits.l0 : Nat → Int → ByteArray → Option (ByteArray)
 | 0, _, _ => none
 | k + 1, x0, x3 => if x0 > 9 then ((some (([(wrap64 (48 + (Int.tmod (wrap64 (Int.tdiv x0 10)) 10))) % 256] : List Int) : List Int)).bind fun y340 => (if (strOfNums y340).size + x3.size ≤ 9223372036854775807 then (topiaryref01_Digits.l0 k (wrap64 (Int.tdiv x0 10)) ((strOfNums y340) ++ x3)) else (none))) else (some x3)
def topiaryref01_Digits.f (k : Nat) (a0 : Int) : Option (ByteArray) := topiaryref01_Digits.l0 k a0 (strOfNums (([(wrap64 (48 + (Int.tmod a0 10))) % 256] : List Int)))
theorem topiaryref01_Digits.mono_l : ∀ k, (∀ y0 y1, LeO (topiaryref01_Digits.l0 k y0 y1) (topiaryref01_Digits.l0 (k + 1) y0 y1))
 | 0 => fun _ _ r h => by simp [topiaryref01_Digits.l0] at h
 | k + 1 => by
  have ih0 := topiaryref01_Digits.mono_l k
  ·intro y0 y1
   unfold topiaryref01_Digits.l0
   repeat' first
   | (with_reducible exact ih0 _ _)
   | (with_reducible exact LeO.refl _)
   | (with_reducible exact LeO.none _)
   | (with_reducible refine LeO.ite ?_ ?_)
   | (with_reducible refine LeO.bind ?_ (fun _ => ?_))
   | exact ih0 _ _
   | exact LeO.none _
   | refine LeO.ite ?_ ?_
   | refine LeO.bind ?_ (fun _ => ?_)
theorem topiaryref01_Digits.mono : ∀ a0 k, LeO (topiaryref01_Digits.f k a0) (topiaryref01_Digits.f (k + 1) a0) := by
 intro a0 k
 have ih0 := topiaryref01_Digits.mono_l k
 unfold topiaryref01_Digits.f
 repeat' first
   | (with_reducible exact ih0 _ _)
   | (with_reducible exact LeO.refl _)
   | (with_reducible exact LeO.none _)
   | (with_reducible refine LeO.ite ?_ ?_)
   | (with_reducible refine LeO.bind ?_ (fun _ => ?_))
   | exact ih0 _ _
   | exact LeO.none _
   | refine LeO.ite ?_ ?_
   | refine LeO.bind ?_ (fun _ => ?_)
set_option maxHeartbeats 8000000 in
set_option maxRecDepth 100000 in
theorem topiaryref01_Digits.calls (k : Nat) (a0 : Int) (r : ByteArray) (w : World) (h : topiaryref01_Digits.f k a0 = some r) :
  Calls Tryz.prog 43 #[.int .i64 a0] w fun e w' => e = .returned (.string r) ∧ Below w.heap.size w w' := by
 have HB := Aside0.mk (Below.refl w.heap.size w)
 have H : (topiaryref01_Digits.l0 k a0 (strOfNums (([(wrap64 (48 + (Int.tmod a0 10))) % 256] : List Int)))) = some r := h
 clear h
 obtain ⟨y337, hy337⟩ : ∃ y_ : List Int, y_ = (([(wrap64 (48 + (Int.tmod a0 10))) % 256] : List Int)) := ⟨_, rfl⟩
 replace H : (topiaryref01_Digits.l0 k a0 (strOfNums y337)) = some r := by first | (rw [hy337]; with_reducible exact H) | (have H2_ := (Option.bind_some _ _).symm.trans H; rw [hy337]; with_reducible exact H2_) | (have H2_ := (Option.bind_some _ _).symm.trans H; with_reducible exact H2_) | with_reducible exact H | (rw [hy337]; exact H) | exact H
 have Ny337 := Aside0.mk hy337
 clear hy337
 have H' := Aside0.mk H
 clear H
 go_enter Tryz.func43, Tryz.ntmps43
 go_wp2_with (first | ((with_reducible refine gate_dst (N := 8) rfl ?_); refine Kd.R_lit (Kd.int .u8) _ 5 ?hg (N := 8) ?hd (xs := ([(wrap64 (48 + (Int.tmod a0 10))) % 256] : List Int)) (inner := [.int .u8 ((wrap64 (48 + (Int.tmod a0 10))) % 256)]) (ok := fun _ => True) (okp := fun _ => True) ?hr ?hp (fun _ hk => hk) trivial (Below.refl _ _) (Nat.le_refl _) (by simp) ?_; (case hd => rfl); (case hg => rfl); (case hr => first | (go_simp; done) | (go_simp; rfl)); (case hp => exact (Reps.one (show Kd.M (Kd.int .u8) _ _ _ ((wrap64 (48 + (Int.tmod a0 10))) % 256) [.int .u8 ((wrap64 (48 + (Int.tmod a0 10))) % 256)] from rfl) (Reps.none _ _))); intro v338 w2 ho3 hb hg_ hnew_; clear hg_ hnew_; (first | rw [← Ny337.out] at ho3 | (simp only [Int.reduceToNat] at ho3; rw [← Ny337.out] at ho3)); have HO339 := Aside0.mk (Kd.R_lower ho3 (below_size zq0_)); replace HB := Aside0.mk (below_step zq0_ hb); clear hb ho3; have hcv4 := own_string (P := Tryz.prog) Tryz.underlying74 Tryz.underlying5 Tryz.underlying9 (Kd.own_of_R HO339.out)))
 go_loopg [0, 3] k (fun kq v0 v3 w' => ∃ (x0_1 : Int) (x3_1 : ByteArray), v0 = .int .i64 x0_1 ∧ v3 = .string x3_1 ∧ Aside0 (topiaryref01_Digits.l0 kq x0_1 x3_1 = some r) ∧ Aside0 (kq ≤ k) ∧ Aside0 (Below w.heap.size w w'))
 case atStart => exact ⟨(a0), (strOfNums y337), zq5_, zq5_, H', ⟨Nat.le_refl _⟩, ⟨by repeat (first | (with_reducible first | exact HB.out | apply below_alloc | apply pw_below_drewN | apply below_drew1) | exact HB.out)⟩⟩
 case round =>
  clear H'
  try clear p2
  try clear c4
  try clear hcv4
  obtain ⟨x0_1, x3_1, rfl, rfl, HA, HK1, HB⟩ := hrel
  cases gk with
  | zero => exact absurd HA.out (by simp [topiaryref01_Digits.l0])
  | succ k1 =>
   have H := HA.out
   clear HA
   simp only [topiaryref01_Digits.l0] at H
   by_cases c5 : x0_1 > 9
   ·rw [if_pos c5] at H
    have c5b0 : decide (9 < x0_1) = true := decide_eq_true c5
    clear c5
    obtain ⟨y340, hy340⟩ : ∃ y_ : List Int, y_ = (([(wrap64 (48 + (Int.tmod (wrap64 (Int.tdiv x0_1 10)) 10))) % 256] : List Int)) := ⟨_, rfl⟩
    replace H : (if (strOfNums y340).size + x3_1.size ≤ 9223372036854775807 then (topiaryref01_Digits.l0 k1 (wrap64 (Int.tdiv x0_1 10)) ((strOfNums y340) ++ x3_1)) else (none)) = some r := by first | (rw [hy340]; with_reducible exact H) | (have H2_ := (Option.bind_some _ _).symm.trans H; rw [hy340]; with_reducible exact H2_) | (have H2_ := (Option.bind_some _ _).symm.trans H; with_reducible exact H2_) | with_reducible exact H | (rw [hy340]; exact H) | exact H
    have Ny340 := Aside0.mk hy340
    clear hy340
    by_cases c6 : (strOfNums y340).size + x3_1.size ≤ 9223372036854775807
    ·rw [if_pos c6] at H
     have c6b0 := eq_true c6
     have c6b1 : decide ((strOfNums y340).size + x3_1.size ≤ 9223372036854775807) = true := decide_eq_true c6
     try have c6b2 : (9223372036854775807 < (strOfNums y340).size + x3_1.size) = False := eq_false (Nat.not_lt.2 c6)
     have H' := Aside0.mk H
     clear H
     go_wp2_with (first | ((with_reducible refine gate_dst (N := 18) rfl ?_); refine Kd.R_lit (Kd.int .u8) _ 5 ?hg (N := 18) ?hd (xs := ([(wrap64 (48 + (Int.tmod (wrap64 (Int.tdiv x0_1 10)) 10))) % 256] : List Int)) (inner := [.int .u8 ((wrap64 (48 + (Int.tmod (wrap64 (Int.tdiv x0_1 10)) 10))) % 256)]) (ok := fun _ => True) (okp := fun _ => True) ?hr ?hp (fun _ hk => hk) trivial (Below.refl _ _) (Nat.le_refl _) (by simp) ?_; (case hd => rfl); (case hg => rfl); (case hr => first | (go_simp; done) | (go_simp; rfl)); (case hp => exact (Reps.one (show Kd.M (Kd.int .u8) _ _ _ ((wrap64 (48 + (Int.tmod (wrap64 (Int.tdiv x0_1 10)) 10))) % 256) [.int .u8 ((wrap64 (48 + (Int.tmod (wrap64 (Int.tdiv x0_1 10)) 10))) % 256)] from rfl) (Reps.none _ _))); intro v341 w7 ho8 hb hg_ hnew_; clear hg_ hnew_; (first | rw [← Ny340.out] at ho8 | (simp only [Int.reduceToNat] at ho8; rw [← Ny340.out] at ho8)); have HO342 := Aside0.mk (Kd.R_lower ho8 (below_size zq0_)); replace HB := Aside0.mk (below_step zq0_ hb); clear hb ho8; have hcv9 := own_string (P := Tryz.prog) Tryz.underlying74 Tryz.underlying5 Tryz.underlying9 (Kd.own_of_R HO342.out)))
     go_roundg k1
     case measure => have := HK1.out; omega
     case rel => exact ⟨(wrap64 (Int.tdiv x0_1 10)), ((strOfNums y340) ++ x3_1), zq5_, zq5_, H', ⟨by have := HK1.out; omega⟩, ⟨by repeat (first | (with_reducible first | exact HB.out | apply below_alloc | apply pw_below_drewN | apply below_drew1) | exact HB.out)⟩⟩
    ·rw [if_neg c6] at H
     exact absurd H (by simp)
   ·rw [if_neg c5] at H
    have c5b0 : decide (9 < x0_1) = false := decide_eq_false c5
    clear c5
    obtain rfl := Option.some.inj H
    go_wp2
    go_ret
    exact ⟨by first | rfl | (simp [errW_none, errW_some] <;> rfl) | (simp [*, errW_none, errW_some] <;> rfl), by repeat (first | (with_reducible first | exact HB.out | apply below_alloc | apply pw_below_drewN | apply below_drew1) | exact HB.out)⟩

/-! ### topiaryref02_Text: function 41 -/
def topiaryref02_Text.l0 : Nat → List Int → ByteArray → Int → Option (ByteArray × Int)
 | 0, _, _, _ => none
 | k + 1, x4, x5, x6 => if x6 < (x4.length : Int) then (if x6 > 0 then (if x5.size + 1 ≤ 9223372036854775807 then (if 0 ≤ x6 then ((topiaryref01_Digits.f k (rd x4 x6)).bind fun t349 => (if (x5 ++ (⟨#[44]⟩ : ByteArray)).size + t349.size ≤ 9223372036854775807 then (topiaryref02_Text.l0 k x4 ((x5 ++ (⟨#[44]⟩ : ByteArray)) ++ t349) (wrap64 (x6 + 1))) else (none))) else (none)) else (none)) else (if 0 ≤ x6 then ((topiaryref01_Digits.f k (rd x4 x6)).bind fun t351 => (if x5.size + t351.size ≤ 9223372036854775807 then (topiaryref02_Text.l0 k x4 (x5 ++ t351) (wrap64 (x6 + 1))) else (none))) else (none))) else (if x5.toList = ([] : List UInt8) then (some ((⟨#[45]⟩ : ByteArray), 0)) else (some (x5, 0)))
def topiaryref02_Text.f (k : Nat) (l0 : List Int) : Option (ByteArray × Int) := (topiaryref02_Check.f k l0).bind fun t343 => (if t343 = 0 then ((topiaryref02_Trim.f k l0).bind fun t345 => (topiaryref02_Text.l0 k t345 (⟨#[]⟩ : ByteArray) 0)) else ((topiaryref02_Check.f k l0).bind fun t344 => (some ((⟨#[]⟩ : ByteArray), t344))))
theorem topiaryref02_Text.mono_l : ∀ k, (∀ y0 y1 y2, LeO (topiaryref02_Text.l0 k y0 y1 y2) (topiaryref02_Text.l0 (k + 1) y0 y1 y2))
 | 0 => fun _ _ _ r h => by simp [topiaryref02_Text.l0] at h
 | k + 1 => by
  have ih0 := topiaryref02_Text.mono_l k
  ·intro y0 y1 y2
   unfold topiaryref02_Text.l0
   repeat' first
   | (with_reducible exact ih0 _ _ _)
   | (with_reducible exact topiaryref01_Digits.mono _ _)
   | (with_reducible exact topiaryref02_Check.mono _ _)
   | (with_reducible exact topiaryref02_Trim.mono _ _)
   | (with_reducible exact LeO.refl _)
   | (with_reducible exact LeO.none _)
   | (with_reducible refine LeO.ite ?_ ?_)
   | (with_reducible refine LeO.bind ?_ (fun _ => ?_))
   | exact ih0 _ _ _
   | exact topiaryref01_Digits.mono _ _
   | exact topiaryref02_Check.mono _ _
   | exact topiaryref02_Trim.mono _ _
   | exact LeO.none _
   | refine LeO.ite ?_ ?_
   | refine LeO.bind ?_ (fun _ => ?_)
theorem topiaryref02_Text.mono : ∀ a0 k, LeO (topiaryref02_Text.f k a0) (topiaryref02_Text.f (k + 1) a0) := by
 intro a0 k
 have ih0 := topiaryref02_Text.mono_l k
 unfold topiaryref02_Text.f
 repeat' first
   | (with_reducible exact ih0 _ _ _)
   | (with_reducible exact topiaryref01_Digits.mono _ _)
   | (with_reducible exact topiaryref02_Check.mono _ _)
   | (with_reducible exact topiaryref02_Trim.mono _ _)
   | (with_reducible exact LeO.refl _)
   | (with_reducible exact LeO.none _)
   | (with_reducible refine LeO.ite ?_ ?_)
   | (with_reducible refine LeO.bind ?_ (fun _ => ?_))
   | exact ih0 _ _ _
   | exact topiaryref01_Digits.mono _ _
   | exact topiaryref02_Check.mono _ _
   | exact topiaryref02_Trim.mono _ _
   | exact LeO.none _
   | refine LeO.ite ?_ ?_
   | refine LeO.bind ?_ (fun _ => ?_)
set_option maxHeartbeats 8000000 in
set_option maxRecDepth 100000 in
theorem topiaryref02_Text.calls (k : Nat) (A0 : Option Addr) (c0 : Nat) (l0 : List Int) (r1 : ByteArray) (r2 : Int) (w : World) (hr0 : Kd.C (Kd.int .i64) w A0 l0.length l0) (hc0 : l0.length ≤ c0) (h : topiaryref02_Text.f k l0 = some (r1, r2)) :
  Calls Tryz.prog 41 #[.slice A0 l0.length c0] w fun e w' => e = .returned (.tuple #[.string r1, .int .i64 r2]) ∧ Below w.heap.size w w' := by
 have HR0 := Aside0.mk hr0
 have HC0 := Aside0.mk hc0
 clear hr0 hc0
 have HB := Aside0.mk (Below.refl w.heap.size w)
 have H : ((topiaryref02_Check.f k l0).bind fun t343 => (if t343 = 0 then ((topiaryref02_Trim.f k l0).bind fun t345 => (topiaryref02_Text.l0 k t345 (⟨#[]⟩ : ByteArray) 0)) else ((topiaryref02_Check.f k l0).bind fun t344 => (some ((⟨#[]⟩ : ByteArray), t344))))) = some (r1, r2) := h
 clear h
 replace H := Option.bind_eq_some_iff.mp H
 obtain ⟨t343, A20, H⟩ := H
 have A2 := Aside0.mk A20
 clear A20
 by_cases c3 : t343 = 0
 ·rw [if_pos c3] at H
  have c3b0 : (t343 == 0) = true := beq_iff_eq.mpr c3
  have c3b1 : (t343 != 0) = false := bne_eq_false_iff_eq.mpr c3
  clear c3
  replace H := Option.bind_eq_some_iff.mp H
  obtain ⟨t345, A40, H⟩ := H
  have A4 := Aside0.mk A40
  clear A40
  have H' := Aside0.mk H
  clear H
  go_enter Tryz.func41, Tryz.ntmps41
  go_wp2_with (first | ((with_reducible refine gate_callee (f := 31) rfl ?_); refine zqG_ (some 8) rfl Tryz.func31 #[.slice A0 l0.length c0] rfl ?_; (with_reducible refine (topiaryref02_Check.calls k _ _ l0 t343 _ ?side1 ?side2 A2.out).mono ?_); (case side1 => repeat (first | exact HR0.out | (with_reducible refine Kd.C_alloc ?_ _) | (with_reducible refine Kd.C_drewN ?_ _) | (with_reducible refine Kd.C_drew ?_))); (case side2 => exact HC0.out); rintro e w' ⟨rfl, ⟨nd, rfl⟩⟩; refine ⟨_, rfl, ?_⟩) | ((with_reducible refine gate_callee (f := 32) rfl ?_); refine zqG_ (some 13) rfl Tryz.func32 #[.slice A0 l0.length c0] rfl ?_; (with_reducible refine (topiaryref02_Trim.calls k _ _ l0 t345 _ ?side1 ?side2 A4.out).mono ?_); (case side1 => repeat (first | exact HR0.out | (with_reducible refine Kd.C_alloc ?_ _) | (with_reducible refine Kd.C_drewN ?_ _) | (with_reducible refine Kd.C_drew ?_))); (case side2 => exact HC0.out); rintro e w5 ⟨v346, rfl, ho0, hb⟩; refine ⟨_, rfl, ?_⟩; have HO347 := Aside0.mk (Kd.R_lower ho0 (below_size zq0_)); replace HB := Aside0.mk (below_step zq0_ hb); (try clear hb); (try clear hb2); (try clear hk); (try clear hi); (try clear ho0)))
  go_loopg [5, 6] k (fun kq v5 v6 w' => ∃ (x5_1 : ByteArray) (x6_1 : Int), v5 = .string x5_1 ∧ v6 = .int .i64 x6_1 ∧ Aside0 (topiaryref02_Text.l0 kq t345 x5_1 x6_1 = some (r1, r2)) ∧ Aside0 (kq ≤ k) ∧ Aside0 (Kd.R (Kd.int .i64) 3 w' w.heap.size (fun _ => True) v346 t345) ∧ Aside0 (Below w.heap.size w w'))
  case atStart => exact ⟨((⟨#[]⟩ : ByteArray)), (0), zq5_, zq5_, H', ⟨Nat.le_refl _⟩, ⟨by (with_reducible repeat (first | apply Kd.R_alloc | apply Kd.R_drewN | apply Kd.R_drew)); exact HO347.out⟩, ⟨by repeat (first | (with_reducible first | exact HB.out | apply below_alloc | apply pw_below_drewN | apply below_drew1) | exact HB.out)⟩⟩
  case round =>
   clear H'
   try clear p2
   try clear c3
   try clear c3b0
   try clear c3b1
   try clear c4
   obtain ⟨x5_1, x6_1, rfl, rfl, HA, HK1, HO_4, HB⟩ := hrel
   cases gk with
   | zero => exact absurd HA.out (by simp [topiaryref02_Text.l0])
   | succ k1 =>
    have H := HA.out
    clear HA
    simp only [topiaryref02_Text.l0] at H
    by_cases c6 : x6_1 < (t345.length : Int)
    ·rw [if_pos c6] at H
     have c6b0 : decide (x6_1 < (t345.length : Int)) = true := decide_eq_true c6
     clear c6
     by_cases c7 : x6_1 > 0
     ·rw [if_pos c7] at H
      have c7b0 : decide (0 < x6_1) = true := decide_eq_true c7
      clear c7
      by_cases c8 : x5_1.size + 1 ≤ 9223372036854775807
      ·rw [if_pos c8] at H
       have c8b0 := eq_true c8
       have c8b1 : decide (x5_1.size + 1 ≤ 9223372036854775807) = true := decide_eq_true c8
       try have c8b2 : (9223372036854775807 < x5_1.size + 1) = False := eq_false (Nat.not_lt.2 c8)
       by_cases c9 : 0 ≤ x6_1
       ·rw [if_pos c9] at H
        have c9b0 : decide (0 ≤ x6_1) = true := decide_eq_true c9
        clear c9
        replace H := Option.bind_eq_some_iff.mp H
        obtain ⟨t349, A100, H⟩ := H
        have A10 := Aside0.mk A100
        clear A100
        by_cases c11 : (x5_1 ++ (⟨#[44]⟩ : ByteArray)).size + t349.size ≤ 9223372036854775807
        ·rw [if_pos c11] at H
         have c11b0 := eq_true c11
         have c11b1 : decide ((x5_1 ++ (⟨#[44]⟩ : ByteArray)).size + t349.size ≤ 9223372036854775807) = true := decide_eq_true c11
         try have c11b2 : (9223372036854775807 < (x5_1 ++ (⟨#[44]⟩ : ByteArray)).size + t349.size) = False := eq_false (Nat.not_lt.2 c11)
         try have c11b3 : (9223372036854775807 < x5_1.size + 1 + t349.size) = False := eq_false (Nat.not_lt.2 (by have h_ := c11; (try simp only [ByteArray.size_append] at h_); exact h_))
         have H' := Aside0.mk H
         clear H
         obtain ⟨Ao12, co12, eo12⟩ := Kd.R_slice HO_4.out
         subst eo12
         have p348 : 0 ≤ (x6_1 : Int) := of_decide_eq_true zq2_
         have q348 : x6_1 < (t345.length : Int) := of_decide_eq_true zq2_
         obtain ⟨ad348, e348, hx348_0⟩ := Kd.at_int (Kd.R_reads' HO_4.out).2.2 x6_1 p348 q348
         cases e348
         replace p348 := eq_true p348
         replace q348 := eq_true q348
         go_wp2_with (first | ((with_reducible refine gate_callee (f := 43) rfl ?_); refine zqG_ (some 29) rfl Tryz.func43 #[.int .i64 (rd t345 x6_1)] rfl ?_; (with_reducible refine (topiaryref01_Digits.calls k1 (rd t345 x6_1) t349 _ A10.out).mono ?_); rintro e w13 ⟨rfl, hb⟩; refine ⟨_, rfl, ?_⟩; replace HO_4 := Aside0.mk (Kd.R_below (by (with_reducible repeat (first | apply Kd.R_alloc | apply Kd.R_drewN | apply Kd.R_drew)); exact HO_4.out) hb); replace HB := Aside0.mk (below_step zq0_ hb); (try clear hb); (try clear hb2); (try clear hk); (try clear hi)))
         go_roundg k1
         case measure => have := HK1.out; omega
         case rel => exact ⟨((x5_1 ++ (⟨#[44]⟩ : ByteArray)) ++ t349), (wrap64 (x6_1 + 1)), zq5_, zq5_, H', ⟨by have := HK1.out; omega⟩, ⟨by (with_reducible repeat (first | apply Kd.R_alloc | apply Kd.R_drewN | apply Kd.R_drew)); exact HO_4.out⟩, ⟨by repeat (first | (with_reducible first | exact HB.out | apply below_alloc | apply pw_below_drewN | apply below_drew1) | exact HB.out)⟩⟩
        ·rw [if_neg c11] at H
         exact absurd H (by simp)
       ·rw [if_neg c9] at H
        exact absurd H (by simp)
      ·rw [if_neg c8] at H
       exact absurd H (by simp)
     ·rw [if_neg c7] at H
      have c7b0 : decide (0 < x6_1) = false := decide_eq_false c7
      clear c7
      by_cases c14 : 0 ≤ x6_1
      ·rw [if_pos c14] at H
       have c14b0 : decide (0 ≤ x6_1) = true := decide_eq_true c14
       clear c14
       replace H := Option.bind_eq_some_iff.mp H
       obtain ⟨t351, A150, H⟩ := H
       have A15 := Aside0.mk A150
       clear A150
       by_cases c16 : x5_1.size + t351.size ≤ 9223372036854775807
       ·rw [if_pos c16] at H
        have c16b0 := eq_true c16
        have c16b1 : decide (x5_1.size + t351.size ≤ 9223372036854775807) = true := decide_eq_true c16
        try have c16b2 : (9223372036854775807 < x5_1.size + t351.size) = False := eq_false (Nat.not_lt.2 c16)
        have H' := Aside0.mk H
        clear H
        obtain ⟨Ao17, co17, eo17⟩ := Kd.R_slice HO_4.out
        subst eo17
        have p350 : 0 ≤ (x6_1 : Int) := of_decide_eq_true zq2_
        have q350 : x6_1 < (t345.length : Int) := of_decide_eq_true zq2_
        obtain ⟨ad350, e350, hx350_0⟩ := Kd.at_int (Kd.R_reads' HO_4.out).2.2 x6_1 p350 q350
        cases e350
        replace p350 := eq_true p350
        replace q350 := eq_true q350
        go_wp2_with (first | ((with_reducible refine gate_callee (f := 43) rfl ?_); refine zqG_ (some 29) rfl Tryz.func43 #[.int .i64 (rd t345 x6_1)] rfl ?_; (with_reducible refine (topiaryref01_Digits.calls k1 (rd t345 x6_1) t351 _ A15.out).mono ?_); rintro e w18 ⟨rfl, hb⟩; refine ⟨_, rfl, ?_⟩; replace HO_4 := Aside0.mk (Kd.R_below (by (with_reducible repeat (first | apply Kd.R_alloc | apply Kd.R_drewN | apply Kd.R_drew)); exact HO_4.out) hb); replace HB := Aside0.mk (below_step zq0_ hb); (try clear hb); (try clear hb2); (try clear hk); (try clear hi)))
        go_roundg k1
        case measure => have := HK1.out; omega
        case rel => exact ⟨(x5_1 ++ t351), (wrap64 (x6_1 + 1)), zq5_, zq5_, H', ⟨by have := HK1.out; omega⟩, ⟨by (with_reducible repeat (first | apply Kd.R_alloc | apply Kd.R_drewN | apply Kd.R_drew)); exact HO_4.out⟩, ⟨by repeat (first | (with_reducible first | exact HB.out | apply below_alloc | apply pw_below_drewN | apply below_drew1) | exact HB.out)⟩⟩
       ·rw [if_neg c16] at H
        exact absurd H (by simp)
      ·rw [if_neg c14] at H
       exact absurd H (by simp)
    ·rw [if_neg c6] at H
     have c6b0 : decide (x6_1 < (t345.length : Int)) = false := decide_eq_false c6
     clear c6
     by_cases c19 : x5_1.toList = ([] : List UInt8)
     ·rw [if_pos c19] at H
      have c19b0 : (x5_1.toList == ([] : List UInt8)) = true := beq_iff_eq.mpr c19
      have c19b4 : x5_1.toList.isEmpty = true := List.isEmpty_iff.2 c19
      have c19b5 : (!x5_1.toList.isEmpty) = false := by rw [c19b4]; rfl
      have c19b1 : (x5_1.toList != ([] : List UInt8)) = false := bne_eq_false_iff_eq.mpr c19
      clear c19
      simp only [Option.some.injEq, Prod.mk.injEq] at H
      obtain ⟨rfl, rfl⟩ := H
      obtain ⟨Ao20, co20, eo20⟩ := Kd.R_slice HO_4.out
      subst eo20
      go_wp2
      go_ret2
      exact ⟨by first | rfl | (simp [errW_none, errW_some] <;> rfl) | (simp [*, errW_none, errW_some] <;> rfl), by repeat (first | (with_reducible first | exact HB.out | apply below_alloc | apply pw_below_drewN | apply below_drew1) | exact HB.out)⟩
     ·rw [if_neg c19] at H
      have c19b0 : (x5_1.toList == ([] : List UInt8)) = false := beq_eq_false_iff_ne.mpr c19
      have c19b4 : x5_1.toList.isEmpty = false := by rw [Bool.eq_false_iff]; intro h_; exact c19 (List.isEmpty_iff.1 h_)
      have c19b5 : (!x5_1.toList.isEmpty) = true := by rw [c19b4]; rfl
      have c19b1 : (x5_1.toList != ([] : List UInt8)) = true := bne_iff_ne.mpr c19
      simp only [Option.some.injEq, Prod.mk.injEq] at H
      obtain ⟨rfl, rfl⟩ := H
      obtain ⟨Ao21, co21, eo21⟩ := Kd.R_slice HO_4.out
      subst eo21
      go_wp2
      go_ret2
      exact ⟨by first | rfl | (simp [errW_none, errW_some] <;> rfl) | (simp [*, errW_none, errW_some] <;> rfl), by repeat (first | (with_reducible first | exact HB.out | apply below_alloc | apply pw_below_drewN | apply below_drew1) | exact HB.out)⟩
 ·rw [if_neg c3] at H
  have c3b0 : (t343 == 0) = false := beq_eq_false_iff_ne.mpr c3
  have c3b1 : (t343 != 0) = true := bne_iff_ne.mpr c3
  replace H := Option.bind_eq_some_iff.mp H
  obtain ⟨t344, A220, H⟩ := H
  replace H : (some ((⟨#[]⟩ : ByteArray), t344)) = some (r1, r2) := H
  have A22 := Aside0.mk A220
  clear A220
  simp only [Option.some.injEq, Prod.mk.injEq] at H
  obtain ⟨rfl, rfl⟩ := H
  go_enter Tryz.func41, Tryz.ntmps41
  go_wp2_with (first | ((with_reducible refine gate_callee (f := 31) rfl ?_); refine zqG_ (some 8) rfl Tryz.func31 #[.slice A0 l0.length c0] rfl ?_; (with_reducible refine (topiaryref02_Check.calls k _ _ l0 t343 _ ?side1 ?side2 A2.out).mono ?_); (case side1 => repeat (first | exact HR0.out | (with_reducible refine Kd.C_alloc ?_ _) | (with_reducible refine Kd.C_drewN ?_ _) | (with_reducible refine Kd.C_drew ?_))); (case side2 => exact HC0.out); rintro e w' ⟨rfl, ⟨nd, rfl⟩⟩; refine ⟨_, rfl, ?_⟩) | ((with_reducible refine gate_callee (f := 31) rfl ?_); refine zqG_ (some 11) rfl Tryz.func31 #[.slice A0 l0.length c0] rfl ?_; (with_reducible refine (topiaryref02_Check.calls k _ _ l0 t344 _ ?side1 ?side2 A22.out).mono ?_); (case side1 => repeat (first | exact HR0.out | (with_reducible refine Kd.C_alloc ?_ _) | (with_reducible refine Kd.C_drewN ?_ _) | (with_reducible refine Kd.C_drew ?_))); (case side2 => exact HC0.out); rintro e w' ⟨rfl, ⟨nd, rfl⟩⟩; refine ⟨_, rfl, ?_⟩))
  go_ret2
  exact ⟨by first | rfl | (simp [errW_none, errW_some] <;> rfl) | (simp [*, errW_none, errW_some] <;> rfl), by repeat (first | (with_reducible first | exact HB.out | apply below_alloc | apply pw_below_drewN | apply below_drew1) | exact HB.out)⟩

/-! ### topiaryref01_Text: function 74 -/
def topiaryref01_Text.f (k : Nat) (a0_0 : Int) (a0_1 : Int) : Option (ByteArray × Int) := (topiaryref01_Node.f a0_0 a0_1).bind fun t353 => (if t353 = true then (if a0_0 > 0 then ((topiaryref01_Digits.f k a0_0).bind fun t354 => (if t354.size + 1 ≤ 9223372036854775807 then ((topiaryref01_Digits.f k a0_1).bind fun t355 => (if (t354 ++ (⟨#[46]⟩ : ByteArray)).size + t355.size ≤ 9223372036854775807 then (some ((t354 ++ (⟨#[46]⟩ : ByteArray)) ++ t355, 0)) else (none))) else (none))) else (if a0_1 = 0 then (some ((⟨#[114, 111, 111, 116]⟩ : ByteArray), 0)) else (some ((⟨#[116, 114, 97, 115, 104]⟩ : ByteArray), 0)))) else (some ((⟨#[]⟩ : ByteArray), 2)))
theorem topiaryref01_Text.mono : ∀ a0 a1 k, LeO (topiaryref01_Text.f k a0 a1) (topiaryref01_Text.f (k + 1) a0 a1) := by
 intro a0 a1 k
 unfold topiaryref01_Text.f
 repeat' first
   | (with_reducible exact topiaryref01_Digits.mono _ _)
   | (with_reducible exact LeO.refl _)
   | (with_reducible exact LeO.none _)
   | (with_reducible refine LeO.ite ?_ ?_)
   | (with_reducible refine LeO.bind ?_ (fun _ => ?_))
   | exact topiaryref01_Digits.mono _ _
   | exact LeO.none _
   | refine LeO.ite ?_ ?_
   | refine LeO.bind ?_ (fun _ => ?_)
def topiaryref01_Text.T4 : Bool × List (List Nat × List Nat) := (true, [([], []), ([0], [0]), ([1], [1]), ([2], [2]), ([], []), ([4], [4]), ([5, 2], [5]), ([3, 6], [3, 6]), ([7, 6, 0, 1, 2, 3, 4, 5, 6, 7], [7]), ([8, 0, 1, 2, 3, 4, 5, 6, 7, 8], [])])
def topiaryref01_Text.B4 : List Nat := [0, 1, 3, 7, 0, 16, 55, 127, 255, 511]
theorem topiaryref01_Text.tab4 : rtab .any (opsOf Tryz.f74 4) = topiaryref01_Text.T4 := by kernel_rfl
theorem topiaryref01_Text.bits4 : waitsOk topiaryref01_Text.T4.2 topiaryref01_Text.B4 = true := by kernel_rfl
set_option maxHeartbeats 8000000 in
set_option maxRecDepth 100000 in
theorem topiaryref01_Text.calls (k : Nat) (a0_0 : Int) (a0_1 : Int) (r1 : ByteArray) (r2 : Int) (w : World) (h : topiaryref01_Text.f k a0_0 a0_1 = some (r1, r2)) :
  Calls Tryz.prog 74 #[.agg #[.int .i64 a0_0, .int .i64 a0_1]] w fun e w' => e = .returned (.tuple #[.string r1, .int .i64 r2]) ∧ Below w.heap.size w w' := by
 have hu23 := Tryz.underlying23
 have HB := Aside0.mk (Below.refl w.heap.size w)
 have H : ((topiaryref01_Node.f a0_0 a0_1).bind fun t353 => (if t353 = true then (if a0_0 > 0 then ((topiaryref01_Digits.f k a0_0).bind fun t354 => (if t354.size + 1 ≤ 9223372036854775807 then ((topiaryref01_Digits.f k a0_1).bind fun t355 => (if (t354 ++ (⟨#[46]⟩ : ByteArray)).size + t355.size ≤ 9223372036854775807 then (some ((t354 ++ (⟨#[46]⟩ : ByteArray)) ++ t355, 0)) else (none))) else (none))) else (if a0_1 = 0 then (some ((⟨#[114, 111, 111, 116]⟩ : ByteArray), 0)) else (some ((⟨#[116, 114, 97, 115, 104]⟩ : ByteArray), 0)))) else (some ((⟨#[]⟩ : ByteArray), 2)))) = some (r1, r2) := h
 clear h
 replace H := Option.bind_eq_some_iff.mp H
 obtain ⟨t353, A20, H⟩ := H
 have A2 := Aside0.mk A20
 clear A20
 by_cases c3 : t353 = true
 focus
  subst c3
  have H1 : (if a0_0 > 0 then ((topiaryref01_Digits.f k a0_0).bind fun t354 => (if t354.size + 1 ≤ 9223372036854775807 then ((topiaryref01_Digits.f k a0_1).bind fun t355 => (if (t354 ++ (⟨#[46]⟩ : ByteArray)).size + t355.size ≤ 9223372036854775807 then (some ((t354 ++ (⟨#[46]⟩ : ByteArray)) ++ t355, 0)) else (none))) else (none))) else (if a0_1 = 0 then (some ((⟨#[114, 111, 111, 116]⟩ : ByteArray), 0)) else (some ((⟨#[116, 114, 97, 115, 104]⟩ : ByteArray), 0)))) = some (r1, r2) := by rw [if_pos rfl] at H; exact H
  clear H
  have H := H1
  clear H1
  by_cases c4 : a0_0 > 0
  focus
   rw [if_pos c4] at H
   have c4b0 : decide (0 < a0_0) = true := decide_eq_true c4
   clear c4
   replace H := Option.bind_eq_some_iff.mp H
   obtain ⟨t354, A50, H⟩ := H
   have A5 := Aside0.mk A50
   clear A50
   by_cases c6 : t354.size + 1 ≤ 9223372036854775807
   ·rw [if_pos c6] at H
    have c6b0 := eq_true c6
    have c6b1 : decide (t354.size + 1 ≤ 9223372036854775807) = true := decide_eq_true c6
    try have c6b2 : (9223372036854775807 < t354.size + 1) = False := eq_false (Nat.not_lt.2 c6)
    replace H := Option.bind_eq_some_iff.mp H
    obtain ⟨t355, A70, H⟩ := H
    have A7 := Aside0.mk A70
    clear A70
    by_cases c8 : (t354 ++ (⟨#[46]⟩ : ByteArray)).size + t355.size ≤ 9223372036854775807
    ·rw [if_pos c8] at H
     have c8b0 := eq_true c8
     have c8b1 : decide ((t354 ++ (⟨#[46]⟩ : ByteArray)).size + t355.size ≤ 9223372036854775807) = true := decide_eq_true c8
     try have c8b2 : (9223372036854775807 < (t354 ++ (⟨#[46]⟩ : ByteArray)).size + t355.size) = False := eq_false (Nat.not_lt.2 c8)
     try have c8b3 : (9223372036854775807 < t354.size + 1 + t355.size) = False := eq_false (Nat.not_lt.2 (by have h_ := c8; (try simp only [ByteArray.size_append] at h_); exact h_))
     simp only [Option.some.injEq, Prod.mk.injEq] at H
     obtain ⟨rfl, rfl⟩ := H
     go_enter Tryz.func74, Tryz.ntmps74
     try go_wp2_with (first | ((with_reducible refine gate_dst (N := 1) rfl ?_); refine box_event ?hg (N := 1) ?hd (cs := #[.int .i64 a0_0, .int .i64 a0_1]) (t := 23) ?hr ?_; (case hd => rfl); (case hg => rfl); (case hr => first | (go_simp; done) | (go_simp; rfl)); intro gb352 hg w9 hbox hb; have BK352 := Aside0.mk (hbox); have GW352 := Aside0.mk ((zq10_ : w.heap.size ≤ gb352)); have GE352 := Aside0.mk ((zq10_ : w.heap.size ≤ gb352)); replace HB := Aside0.mk (below_step zq0_ hb); clear hb hbox hg; obtain ⟨hcz10_0, hfz10_0, hcz10_1, hfz10_1⟩ := zqC2_ BK352.out) | ((with_reducible refine gate_callee (f := 66) rfl ?_); refine zqG_ (some 5) rfl Tryz.func66 #[.agg #[.int .i64 a0_0, .int .i64 a0_1]] rfl ?_; (with_reducible refine (topiaryref01_Node.calls a0_0 a0_1 true _ A2.out).mono ?_); rintro e w11 ⟨rfl, hb⟩; refine ⟨_, rfl, ?_⟩; replace BK352 := Aside0.mk (blk_below (zqK_ BK352.out) hb); replace HB := Aside0.mk (below_step (zqB1_ GE352.out) hb); (try clear hb); (try clear hb2); (try clear hk); (try clear hi); obtain ⟨hcz12_0, hfz12_0, hcz12_1, hfz12_1⟩ := zqC2_ BK352.out))
     replace BK352 := Aside0.mk (blk_drew BK352.out)
     replace HB := Aside0.mk (below_drew1 HB.out)
     refine start_ (n := 10) (S := fun w' => w'.cell? ⟨gb352, 0, none⟩ = some (.int .i64 a0_0) ∧ w'.cell? ⟨gb352, 1, none⟩ = some (.int .i64 a0_1)) (ds := []) #[false, false, false, false, false, false, false, false, false, false] (by kernel_rfl) rfl rfl ⟨(blk_cell BK352.out 0).trans rfl, (blk_cell BK352.out 1).trans rfl⟩ (fun hHeld => ?_); refine with_tabW topiaryref01_Text.tab4 topiaryref01_Text.bits4 (fun HT_ HW_ => ?_)
     generalize w11.drew = w13 at BK352 HB hHeld ⊢
     refine zqp_ 0 10 HT_ ?_
     refine zqp_ 4 14 HT_ ?_
     refine zqt2_ 1 11 HT_ HW_ hHeld ?_
     refine zqt2_ 5 15 HT_ HW_ hHeld ?_
     refine zqo_ 2 12 HT_ (fun K hK => ?_)
     refine goes_ Tryz.func43 (by kernel_rfl) rfl #[.int .i64 a0_0] (by rfl) rfl rfl zq4_ ?_
     with_reducible refine (topiaryref01_Digits.calls k a0_0 t354 _ A5.out).mono ?_
     rintro e w14 ⟨rfl, hb⟩
     refine ⟨_, rfl, ?_⟩
     replace BK352 := Aside0.mk (blk_below (zqK_ BK352.out) hb)
     replace HB := Aside0.mk (below_step (zqB1_ GE352.out) hb)
     (try clear hb)
     (try clear hb2)
     (try clear hk)
     (try clear hi)
     refine hK.out _ _ ⟨(blk_cell BK352.out 0).trans rfl, (blk_cell BK352.out 1).trans rfl⟩ (fun hHeld => ?_)
     clear hK K
     refine norm_ (a' := ?_) ?_ ?_
     rotate_left
     ·show Act.put _ (some 12) _ = _
      simp only [Act.put, List.setIfInBounds_toArray, List.set_cons_zero, List.set_cons_succ, i64_w, i32_w]
      rfl
     refine zqp_ 3 13 HT_ ?_
     refine zqo_ 6 16 HT_ (fun K hK => ?_)
     refine goes_ Tryz.func43 (by kernel_rfl) rfl #[.int .i64 a0_1] (by rfl) rfl rfl zq4_ ?_
     with_reducible refine (topiaryref01_Digits.calls k a0_1 t355 _ A7.out).mono ?_
     rintro e w15 ⟨rfl, hb⟩
     refine ⟨_, rfl, ?_⟩
     replace BK352 := Aside0.mk (blk_below (zqK_ BK352.out) hb)
     replace HB := Aside0.mk (below_step (zqB1_ GE352.out) hb)
     (try clear hb)
     (try clear hb2)
     (try clear hk)
     (try clear hi)
     refine hK.out _ _ ⟨(blk_cell BK352.out 0).trans rfl, (blk_cell BK352.out 1).trans rfl⟩ (fun hHeld => ?_)
     clear hK K
     refine norm_ (a' := ?_) ?_ ?_
     rotate_left
     ·show Act.put _ (some 16) _ = _
      simp only [Act.put, List.setIfInBounds_toArray, List.set_cons_zero, List.set_cons_succ, i64_w, i32_w]
      rfl
     refine zqp_ 7 17 HT_ ?_
     refine zqp_ 8 2 HT_ ?_
     refine zqp_ 9 3 HT_ ?_
     refine done_ (done_of HT_.out (by kernel_rfl)) ?_
     try go_wp2
     go_ret2
     exact ⟨by first | rfl | (simp [errW_none, errW_some] <;> rfl) | (simp [*, errW_none, errW_some] <;> rfl), by repeat (first | (with_reducible first | exact HB.out | apply below_alloc | apply pw_below_drewN | apply below_drew1 | refine below_set ?_ GE352.out) | exact HB.out)⟩
    ·rw [if_neg c8] at H
     exact absurd H (by simp)
   ·rw [if_neg c6] at H
    exact absurd H (by simp)
  rotate_right
  focus
   rw [if_neg c4] at H
   have c4b0 : decide (0 < a0_0) = false := decide_eq_false c4
   clear c4
   by_cases c16 : a0_1 = 0
   focus
    rw [if_pos c16] at H
    have c16b0 : (a0_1 == 0) = true := beq_iff_eq.mpr c16
    have c16b1 : (a0_1 != 0) = false := bne_eq_false_iff_eq.mpr c16
    clear c16
    simp only [Option.some.injEq, Prod.mk.injEq] at H
    obtain ⟨rfl, rfl⟩ := H
    have zqm1_ := True.intro
   rotate_right
   focus
    rw [if_neg c16] at H
    have c16b0 : (a0_1 == 0) = false := beq_eq_false_iff_ne.mpr c16
    have c16b1 : (a0_1 != 0) = true := bne_iff_ne.mpr c16
    simp only [Option.some.injEq, Prod.mk.injEq] at H
    obtain ⟨rfl, rfl⟩ := H
    have zqm1_ := True.intro
 rotate_right
 focus
  replace c3 := Bool.eq_false_iff.mpr c3
  subst c3
  have H1 : (some ((⟨#[]⟩ : ByteArray), 2)) = some (r1, r2) := by rw [if_neg (show ¬ (false = true) by decide)] at H; exact H
  clear H
  have H := H1
  clear H1
  simp only [Option.some.injEq, Prod.mk.injEq] at H
  obtain ⟨rfl, rfl⟩ := H
 all_goals (try (clear zqm1_; go_enter Tryz.func74, Tryz.ntmps74; go_wp2_with (first | ((with_reducible refine gate_dst (N := 1) rfl ?_); refine box_event ?hg (N := 1) ?hd (cs := #[.int .i64 a0_0, .int .i64 a0_1]) (t := 23) ?hr ?_; (case hd => rfl); (case hg => rfl); (case hr => first | (go_simp; done) | (go_simp; rfl)); intro gbz1 hg wz1 hbox hb; have BK352 := Aside0.mk (hbox); have GWz1 := Aside0.mk ((zq10_ : w.heap.size ≤ gbz1)); have GEz1 := Aside0.mk ((zq10_ : w.heap.size ≤ gbz1)); replace HB := Aside0.mk (below_step zq0_ hb); clear hb hbox hg; obtain ⟨hczz2_0, hfzz2_0, hczz2_1, hfzz2_1⟩ := zqC2_ BK352.out) | ((with_reducible refine gate_callee (f := 66) rfl ?_); refine zqG_ (some 5) rfl Tryz.func66 #[.agg #[.int .i64 a0_0, .int .i64 a0_1]] rfl ?_; (with_reducible refine (topiaryref01_Node.calls a0_0 a0_1 true _ A2.out).mono ?_); rintro e wz2 ⟨rfl, hb⟩; refine ⟨_, rfl, ?_⟩; replace BK352 := Aside0.mk (blk_below (zqK_ BK352.out) hb); replace HB := Aside0.mk (below_step (zqB1_ GEz1.out) hb); (try clear hb); (try clear hb2); (try clear hk); (try clear hi); obtain ⟨hczz3_0, hfzz3_0, hczz3_1, hfzz3_1⟩ := zqC2_ BK352.out))))
 ·go_enter Tryz.func74, Tryz.ntmps74
  go_wp2_with (first | ((with_reducible refine gate_dst (N := 1) rfl ?_); refine box_event ?hg (N := 1) ?hd (cs := #[.int .i64 a0_0, .int .i64 a0_1]) (t := 23) ?hr ?_; (case hd => rfl); (case hg => rfl); (case hr => first | (go_simp; done) | (go_simp; rfl)); intro gbz1 hg wz1 hbox hb; have BK352 := Aside0.mk (hbox); have GWz1 := Aside0.mk ((zq10_ : w.heap.size ≤ gbz1)); have GEz1 := Aside0.mk ((zq10_ : w.heap.size ≤ gbz1)); replace HB := Aside0.mk (below_step zq0_ hb); clear hb hbox hg; obtain ⟨hczz2_0, hfzz2_0, hczz2_1, hfzz2_1⟩ := zqC2_ BK352.out) | ((with_reducible refine gate_callee (f := 66) rfl ?_); refine zqG_ (some 5) rfl Tryz.func66 #[.agg #[.int .i64 a0_0, .int .i64 a0_1]] rfl ?_; (with_reducible refine (topiaryref01_Node.calls a0_0 a0_1 false _ A2.out).mono ?_); rintro e wz2 ⟨rfl, hb⟩; refine ⟨_, rfl, ?_⟩; replace BK352 := Aside0.mk (blk_below (zqK_ BK352.out) hb); replace HB := Aside0.mk (below_step (zqB1_ GEz1.out) hb); (try clear hb); (try clear hb2); (try clear hk); (try clear hi)))
  go_ret2
  exact ⟨by first | rfl | (simp [errW_none, errW_some] <;> rfl) | (simp [*, errW_none, errW_some] <;> rfl), by repeat (first | (with_reducible first | exact HB.out | apply below_alloc | apply pw_below_drewN | apply below_drew1 | refine below_set ?_ GEz1.out) | exact HB.out)⟩
 ·go_ret2
  exact ⟨by first | rfl | (simp [errW_none, errW_some] <;> rfl) | (simp [*, errW_none, errW_some] <;> rfl), by repeat (first | (with_reducible first | exact HB.out | apply below_alloc | apply pw_below_drewN | apply below_drew1 | refine below_set ?_ GEz1.out) | exact HB.out)⟩
 ·go_ret2
  exact ⟨by first | rfl | (simp [errW_none, errW_some] <;> rfl) | (simp [*, errW_none, errW_some] <;> rfl), by repeat (first | (with_reducible first | exact HB.out | apply below_alloc | apply pw_below_drewN | apply below_drew1 | refine below_set ?_ GEz1.out) | exact HB.out)⟩

/-! ### topiaryref05_Stamp: function 42 -/
def topiaryref05_Stamp.f (k : Nat) (a0_0 : Int) (a0_1 : Int) : Option (ByteArray) := (topiaryref01_Text.f k a0_0 a0_1).bind fun bt357 => (some bt357.1)
theorem topiaryref05_Stamp.mono : ∀ a0 a1 k, LeO (topiaryref05_Stamp.f k a0 a1) (topiaryref05_Stamp.f (k + 1) a0 a1) := by
 intro a0 a1 k
 unfold topiaryref05_Stamp.f
 repeat' first
   | (with_reducible exact topiaryref01_Text.mono _ _ _)
   | (with_reducible exact LeO.refl _)
   | (with_reducible exact LeO.none _)
   | (with_reducible refine LeO.ite ?_ ?_)
   | (with_reducible refine LeO.bind ?_ (fun _ => ?_))
   | exact topiaryref01_Text.mono _ _ _
   | exact LeO.none _
   | refine LeO.ite ?_ ?_
   | refine LeO.bind ?_ (fun _ => ?_)
set_option maxHeartbeats 8000000 in
set_option maxRecDepth 100000 in
theorem topiaryref05_Stamp.calls (k : Nat) (a0_0 : Int) (a0_1 : Int) (r : ByteArray) (w : World) (h : topiaryref05_Stamp.f k a0_0 a0_1 = some r) :
  Calls Tryz.prog 42 #[.agg #[.int .i64 a0_0, .int .i64 a0_1]] w fun e w' => e = .returned (.string r) ∧ Below w.heap.size w w' := by
 have hu23 := Tryz.underlying23
 have HB := Aside0.mk (Below.refl w.heap.size w)
 have H : ((topiaryref01_Text.f k a0_0 a0_1).bind fun bt357 => (some bt357.1)) = some r := h
 clear h
 replace H := Option.bind_eq_some_iff.mp H
 obtain ⟨⟨t357, t358⟩, A20, H⟩ := H
 replace H : (some t357) = some r := H
 have A2 := Aside0.mk A20
 clear A20
 obtain rfl := Option.some.inj H
 go_enter Tryz.func42, Tryz.ntmps42
 go_wp2_with (first | ((with_reducible refine gate_dst (N := 1) rfl ?_); refine box_event ?hg (N := 1) ?hd (cs := #[.int .i64 a0_0, .int .i64 a0_1]) (t := 23) ?hr ?_; (case hd => rfl); (case hg => rfl); (case hr => first | (go_simp; done) | (go_simp; rfl)); intro gb356 hg w3 hbox hb; have BK356 := Aside0.mk (hbox); have GW356 := Aside0.mk ((zq10_ : w.heap.size ≤ gb356)); have GE356 := Aside0.mk ((zq10_ : w.heap.size ≤ gb356)); replace HB := Aside0.mk (below_step zq0_ hb); clear hb hbox hg; obtain ⟨hcz4_0, hfz4_0, hcz4_1, hfz4_1⟩ := zqC2_ BK356.out) | ((with_reducible refine gate_callee (f := 74) rfl ?_); refine zqG_ (some 7) rfl Tryz.func74 #[.agg #[.int .i64 a0_0, .int .i64 a0_1]] rfl ?_; (with_reducible refine (topiaryref01_Text.calls k a0_0 a0_1 t357 t358 _ A2.out).mono ?_); rintro e w5 ⟨rfl, hb⟩; refine ⟨_, rfl, ?_⟩; replace BK356 := Aside0.mk (blk_below (zqK_ BK356.out) hb); replace HB := Aside0.mk (below_step (zqB1_ GE356.out) hb); (try clear hb); (try clear hb2); (try clear hk); (try clear hi)))
 go_ret
 exact ⟨by first | rfl | (simp [errW_none, errW_some] <;> rfl) | (simp [*, errW_none, errW_some] <;> rfl), by repeat (first | (with_reducible first | exact HB.out | apply below_alloc | apply pw_below_drewN | apply below_drew1 | refine below_set ?_ GE356.out) | exact HB.out)⟩

/-! ### topiaryref05_After: function 44 -/
def topiaryref05_After.f (k : Nat) (a0_0 : Int) (a0_1 : Int) : Option (ByteArray) := if a0_0 = 0 then (if a0_1 = 0 then (some (⟨#[45]⟩ : ByteArray)) else ((topiaryref05_Stamp.f k a0_0 a0_1).bind fun t360 => (some t360))) else ((topiaryref05_Stamp.f k a0_0 a0_1).bind fun t361 => (some t361))
theorem topiaryref05_After.mono : ∀ a0 a1 k, LeO (topiaryref05_After.f k a0 a1) (topiaryref05_After.f (k + 1) a0 a1) := by
 intro a0 a1 k
 unfold topiaryref05_After.f
 repeat' first
   | (with_reducible exact topiaryref05_Stamp.mono _ _ _)
   | (with_reducible exact LeO.refl _)
   | (with_reducible exact LeO.none _)
   | (with_reducible refine LeO.ite ?_ ?_)
   | (with_reducible refine LeO.bind ?_ (fun _ => ?_))
   | exact topiaryref05_Stamp.mono _ _ _
   | exact LeO.none _
   | refine LeO.ite ?_ ?_
   | refine LeO.bind ?_ (fun _ => ?_)
set_option maxHeartbeats 8000000 in
set_option maxRecDepth 100000 in
theorem topiaryref05_After.calls (k : Nat) (a0_0 : Int) (a0_1 : Int) (r : ByteArray) (w : World) (h : topiaryref05_After.f k a0_0 a0_1 = some r) :
  Calls Tryz.prog 44 #[.agg #[.int .i64 a0_0, .int .i64 a0_1]] w fun e w' => e = .returned (.string r) ∧ Below w.heap.size w w' := by
 have hu23 := Tryz.underlying23
 have HB := Aside0.mk (Below.refl w.heap.size w)
 have H : (if a0_0 = 0 then (if a0_1 = 0 then (some (⟨#[45]⟩ : ByteArray)) else ((topiaryref05_Stamp.f k a0_0 a0_1).bind fun t360 => (some t360))) else ((topiaryref05_Stamp.f k a0_0 a0_1).bind fun t361 => (some t361))) = some r := h
 clear h
 by_cases c2 : a0_0 = 0
 focus
  rw [if_pos c2] at H
  have c2b0 : (a0_0 == 0) = true := beq_iff_eq.mpr c2
  have c2b1 : (a0_0 != 0) = false := bne_eq_false_iff_eq.mpr c2
  clear c2
  by_cases c3 : a0_1 = 0
  focus
   rw [if_pos c3] at H
   have c3b0 : (a0_1 == 0) = true := beq_iff_eq.mpr c3
   have c3b1 : (a0_1 != 0) = false := bne_eq_false_iff_eq.mpr c3
   clear c3
   obtain rfl := Option.some.inj H
   have zqm0_ := True.intro
  rotate_right
  focus
   rw [if_neg c3] at H
   have c3b0 : (a0_1 == 0) = false := beq_eq_false_iff_ne.mpr c3
   have c3b1 : (a0_1 != 0) = true := bne_iff_ne.mpr c3
   replace H := Option.bind_eq_some_iff.mp H
   obtain ⟨t360, A60, H⟩ := H
   replace H : (some t360) = some r := H
   have A6 := Aside0.mk A60
   clear A60
   obtain rfl := Option.some.inj H
 rotate_right
 focus
  rw [if_neg c2] at H
  have c2b0 : (a0_0 == 0) = false := beq_eq_false_iff_ne.mpr c2
  have c2b1 : (a0_0 != 0) = true := bne_iff_ne.mpr c2
  replace H := Option.bind_eq_some_iff.mp H
  obtain ⟨t361, A100, H⟩ := H
  replace H : (some t361) = some r := H
  have A10 := Aside0.mk A100
  clear A100
  obtain rfl := Option.some.inj H
  have zqm0_ := True.intro
 all_goals (try (clear zqm0_; go_enter Tryz.func44, Tryz.ntmps44; go_wp2_with (first | ((with_reducible refine gate_dst (N := 1) rfl ?_); refine box_event ?hg (N := 1) ?hd (cs := #[.int .i64 a0_0, .int .i64 a0_1]) (t := 23) ?hr ?_; (case hd => rfl); (case hg => rfl); (case hr => first | (go_simp; done) | (go_simp; rfl)); intro gbz1 hg wz1 hbox hb; have BKz1 := Aside0.mk (hbox); have GWz1 := Aside0.mk ((zq10_ : w.heap.size ≤ gbz1)); have GEz1 := Aside0.mk ((zq10_ : w.heap.size ≤ gbz1)); replace HB := Aside0.mk (below_step zq0_ hb); clear hb hbox hg; obtain ⟨hczz2_0, hfzz2_0, hczz2_1, hfzz2_1⟩ := zqC2_ BKz1.out) | ((with_reducible refine gate_callee (f := 42) rfl ?_); refine zqG_ (some 12) rfl Tryz.func42 #[.agg #[.int .i64 a0_0, .int .i64 a0_1]] rfl ?_; (with_reducible refine (topiaryref05_Stamp.calls k a0_0 a0_1 t361 _ A10.out).mono ?_); rintro e wz2 ⟨rfl, hb⟩; refine ⟨_, rfl, ?_⟩; replace BKz1 := Aside0.mk (blk_below (zqK_ BKz1.out) hb); replace HB := Aside0.mk (below_step (zqB1_ GEz1.out) hb); (try clear hb); (try clear hb2); (try clear hk); (try clear hi)))))
 ·go_ret
  exact ⟨by first | rfl | (simp [errW_none, errW_some] <;> rfl) | (simp [*, errW_none, errW_some] <;> rfl), by repeat (first | (with_reducible first | exact HB.out | apply below_alloc | apply pw_below_drewN | apply below_drew1 | refine below_set ?_ GEz1.out) | exact HB.out)⟩
 ·go_enter Tryz.func44, Tryz.ntmps44
  go_wp2_with (first | ((with_reducible refine gate_dst (N := 1) rfl ?_); refine box_event ?hg (N := 1) ?hd (cs := #[.int .i64 a0_0, .int .i64 a0_1]) (t := 23) ?hr ?_; (case hd => rfl); (case hg => rfl); (case hr => first | (go_simp; done) | (go_simp; rfl)); intro gbz1 hg wz1 hbox hb; have BKz1 := Aside0.mk (hbox); have GWz1 := Aside0.mk ((zq10_ : w.heap.size ≤ gbz1)); have GEz1 := Aside0.mk ((zq10_ : w.heap.size ≤ gbz1)); replace HB := Aside0.mk (below_step zq0_ hb); clear hb hbox hg; obtain ⟨hczz2_0, hfzz2_0, hczz2_1, hfzz2_1⟩ := zqC2_ BKz1.out) | ((with_reducible refine gate_callee (f := 42) rfl ?_); refine zqG_ (some 12) rfl Tryz.func42 #[.agg #[.int .i64 a0_0, .int .i64 a0_1]] rfl ?_; (with_reducible refine (topiaryref05_Stamp.calls k a0_0 a0_1 t360 _ A6.out).mono ?_); rintro e wz2 ⟨rfl, hb⟩; refine ⟨_, rfl, ?_⟩; replace BKz1 := Aside0.mk (blk_below (zqK_ BKz1.out) hb); replace HB := Aside0.mk (below_step (zqB1_ GEz1.out) hb); (try clear hb); (try clear hb2); (try clear hk); (try clear hi)))
  go_ret
  exact ⟨by first | rfl | (simp [errW_none, errW_some] <;> rfl) | (simp [*, errW_none, errW_some] <;> rfl), by repeat (first | (with_reducible first | exact HB.out | apply below_alloc | apply pw_below_drewN | apply below_drew1 | refine below_set ?_ GEz1.out) | exact HB.out)⟩
 ·go_ret
  exact ⟨by first | rfl | (simp [errW_none, errW_some] <;> rfl) | (simp [*, errW_none, errW_some] <;> rfl), by repeat (first | (with_reducible first | exact HB.out | apply below_alloc | apply pw_below_drewN | apply below_drew1 | refine below_set ?_ GEz1.out) | exact HB.out)⟩

/-! ### topiaryref05_plain: function 75 -/
def topiaryref05_plain.f (a0 : Int) : Option (Bool) := if a0 ≥ 32 then (if a0 ≤ 126 then (if a0 = 34 then (some false) else (some (a0 != 92))) else (some false)) else (some false)
set_option maxHeartbeats 8000000 in
set_option maxRecDepth 100000 in
theorem topiaryref05_plain.calls (a0 : Int) (r : Bool) (w : World) (h : topiaryref05_plain.f a0 = some r) :
  Calls Tryz.prog 75 #[.int .u8 a0] w fun e w' => e = .returned (.bool r) ∧ Drawn0 w w' := by
 have H : (if a0 ≥ 32 then (if a0 ≤ 126 then (if a0 = 34 then (some false) else (some (a0 != 92))) else (some false)) else (some false)) = some r := h
 clear h
 by_cases c2 : a0 ≥ 32
 ·rw [if_pos c2] at H
  have c2b0 : decide (32 ≤ a0) = true := decide_eq_true c2
  clear c2
  by_cases c3 : a0 ≤ 126
  ·rw [if_pos c3] at H
   have c3b0 : decide (a0 ≤ 126) = true := decide_eq_true c3
   clear c3
   by_cases c4 : a0 = 34
   ·rw [if_pos c4] at H
    have c4b0 : (a0 == 34) = true := beq_iff_eq.mpr c4
    have c4b1 : (a0 != 34) = false := bne_eq_false_iff_eq.mpr c4
    clear c4
    obtain rfl := Option.some.inj H
    go_enter Tryz.func75, Tryz.ntmps75
    go_wp2
    go_ret
    exact ⟨by first | rfl | (simp; done) | (simp [*]; done), by repeat (first | exact Drawn0.refl _ | apply Drawn0.step)⟩
   ·rw [if_neg c4] at H
    have c4b0 : (a0 == 34) = false := beq_eq_false_iff_ne.mpr c4
    have c4b1 : (a0 != 34) = true := bne_iff_ne.mpr c4
    obtain rfl := Option.some.inj H
    go_enter Tryz.func75, Tryz.ntmps75
    go_wp2
    go_ret
    exact ⟨by first | rfl | (simp; done) | (simp [*]; done), by repeat (first | exact Drawn0.refl _ | apply Drawn0.step)⟩
  ·rw [if_neg c3] at H
   have c3b0 : decide (a0 ≤ 126) = false := decide_eq_false c3
   clear c3
   obtain rfl := Option.some.inj H
   go_enter Tryz.func75, Tryz.ntmps75
   go_wp2
   go_ret
   exact ⟨by first | rfl | (simp; done) | (simp [*]; done), by repeat (first | exact Drawn0.refl _ | apply Drawn0.step)⟩
 ·rw [if_neg c2] at H
  have c2b0 : decide (32 ≤ a0) = false := decide_eq_false c2
  clear c2
  obtain rfl := Option.some.inj H
  go_enter Tryz.func75, Tryz.ntmps75
  go_wp2
  go_ret
  exact ⟨by first | rfl | (simp; done) | (simp [*]; done), by repeat (first | exact Drawn0.refl _ | apply Drawn0.step)⟩

/-! ### topiaryref05_digit: function 76 -/
def topiaryref05_digit.f (a0 : Int) : Option (Int) := if a0 < 10 then (some ((48 + a0) % 256)) else (some ((((97 + a0) % 256) - 10) % 256))
set_option maxHeartbeats 8000000 in
set_option maxRecDepth 100000 in
theorem topiaryref05_digit.calls (a0 : Int) (r : Int) (w : World) (h : topiaryref05_digit.f a0 = some r) :
  Calls Tryz.prog 76 #[.int .u8 a0] w fun e w' => e = .returned (.int .u8 r) ∧ Drawn0 w w' := by
 have H : (if a0 < 10 then (some ((48 + a0) % 256)) else (some ((((97 + a0) % 256) - 10) % 256))) = some r := h
 clear h
 by_cases c2 : a0 < 10
 ·rw [if_pos c2] at H
  have c2b0 : decide (a0 < 10) = true := decide_eq_true c2
  clear c2
  obtain rfl := Option.some.inj H
  go_enter Tryz.func76, Tryz.ntmps76
  go_wp2
  go_ret
  exact ⟨by first | rfl | (simp; done) | (simp [*]; done), by repeat (first | exact Drawn0.refl _ | apply Drawn0.step)⟩
 ·rw [if_neg c2] at H
  have c2b0 : decide (a0 < 10) = false := decide_eq_false c2
  clear c2
  obtain rfl := Option.some.inj H
  go_enter Tryz.func76, Tryz.ntmps76
  go_wp2
  go_ret
  exact ⟨by first | rfl | (simp; done) | (simp [*]; done), by repeat (first | exact Drawn0.refl _ | apply Drawn0.step)⟩

end Go.Proofs.YtgoolgmcbnikkaaGreatDoor.QChangeTexts
