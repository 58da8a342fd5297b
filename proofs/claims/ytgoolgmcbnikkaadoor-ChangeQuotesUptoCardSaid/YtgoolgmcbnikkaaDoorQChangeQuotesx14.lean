-- Own text of this seat, laid by the session's program ownprint.py (wip/tools). Lean checks it.
import Derived.Test.YtgoolgmcbnikkaaDoorQChangeQuotesx0
import Derived.Test.YtgoolgmcbnikkaaDoorQChangeQuotesx2
import Derived.Test.YtgoolgmcbnikkaaDoorQChangeQuotesx3
import Derived.Test.YtgoolgmcbnikkaaDoorQChangeQuotesx4
import Derived.Test.YtgoolgmcbnikkaaDoorQChangeQuotesx8
import Derived.Test.YtgoolgmcbnikkaaDoorQChangeQuotesx13
namespace Go.Proofs.YtgoolgmcbnikkaaDoor.QChangeQuotes
open Go.RowKit Go.Proofs.YtgoolgmcbnikkaaDoorW.PrintWords Go.Proofs.YtgoolgmcbnikkaaDoorW.PrintLast Go.Proofs.YtgoolgmcbnikkaaDoorW.PrintMore
attribute [local go_sem] max2_int min2_int max_two min_two max_three min_three max_four min_four   -- for this text's walks alone
set_option linter.unusedVariables false
set_option linter.unusedSimpArgs false

/-! ### topiarylaw05_ChangeQuotes: function 3 -/
def topiarylaw05_ChangeQuotes.f (k : Nat) (a0 : ByteArray) (a1 : ByteArray) : Option (Bool) := (change_Unquote.f k a1).bind fun bt339 => ((topiaryref05_Unquote.f k a1).bind fun bt341 => ((change_Quote.f k a0).bind fun t343 => ((change_Unquote.f k t343).bind fun bt344 => ((change_Quote.f k a0).bind fun t346 => ((topiaryref05_Quote.f k a0).bind fun t347 => (if t346.toList = t347.toList then (if bt339.1.toList = bt341.1.toList then (if (bt339.2 == bt341.2) = true then (if bt344.1.toList = a0.toList then (if bt344.2 = true then ((topiarylaw05_awake.f k).bind fun t348 => (some t348)) else (some false)) else (some false)) else (some false)) else (some false)) else (some false)))))))
theorem topiarylaw05_ChangeQuotes.mono : ∀ a0 a1 k, LeO (topiarylaw05_ChangeQuotes.f k a0 a1) (topiarylaw05_ChangeQuotes.f (k + 1) a0 a1) := by
 intro a0 a1 k
 unfold topiarylaw05_ChangeQuotes.f
 repeat' first
   | (with_reducible exact change_Quote.mono _ _)
   | (with_reducible exact change_Unquote.mono _ _)
   | (with_reducible exact topiarylaw05_awake.mono _)
   | (with_reducible exact topiaryref05_Quote.mono _ _)
   | (with_reducible exact topiaryref05_Unquote.mono _ _)
   | (with_reducible exact LeO.refl _)
   | (with_reducible exact LeO.none _)
   | (with_reducible refine LeO.ite ?_ ?_)
   | (with_reducible refine LeO.bind ?_ (fun _ => ?_))
   | exact change_Quote.mono _ _
   | exact change_Unquote.mono _ _
   | exact topiarylaw05_awake.mono _
   | exact topiaryref05_Quote.mono _ _
   | exact topiaryref05_Unquote.mono _ _
   | exact LeO.none _
   | refine LeO.ite ?_ ?_
   | refine LeO.bind ?_ (fun _ => ?_)
set_option maxHeartbeats 8000000 in
set_option maxRecDepth 100000 in
theorem topiarylaw05_ChangeQuotes.calls (k : Nat) (a0 : ByteArray) (a1 : ByteArray) (r : Bool) (w : World) (htab : TabW_ w) (h : topiarylaw05_ChangeQuotes.f k a0 a1 = some r) :
  Calls Tryd.prog 3 #[.string a0, .string a1] w fun e w' => e = .returned (.bool r) ∧ Below w.heap.size w w' := by
 have HTAB := Aside0.mk htab
 clear htab
 have HB := Aside0.mk (Below.refl w.heap.size w)
 have H : ((change_Unquote.f k a1).bind fun bt339 => ((topiaryref05_Unquote.f k a1).bind fun bt341 => ((change_Quote.f k a0).bind fun t343 => ((change_Unquote.f k t343).bind fun bt344 => ((change_Quote.f k a0).bind fun t346 => ((topiaryref05_Quote.f k a0).bind fun t347 => (if t346.toList = t347.toList then (if bt339.1.toList = bt341.1.toList then (if (bt339.2 == bt341.2) = true then (if bt344.1.toList = a0.toList then (if bt344.2 = true then ((topiarylaw05_awake.f k).bind fun t348 => (some t348)) else (some false)) else (some false)) else (some false)) else (some false)) else (some false)))))))) = some r := h
 clear h
 replace H := Option.bind_eq_some_iff.mp H
 obtain ⟨⟨t339, t340⟩, A30, H⟩ := H
 replace H : ((topiaryref05_Unquote.f k a1).bind fun bt341 => ((change_Quote.f k a0).bind fun t343 => ((change_Unquote.f k t343).bind fun bt344 => ((change_Quote.f k a0).bind fun t346 => ((topiaryref05_Quote.f k a0).bind fun t347 => (if t346.toList = t347.toList then (if t339.toList = bt341.1.toList then (if (t340 == bt341.2) = true then (if bt344.1.toList = a0.toList then (if bt344.2 = true then ((topiarylaw05_awake.f k).bind fun t348 => (some t348)) else (some false)) else (some false)) else (some false)) else (some false)) else (some false))))))) = some r := H
 have A3 := Aside0.mk A30
 clear A30
 replace H := Option.bind_eq_some_iff.mp H
 obtain ⟨⟨t341, t342⟩, A40, H⟩ := H
 replace H : ((change_Quote.f k a0).bind fun t343 => ((change_Unquote.f k t343).bind fun bt344 => ((change_Quote.f k a0).bind fun t346 => ((topiaryref05_Quote.f k a0).bind fun t347 => (if t346.toList = t347.toList then (if t339.toList = t341.toList then (if (t340 == t342) = true then (if bt344.1.toList = a0.toList then (if bt344.2 = true then ((topiarylaw05_awake.f k).bind fun t348 => (some t348)) else (some false)) else (some false)) else (some false)) else (some false)) else (some false)))))) = some r := H
 have A4 := Aside0.mk A40
 clear A40
 replace H := Option.bind_eq_some_iff.mp H
 obtain ⟨t343, A50, H⟩ := H
 replace H : ((change_Unquote.f k t343).bind fun bt344 => ((change_Quote.f k a0).bind fun t346 => ((topiaryref05_Quote.f k a0).bind fun t347 => (if t346.toList = t347.toList then (if t339.toList = t341.toList then (if (t340 == t342) = true then (if bt344.1.toList = a0.toList then (if bt344.2 = true then ((topiarylaw05_awake.f k).bind fun t348 => (some t348)) else (some false)) else (some false)) else (some false)) else (some false)) else (some false))))) = some r := H
 have A5 := Aside0.mk A50
 clear A50
 replace H := Option.bind_eq_some_iff.mp H
 obtain ⟨⟨t344, t345⟩, A60, H⟩ := H
 replace H : ((change_Quote.f k a0).bind fun t346 => ((topiaryref05_Quote.f k a0).bind fun t347 => (if t346.toList = t347.toList then (if t339.toList = t341.toList then (if (t340 == t342) = true then (if t344.toList = a0.toList then (if t345 = true then ((topiarylaw05_awake.f k).bind fun t348 => (some t348)) else (some false)) else (some false)) else (some false)) else (some false)) else (some false)))) = some r := H
 have A6 := Aside0.mk A60
 clear A60
 replace H := Option.bind_eq_some_iff.mp H
 obtain ⟨t346, A70, H⟩ := H
 replace H : ((topiaryref05_Quote.f k a0).bind fun t347 => (if t346.toList = t347.toList then (if t339.toList = t341.toList then (if (t340 == t342) = true then (if t344.toList = a0.toList then (if t345 = true then ((topiarylaw05_awake.f k).bind fun t348 => (some t348)) else (some false)) else (some false)) else (some false)) else (some false)) else (some false))) = some r := H
 have A7 := Aside0.mk A70
 clear A70
 replace H := Option.bind_eq_some_iff.mp H
 obtain ⟨t347, A80, H⟩ := H
 replace H : (if t346.toList = t347.toList then (if t339.toList = t341.toList then (if (t340 == t342) = true then (if t344.toList = a0.toList then (if t345 = true then ((topiarylaw05_awake.f k).bind fun t348 => (some t348)) else (some false)) else (some false)) else (some false)) else (some false)) else (some false)) = some r := H
 have A8 := Aside0.mk A80
 clear A80
 by_cases c9 : t346.toList = t347.toList
 focus
  rw [if_pos c9] at H
  have c9b0 : (t346.toList == t347.toList) = true := beq_iff_eq.mpr c9
  have c9b1 : (t346.toList != t347.toList) = false := bne_eq_false_iff_eq.mpr c9
  clear c9
  by_cases c10 : t339.toList = t341.toList
  focus
   rw [if_pos c10] at H
   have c10b0 : (t339.toList == t341.toList) = true := beq_iff_eq.mpr c10
   have c10b1 : (t339.toList != t341.toList) = false := bne_eq_false_iff_eq.mpr c10
   clear c10
   by_cases c11 : (t340 == t342) = true
   focus
    rw [if_pos c11] at H
    have c11b0 : (t340 == t342) = true := c11
    (try (have c11b1 : decide (t340 = t342) = true := by simpa using c11))
    (try (have c11b2 : (t340 == t342) = true := by simpa using c11))
    clear c11
    by_cases c12 : t344.toList = a0.toList
    focus
     rw [if_pos c12] at H
     have c12b0 : (t344.toList == a0.toList) = true := beq_iff_eq.mpr c12
     have c12b1 : (t344.toList != a0.toList) = false := bne_eq_false_iff_eq.mpr c12
     clear c12
     by_cases c13 : t345 = true
     focus
      subst c13
      have H1 : ((topiarylaw05_awake.f k).bind fun t348 => (some t348)) = some r := by rw [if_pos rfl] at H; exact H
      clear H
      have H := H1
      clear H1
      replace H := Option.bind_eq_some_iff.mp H
      obtain ⟨t348, A140, H⟩ := H
      replace H : (some t348) = some r := H
      have A14 := Aside0.mk A140
      clear A140
      obtain rfl := Option.some.inj H
     rotate_right
     focus
      replace c13 := Bool.eq_false_iff.mpr c13
      subst c13
      have H1 : (some false) = some r := by rw [if_neg (show ¬ (false = true) by decide)] at H; exact H
      clear H
      have H := H1
      clear H1
      obtain rfl := Option.some.inj H
    rotate_right
    focus
     rw [if_neg c12] at H
     have c12b0 : (t344.toList == a0.toList) = false := beq_eq_false_iff_ne.mpr c12
     have c12b1 : (t344.toList != a0.toList) = true := bne_iff_ne.mpr c12
     obtain rfl := Option.some.inj H
     have zqm0_ := True.intro
   rotate_right
   focus
    rw [if_neg c11] at H
    have c11b0 : (t340 == t342) = false := by simpa using c11
    (try (have c11b1 : decide (t340 = t342) = false := by simpa using c11))
    (try (have c11b2 : (t340 == t342) = false := by simpa using c11))
    (try (have c11b3 : ¬ (t340 = t342) := by simpa using c11))
    clear c11
    obtain rfl := Option.some.inj H
    have zqm0_ := True.intro
  rotate_right
  focus
   rw [if_neg c10] at H
   have c10b0 : (t339.toList == t341.toList) = false := beq_eq_false_iff_ne.mpr c10
   have c10b1 : (t339.toList != t341.toList) = true := bne_iff_ne.mpr c10
   obtain rfl := Option.some.inj H
   have zqm0_ := True.intro
 rotate_right
 focus
  rw [if_neg c9] at H
  have c9b0 : (t346.toList == t347.toList) = false := beq_eq_false_iff_ne.mpr c9
  have c9b1 : (t346.toList != t347.toList) = true := bne_iff_ne.mpr c9
  obtain rfl := Option.some.inj H
  have zqm0_ := True.intro
 all_goals (try (clear zqm0_; go_enter Tryd.func3, Tryd.ntmps3; go_wp2_with (first | ((with_reducible refine gate_callee (f := 6) rfl ?_); refine zqG_ (some 24) rfl Tryd.func6 #[.string t343] rfl ?_; (with_reducible refine (change_Unquote.calls k t343 t344 t345 _ A6.out).mono ?_); rintro e wz4 ⟨rfl, hb⟩; refine ⟨_, rfl, ?_⟩; have n0_ := Aside0.mk (below_step zq0_ hb); clear HB; have HB := n0_; clear n0_; (try clear hb); (try clear hb2); (try clear hk); (try clear hi)) | ((with_reducible refine gate_callee (f := 7) rfl ?_); refine zqG_ (some 18) rfl Tryd.func7 #[.string a1] rfl ?_; (with_reducible refine (topiaryref05_Unquote.calls k a1 t341 t342 _ A4.out).mono ?_); rintro e wz2 ⟨rfl, hb⟩; refine ⟨_, rfl, ?_⟩; have n0_ := Aside0.mk (below_step zq0_ hb); clear HB; have HB := n0_; clear n0_; (try clear hb); (try clear hb2); (try clear hk); (try clear hi)) | ((with_reducible refine gate_callee (f := 8) rfl ?_); refine zqG_ (some 23) rfl Tryd.func8 #[.string a0] rfl ?_; (with_reducible refine (change_Quote.calls k a0 t343 _ A5.out).mono ?_); rintro e wz3 ⟨rfl, hb⟩; refine ⟨_, rfl, ?_⟩; have n0_ := Aside0.mk (below_step zq0_ hb); clear HB; have HB := n0_; clear n0_; (try clear hb); (try clear hb2); (try clear hk); (try clear hi)) | ((with_reducible refine gate_callee (f := 6) rfl ?_); refine zqG_ (some 13) rfl Tryd.func6 #[.string a1] rfl ?_; (with_reducible refine (change_Unquote.calls k a1 t339 t340 _ A3.out).mono ?_); rintro e wz1 ⟨rfl, hb⟩; refine ⟨_, rfl, ?_⟩; have n0_ := Aside0.mk (below_step zq0_ hb); clear HB; have HB := n0_; clear n0_; (try clear hb); (try clear hb2); (try clear hk); (try clear hi)) | ((with_reducible refine gate_callee (f := 8) rfl ?_); refine zqG_ (some 28) rfl Tryd.func8 #[.string a0] rfl ?_; (with_reducible refine (change_Quote.calls k a0 t346 _ A7.out).mono ?_); rintro e wz5 ⟨rfl, hb⟩; refine ⟨_, rfl, ?_⟩; have n0_ := Aside0.mk (below_step zq0_ hb); clear HB; have HB := n0_; clear n0_; (try clear hb); (try clear hb2); (try clear hk); (try clear hi)) | ((with_reducible refine gate_callee (f := 9) rfl ?_); refine zqG_ (some 30) rfl Tryd.func9 #[.string a0] rfl ?_; (with_reducible refine (topiaryref05_Quote.calls k a0 t347 _ A8.out).mono ?_); rintro e wz6 ⟨rfl, hb⟩; refine ⟨_, rfl, ?_⟩; have n0_ := Aside0.mk (below_step zq0_ hb); clear HB; have HB := n0_; clear n0_; (try clear hb); (try clear hb2); (try clear hk); (try clear hi)))))
 ·go_ret
  exact ⟨by first | rfl | (simp [errW_none, errW_some] <;> rfl) | (simp [*, errW_none, errW_some] <;> rfl), by repeat (first | (with_reducible first | exact HB.out | apply below_alloc | apply pw_below_drewN | apply below_drew1) | exact HB.out)⟩
 ·go_ret
  exact ⟨by first | rfl | (simp [errW_none, errW_some] <;> rfl) | (simp [*, errW_none, errW_some] <;> rfl), by repeat (first | (with_reducible first | exact HB.out | apply below_alloc | apply pw_below_drewN | apply below_drew1) | exact HB.out)⟩
 ·go_ret
  exact ⟨by first | rfl | (simp [errW_none, errW_some] <;> rfl) | (simp [*, errW_none, errW_some] <;> rfl), by repeat (first | (with_reducible first | exact HB.out | apply below_alloc | apply pw_below_drewN | apply below_drew1) | exact HB.out)⟩
 ·go_ret
  exact ⟨by first | rfl | (simp [errW_none, errW_some] <;> rfl) | (simp [*, errW_none, errW_some] <;> rfl), by repeat (first | (with_reducible first | exact HB.out | apply below_alloc | apply pw_below_drewN | apply below_drew1) | exact HB.out)⟩
 ·go_enter Tryd.func3, Tryd.ntmps3
  go_wp2_with (first | ((with_reducible refine gate_callee (f := 6) rfl ?_); refine zqG_ (some 13) rfl Tryd.func6 #[.string a1] rfl ?_; (with_reducible refine (change_Unquote.calls k a1 t339 t340 _ A3.out).mono ?_); rintro e wz1 ⟨rfl, hb⟩; refine ⟨_, rfl, ?_⟩; have n0_ := Aside0.mk (below_step zq0_ hb); clear HB; have HB := n0_; clear n0_; (try clear hb); (try clear hb2); (try clear hk); (try clear hi)) | ((with_reducible refine gate_callee (f := 7) rfl ?_); refine zqG_ (some 18) rfl Tryd.func7 #[.string a1] rfl ?_; (with_reducible refine (topiaryref05_Unquote.calls k a1 t341 t342 _ A4.out).mono ?_); rintro e wz2 ⟨rfl, hb⟩; refine ⟨_, rfl, ?_⟩; have n0_ := Aside0.mk (below_step zq0_ hb); clear HB; have HB := n0_; clear n0_; (try clear hb); (try clear hb2); (try clear hk); (try clear hi)) | ((with_reducible refine gate_callee (f := 8) rfl ?_); refine zqG_ (some 23) rfl Tryd.func8 #[.string a0] rfl ?_; (with_reducible refine (change_Quote.calls k a0 t343 _ A5.out).mono ?_); rintro e wz3 ⟨rfl, hb⟩; refine ⟨_, rfl, ?_⟩; have n0_ := Aside0.mk (below_step zq0_ hb); clear HB; have HB := n0_; clear n0_; (try clear hb); (try clear hb2); (try clear hk); (try clear hi)) | ((with_reducible refine gate_callee (f := 6) rfl ?_); refine zqG_ (some 24) rfl Tryd.func6 #[.string t343] rfl ?_; (with_reducible refine (change_Unquote.calls k t343 t344 false _ A6.out).mono ?_); rintro e wz4 ⟨rfl, hb⟩; refine ⟨_, rfl, ?_⟩; have n0_ := Aside0.mk (below_step zq0_ hb); clear HB; have HB := n0_; clear n0_; (try clear hb); (try clear hb2); (try clear hk); (try clear hi)) | ((with_reducible refine gate_callee (f := 8) rfl ?_); refine zqG_ (some 28) rfl Tryd.func8 #[.string a0] rfl ?_; (with_reducible refine (change_Quote.calls k a0 t346 _ A7.out).mono ?_); rintro e wz5 ⟨rfl, hb⟩; refine ⟨_, rfl, ?_⟩; have n0_ := Aside0.mk (below_step zq0_ hb); clear HB; have HB := n0_; clear n0_; (try clear hb); (try clear hb2); (try clear hk); (try clear hi)) | ((with_reducible refine gate_callee (f := 9) rfl ?_); refine zqG_ (some 30) rfl Tryd.func9 #[.string a0] rfl ?_; (with_reducible refine (topiaryref05_Quote.calls k a0 t347 _ A8.out).mono ?_); rintro e wz6 ⟨rfl, hb⟩; refine ⟨_, rfl, ?_⟩; have n0_ := Aside0.mk (below_step zq0_ hb); clear HB; have HB := n0_; clear n0_; (try clear hb); (try clear hb2); (try clear hk); (try clear hi)))
  go_ret
  exact ⟨by first | rfl | (simp [errW_none, errW_some] <;> rfl) | (simp [*, errW_none, errW_some] <;> rfl), by repeat (first | (with_reducible first | exact HB.out | apply below_alloc | apply pw_below_drewN | apply below_drew1) | exact HB.out)⟩
 ·go_enter Tryd.func3, Tryd.ntmps3
  go_wp2_with (first | ((with_reducible refine gate_callee (f := 6) rfl ?_); refine zqG_ (some 13) rfl Tryd.func6 #[.string a1] rfl ?_; (with_reducible refine (change_Unquote.calls k a1 t339 t340 _ A3.out).mono ?_); rintro e wz1 ⟨rfl, hb⟩; refine ⟨_, rfl, ?_⟩; have n0_ := Aside0.mk (below_step zq0_ hb); clear HB; have HB := n0_; clear n0_; (try clear hb); (try clear hb2); (try clear hk); (try clear hi)) | ((with_reducible refine gate_callee (f := 7) rfl ?_); refine zqG_ (some 18) rfl Tryd.func7 #[.string a1] rfl ?_; (with_reducible refine (topiaryref05_Unquote.calls k a1 t341 t342 _ A4.out).mono ?_); rintro e wz2 ⟨rfl, hb⟩; refine ⟨_, rfl, ?_⟩; have n0_ := Aside0.mk (below_step zq0_ hb); clear HB; have HB := n0_; clear n0_; (try clear hb); (try clear hb2); (try clear hk); (try clear hi)) | ((with_reducible refine gate_callee (f := 8) rfl ?_); refine zqG_ (some 23) rfl Tryd.func8 #[.string a0] rfl ?_; (with_reducible refine (change_Quote.calls k a0 t343 _ A5.out).mono ?_); rintro e wz3 ⟨rfl, hb⟩; refine ⟨_, rfl, ?_⟩; have n0_ := Aside0.mk (below_step zq0_ hb); clear HB; have HB := n0_; clear n0_; (try clear hb); (try clear hb2); (try clear hk); (try clear hi)) | ((with_reducible refine gate_callee (f := 6) rfl ?_); refine zqG_ (some 24) rfl Tryd.func6 #[.string t343] rfl ?_; (with_reducible refine (change_Unquote.calls k t343 t344 true _ A6.out).mono ?_); rintro e wz4 ⟨rfl, hb⟩; refine ⟨_, rfl, ?_⟩; have n0_ := Aside0.mk (below_step zq0_ hb); clear HB; have HB := n0_; clear n0_; (try clear hb); (try clear hb2); (try clear hk); (try clear hi)) | ((with_reducible refine gate_callee (f := 8) rfl ?_); refine zqG_ (some 28) rfl Tryd.func8 #[.string a0] rfl ?_; (with_reducible refine (change_Quote.calls k a0 t346 _ A7.out).mono ?_); rintro e wz5 ⟨rfl, hb⟩; refine ⟨_, rfl, ?_⟩; have n0_ := Aside0.mk (below_step zq0_ hb); clear HB; have HB := n0_; clear n0_; (try clear hb); (try clear hb2); (try clear hk); (try clear hi)) | ((with_reducible refine gate_callee (f := 9) rfl ?_); refine zqG_ (some 30) rfl Tryd.func9 #[.string a0] rfl ?_; (with_reducible refine (topiaryref05_Quote.calls k a0 t347 _ A8.out).mono ?_); rintro e wz6 ⟨rfl, hb⟩; refine ⟨_, rfl, ?_⟩; have n0_ := Aside0.mk (below_step zq0_ hb); clear HB; have HB := n0_; clear n0_; (try clear hb); (try clear hb2); (try clear hk); (try clear hi)) | (go_at_call 10; (with_reducible refine (topiarylaw05_awake.calls k  t348 _ (tabW_below_ HTAB.out zq0_) A14.out).mono ?_); rintro e wz7 ⟨rfl, hb⟩; have n0_ := Aside0.mk (below_step zq0_ hb); clear HB; have HB := n0_; clear n0_; (try clear hb); (try clear hb2); (try clear hk); (try clear hi)))
  go_ret
  exact ⟨by first | rfl | (simp [errW_none, errW_some] <;> rfl) | (simp [*, errW_none, errW_some] <;> rfl), by repeat (first | (with_reducible first | exact HB.out | apply below_alloc | apply pw_below_drewN | apply below_drew1) | exact HB.out)⟩

/-- THE ONE PURE STATEMENT of topiarylaw05_ChangeQuotes: yours. -/
def topiarylaw05_ChangeQuotes.Pure : Prop := ∀ (a0 : ByteArray) (a1 : ByteArray), a0.size ≤ 1048576 → a1.size ≤ 1048576 → ∃ k, topiarylaw05_ChangeQuotes.f k a0 a1 = some true
theorem topiarylaw05_ChangeQuotes.walk (P : topiarylaw05_ChangeQuotes.Pure) (a0 : ByteArray) (a1 : ByteArray) (w : World) (htab : TabW_ w) (w0 : a0.size ≤ 1048576) (w1 : a1.size ≤ 1048576) :
  Calls Tryd.prog 3 #[.string a0, .string a1] w fun e w' => e = .returned (.bool true) ∧ Below w.heap.size w w' := by
 obtain ⟨k, h⟩ := P a0 a1 w0 w1
 refine (topiarylaw05_ChangeQuotes.calls k a0 a1 true w htab h).mono ?_
 rintro e w' ⟨rfl, hd⟩
 exact ⟨rfl, hd⟩

end Go.Proofs.YtgoolgmcbnikkaaDoor.QChangeQuotes
