-- The row of PatchTouches: laid by the session's program cardrow.py (wip/tools). Lean checks it.
import Derived.Test.YtaogeajjidnfgaaRows
import Derived.WalkKit
import Derived.ProofKit
import Derived.OpenShut
import Derived.ShutString
import Derived.ChangeOld
import Derived.Below
import Derived.Carry
import Derived.Deep.DeepHandedRow
import Derived.Lib.LaidTab
import Derived.Lib.SmallJoins
import Derived.Stop.LaidErr
import Derived.Test.YtaogeajjidnfgaaQPatchTouchesx
import Derived.Test.YtaogeajjidnfgaaPurePatchTouches
import Derived.SizedLaws
import Derived.Test.YtaogeajjidnfgaaWSized
import Derived.Deep.Slices
import Derived.Deep.Fields
import Derived.ChangeSame
import Derived.SizedLaws
import Derived.ChangeArms
namespace Go.Proofs.Ytaogeajjidnfgaa.patchTouches
section
set_option linter.unusedVariables false
set_option linter.unusedSimpArgs false
open Go.ChangeShapes Go.WideShapes Go.Deep Go.RowKit
open Go.Proofs.YtaogeajjidnfgaaW.PrintWords Go.Proofs.Ytaogeajjidnfgaa.QPatchTouches
/-! ### What is read as data of a type reads as the printed texts' kinds do -/
section
open Go.ChangeShapes Go.WideShapes Go.Deep Go.RowKit
variable {H : Type} {enc : TypeId × Value → H} {P : Program} {w : World} {base : Nat} {spare : Nat → Bool} {held : Bool} {α : Type}
/-- Data of the type t are some a of the kind d, which fits ('F', the datum's bulk at hand). -/
def Opn (enc : TypeId × Value → H) (P : Program) (w : World) (base : Nat) (spare : Nat → Bool) (held : Bool) (d : Kd α) (F : Nat → α → Prop) (t : TypeId) : Prop :=
  ∀ (fuel : Nat) (cs : List Value) (x : DataW H × List MemPlace), DataW.trod enc P w base spare held fuel t cs = some x → ∃ a : α, d.K w a cs ∧ F (Rows.uptoBulk x.1) a
def FitInt (k : IntKind) (_ : Nat) (a : Int) : Prop := (Lit.int k a).wf = true
def FitBool (_ : Nat) (_ : Bool) : Prop := True
def FitStr (n : Nat) (s : ByteArray) : Prop := s.size ≤ n
def FitList (F : Nat → α → Prop) (n : Nat) (l : List α) : Prop := l.length ≤ n ∧ ∀ a, a ∈ l → F n a
theorem opn_int {k : IntKind} {t : TypeId} (ht : P.underlying t = some (.int k)) : Opn enc P w base spare held (Kd.int k) (FitInt k) t := by
  intro fuel cs x h
  obtain ⟨a, rfl, rfl, hw⟩ := DataW.trod_int ht h
  exact ⟨a, rfl, hw⟩
theorem opn_bool {t : TypeId} (ht : P.underlying t = some .bool) : Opn enc P w base spare held Kd.bool FitBool t := by
  intro fuel cs x h
  obtain ⟨a, rfl, rfl⟩ := DataW.trod_bool ht h
  exact ⟨a, rfl, trivial⟩
theorem opn_string {t : TypeId} (ht : P.underlying t = some .string) : Opn enc P w base spare held Kd.string FitStr t := by
  intro fuel cs x h
  obtain ⟨s, rfl, rfl, hm⟩ := DataW.trod_string ht h
  refine ⟨s, rfl, ?_⟩
  simp only [FitStr, Rows.uptoBulk]
  rw [show s.size = s.data.toList.length from rfl]; omega
theorem bulkAll_get {l : List (DataW H)} {d : DataW H} (h : d ∈ l) : Rows.uptoBulk d ≤ Rows.uptoBulkAll l := by
  induction l with
  | nil => cases h
  | cons y r ih =>
    simp only [Rows.uptoBulkAll]
    rcases List.mem_cons.1 h with rfl | h
    · omega
    · have := ih h; omega
theorem bulk_one (d : DataW H) : 1 ≤ Rows.uptoBulk d := by
  cases d with
  | lit l => cases l <;> simp [Rows.uptoBulk]
  | _ => simp [Rows.uptoBulk]
theorem bulkAll_len : ∀ (l : List (DataW H)), l.length ≤ Rows.uptoBulkAll l
  | [] => by simp [Rows.uptoBulkAll]
  | x :: r => by
    have h1 := bulk_one x
    have h2 := bulkAll_len r
    simp only [Rows.uptoBulkAll, List.length_cons]; omega
theorem opn_row {d : Kd α} {F : Nat → α → Prop} {t e : TypeId} (hF : ∀ n m a, n ≤ m → F n a → F m a) (hd : Opn enc P w base spare held d F e) (ht : P.underlying t = some (.slice e)) (hC : P.cellsOf e = d.sz) {fuel : Nat} {cs : List Value} {x : DataW H × List MemPlace}
    (h : DataW.trod enc P w base spare held fuel t cs = some x) : ∃ (A : Option Addr) (n c : Nat) (xs : List α), cs = [.slice A n c] ∧ n ≤ c ∧ n = xs.length ∧ d.C w A xs.length xs ∧ FitList F (Rows.uptoBulk x.1) xs ∧ (x.1 = .nil ∧ n = 0 ∨ ∃ el sp, x.1 = .slice el sp ∧ el.length = n) := by
  rcases open_slice ht h with ⟨rfl, rfl⟩ | ⟨a, len, cap, m, n, D, Pl, rfl, _, hl, hm, hmm, rfl, hi⟩
  · exact ⟨none, 0, 0, [], rfl, Nat.le_refl _, rfl, Kd.C_nil _ _, ⟨by simp, fun _ h => by cases h⟩, .inl ⟨rfl, rfl⟩⟩
  · have hlm : len ≤ m := by rw [hmm]; split <;> omega
    have hx : ∀ i, i < len → ∃ (b : α) (cs' : List Value), w.cells? base (a.add (i * P.cellsOf e)) (P.cellsOf e) = some cs' ∧ d.K w b cs' ∧ F (Rows.uptoBulk (D i)) b := fun i hil => by
      obtain ⟨cs', h1, h2⟩ := hi i (by omega)
      obtain ⟨b, h3, h4⟩ := hd _ _ _ h2
      exact ⟨b, cs', h1, h3, h4⟩
    have hinh : len = 0 ∨ Nonempty α := by
      rcases Nat.eq_zero_or_pos len with h0 | h0
      · exact .inl h0
      · obtain ⟨b, _⟩ := hx 0 h0; exact .inr ⟨b⟩
    rcases hinh with h0 | ⟨⟨z⟩⟩
    · subst h0
      exact ⟨some a, 0, cap, [], rfl, by omega, rfl, ⟨rfl, by simp, fun h => absurd h (Nat.lt_irrefl 0)⟩, ⟨by simp, fun _ h => by cases h⟩, .inr ⟨_, _, rfl, by simp⟩⟩
    · have hch : ∃ f : Nat → α, ∀ i, i < len → ∃ cs' : List Value, w.cells? base (a.add (i * P.cellsOf e)) (P.cellsOf e) = some cs' ∧ d.K w (f i) cs' ∧ F (Rows.uptoBulk (D i)) (f i) :=
        ⟨fun i => if hil : i < len then (hx i hil).choose else z, fun i hil => by simp only [dif_pos hil]; exact (hx i hil).choose_spec⟩
      obtain ⟨f, hf⟩ := hch
      refine ⟨some a, len, cap, (List.range len).map f, rfl, hl, by simp, ⟨rfl, ?_, fun _ => ⟨a, rfl, fun j p hj => ?_⟩⟩, ⟨?_, ?_⟩, .inr ⟨_, _, rfl, by simp⟩⟩
      · simp; unfold maxLen at hm; omega
      · obtain ⟨hj', rfl⟩ := List.getElem?_eq_some_iff.1 hj
        have hjl : j < len := by simpa using hj'
        obtain ⟨cs', h1, h2, _⟩ := hf j hjl
        obtain ⟨_, hcl, hat⟩ := World.cells?_some h1
        refine ⟨cs', d.K_len h2, by simpa using h2, fun i u hu => ?_⟩
        have hil : i < P.cellsOf e := by obtain ⟨q, _⟩ := List.getElem?_eq_some_iff.1 hu; omega
        have := hat i hil
        rw [← Go.Deep.add_add, ← hC]
        rw [this]; exact hu
      · simp only [Rows.uptoBulk, List.length_map, List.length_range]
        have := bulkAll_len ((List.range len).map D)
        simp at this; omega
      · intro b hb
        obtain ⟨i, hil, rfl⟩ := List.mem_map.1 hb
        obtain ⟨_, _, _, h4⟩ := hf i (List.mem_range.1 hil)
        refine hF _ _ _ ?_ h4
        simp only [Rows.uptoBulk]
        have := bulkAll_get (l := (List.range len).map D) (d := D i) (List.mem_map.2 ⟨i, hil, rfl⟩)
        omega
theorem opn_slice {d : Kd α} {F : Nat → α → Prop} {t e : TypeId} (hF : ∀ n m a, n ≤ m → F n a → F m a) (hd : Opn enc P w base spare held d F e) (ht : P.underlying t = some (.slice e)) (hC : P.cellsOf e = d.sz) :
    Opn enc P w base spare held (Kd.slice e d) (FitList F) t := by
  intro fuel cs x h
  obtain ⟨A, n, c, xs, rfl, hnc, rfl, hK, hf, _⟩ := opn_row hF hd ht hC h
  exact ⟨xs, ⟨A, c, rfl, hnc, hK⟩, hf⟩
/-- A slice among the parameters is no longer than its weight allows. -/
theorem row_sized {t e : TypeId} {ts : List TypeId} {ds : List (DataW H)} {j n B : Nat} {d : DataW H} (hsz : (DataW.weightsEach P ts ds).all (· ≤ reachBytes) = true) (ht : ts[j]? = some t) (hd : ds[j]? = some d) (hu : P.underlying t = some (.slice e)) (hB : P.bytesOf e = B)
    (h : d = .nil ∧ n = 0 ∨ ∃ el sp, d = .slice el sp ∧ el.length = n) : n * B ≤ 140737488351232 := by
  rcases h with ⟨_, rfl⟩ | ⟨el, sp, rfl, rfl⟩
  · simp
  · have z := sized_slice hsz ht hd hu
    rw [hB] at z
    exact Nat.le_trans (Nat.mul_le_mul_right _ (Nat.le_add_right _ _)) z
end
theorem drop_split (cs : List Value) (o s : Nat) : cs.drop o = (cs.drop o).take s ++ cs.drop (o + s) := by rw [← List.drop_drop, List.take_append_drop]
theorem fitStr_mono (n m : Nat) (x : ByteArray) (h : n ≤ m) (k : FitStr n x) : FitStr m x := Nat.le_trans k h
def Fit23 (n : Nat) (x : S23) : Prop := (FitInt .i64) n x.f0 ∧ (FitInt .i64) n x.f1
theorem fit23_mono : ∀ n m x, n ≤ m → Fit23 n x → Fit23 m x := fun _ _ _ h k => ⟨(fun _ _ _ _ h => h) _ _ _ h k.1, (fun _ _ _ _ h => h) _ _ _ h k.2⟩
theorem opn23 {H : Type} {enc : TypeId × Value → H} {w : World} {base : Nat} {spare : Nat → Bool} {held : Bool} : Opn enc Try.prog w base spare held k23 Fit23 23 := by
  intro fuel cs x h
  obtain ⟨ys, n, rfl, rfl, hlen, hyl, hf⟩ := DataW.trod_struct Try.underlying23 h
  have hlen' : cs.length = 2 := hlen.trans (by kernel_rfl)
  have e3 : Try.prog.cellsOf 3 = 1 := by kernel_rfl
  have hyl' : ys.length = 2 := hyl
  match ys, hyl' with
  | [y0, y1], _ =>
    have g0 : DataW.trod enc Try.prog w base spare held n 3 ((cs.drop 0).take (Try.prog.cellsOf 3)) = some y0 := hf 0 _ rfl
    rw [e3] at g0
    obtain ⟨a0, hk0, hf0⟩ := (opn_int Try.underlying3) _ _ _ g0
    have g1 : DataW.trod enc Try.prog w base spare held n 3 ((cs.drop 1).take (Try.prog.cellsOf 3)) = some y1 := hf 1 _ rfl
    rw [e3] at g1
    obtain ⟨a1, hk1, hf1⟩ := (opn_int Try.underlying3) _ _ _ g1
    rw [List.take_of_length_le (by rw [List.length_drop]; omega)] at hk1
    simp only [List.drop_zero] at hk0
    refine ⟨⟨a0, a1⟩, ⟨_, _, (by have h_ := drop_split cs 0 1; simpa using h_), hk0, hk1⟩, ?_, ?_⟩
    · exact hf0
    · exact hf1
def Fit25 (n : Nat) (x : S25) : Prop := (FitInt .i64) n x.f0 ∧ Fit23 n x.f1 ∧ Fit23 n x.f2 ∧ Fit23 n x.f3 ∧ FitStr n x.f4 ∧ FitStr n x.f5
theorem fit25_mono : ∀ n m x, n ≤ m → Fit25 n x → Fit25 m x := fun _ _ _ h k => ⟨(fun _ _ _ _ h => h) _ _ _ h k.1, fit23_mono _ _ _ h k.2.1, fit23_mono _ _ _ h k.2.2.1, fit23_mono _ _ _ h k.2.2.2.1, fitStr_mono _ _ _ h k.2.2.2.2.1, fitStr_mono _ _ _ h k.2.2.2.2.2⟩
theorem opn25 {H : Type} {enc : TypeId × Value → H} {w : World} {base : Nat} {spare : Nat → Bool} {held : Bool} : Opn enc Try.prog w base spare held k25 Fit25 25 := by
  intro fuel cs x h
  obtain ⟨ys, n, rfl, rfl, hlen, hyl, hf⟩ := DataW.trod_struct Try.underlying25 h
  have hlen' : cs.length = 9 := hlen.trans (by kernel_rfl)
  have e23 : Try.prog.cellsOf 23 = 2 := by kernel_rfl
  have e3 : Try.prog.cellsOf 3 = 1 := by kernel_rfl
  have e9 : Try.prog.cellsOf 9 = 1 := by kernel_rfl
  have hyl' : ys.length = 6 := hyl
  match ys, hyl' with
  | [y0, y1, y2, y3, y4, y5], _ =>
    have g0 : DataW.trod enc Try.prog w base spare held n 3 ((cs.drop 0).take (Try.prog.cellsOf 3)) = some y0 := hf 0 _ rfl
    rw [e3] at g0
    obtain ⟨a0, hk0, hf0⟩ := (opn_int Try.underlying3) _ _ _ g0
    have g1 : DataW.trod enc Try.prog w base spare held n 23 ((cs.drop 1).take (Try.prog.cellsOf 23)) = some y1 := hf 1 _ rfl
    rw [e23] at g1
    obtain ⟨a1, hk1, hf1⟩ := opn23 _ _ _ g1
    have g2 : DataW.trod enc Try.prog w base spare held n 23 ((cs.drop 3).take (Try.prog.cellsOf 23)) = some y2 := hf 2 _ rfl
    rw [e23] at g2
    obtain ⟨a2, hk2, hf2⟩ := opn23 _ _ _ g2
    have g3 : DataW.trod enc Try.prog w base spare held n 23 ((cs.drop 5).take (Try.prog.cellsOf 23)) = some y3 := hf 3 _ rfl
    rw [e23] at g3
    obtain ⟨a3, hk3, hf3⟩ := opn23 _ _ _ g3
    have g4 : DataW.trod enc Try.prog w base spare held n 9 ((cs.drop 7).take (Try.prog.cellsOf 9)) = some y4 := hf 4 _ rfl
    rw [e9] at g4
    obtain ⟨a4, hk4, hf4⟩ := (opn_string Try.underlying9) _ _ _ g4
    have g5 : DataW.trod enc Try.prog w base spare held n 9 ((cs.drop 8).take (Try.prog.cellsOf 9)) = some y5 := hf 5 _ rfl
    rw [e9] at g5
    obtain ⟨a5, hk5, hf5⟩ := (opn_string Try.underlying9) _ _ _ g5
    rw [List.take_of_length_le (by rw [List.length_drop]; omega)] at hk5
    simp only [List.drop_zero] at hk0
    refine ⟨⟨a0, a1, a2, a3, a4, a5⟩, ⟨_, _, (by have h_ := drop_split cs 0 1; simpa using h_), hk0, ⟨_, _, drop_split cs 1 2, hk1, ⟨_, _, drop_split cs 3 2, hk2, ⟨_, _, drop_split cs 5 2, hk3, ⟨_, _, drop_split cs 7 1, hk4, hk5⟩⟩⟩⟩⟩, ?_, ?_, ?_, ?_, ?_, ?_⟩
    · exact hf0
    · refine fit23_mono _ _ _ ?_ hf1
      simp only [Rows.uptoBulk]
      have h_ := bulkAll_get (l := [y0, y1, y2, y3, y4, y5].map (·.1)) (d := y1.1) (by simp)
      omega
    · refine fit23_mono _ _ _ ?_ hf2
      simp only [Rows.uptoBulk]
      have h_ := bulkAll_get (l := [y0, y1, y2, y3, y4, y5].map (·.1)) (d := y2.1) (by simp)
      omega
    · refine fit23_mono _ _ _ ?_ hf3
      simp only [Rows.uptoBulk]
      have h_ := bulkAll_get (l := [y0, y1, y2, y3, y4, y5].map (·.1)) (d := y3.1) (by simp)
      omega
    · refine fitStr_mono _ _ _ ?_ hf4
      simp only [Rows.uptoBulk]
      have h_ := bulkAll_get (l := [y0, y1, y2, y3, y4, y5].map (·.1)) (d := y4.1) (by simp)
      omega
    · refine fitStr_mono _ _ _ ?_ hf5
      simp only [Rows.uptoBulk]
      have h_ := bulkAll_get (l := [y0, y1, y2, y3, y4, y5].map (·.1)) (d := y5.1) (by simp)
      omega
end
open Go.ChangeShapes Go.WideShapes Go.ChangeAt Go.RowKit
open Go.ChangeMaps (open_string shut_string)
set_option linter.unusedVariables false
set_option linter.unusedSimpArgs false
theorem own : ownKnob Try.prog.godebug = none := by kernel_rfl
theorem laidOut : laidOutB Try.prog = true := by kernel_rfl
set_option maxRecDepth 100000 in
theorem contract (H : Type) (enc : TypeId × Value → H) (W : World) (base : Nat) (args : Array Value) (ds gs : List (DataW H)) (before : List MemPlace)
    (hval0 : ∀ (j : Nat) t v, Try.f7.params[j]? = some t → args[j]? = some v → Value.okWide Try.prog W .any base t v)
    (hW : DataW.Whole enc Try.prog Try.f7.params.toList Rows.patchTouchesSpec.vars false W args.toList ds gs before)
    (hsz0 : (DataW.weightsEach Try.prog (Try.f7.params.toList ++ Rows.patchTouchesSpec.plain.varTypes Try.prog) (ds ++ gs)).all (· ≤ reachBytes) = true)
    :
    Calls Try.prog 7 args W fun e W' => ∃ v, e = .returned v ∧ Rows.patchTouchesSpec.post enc Try.prog Try.f7 false true false false W args v W' := by
  have hsz : (DataW.weightsEach Try.prog (Try.f7.params.toList ++ Rows.patchTouchesSpec.plain.varTypes Try.prog) (ds ++ gs)).all (· ≤ reachBytes) = true := hsz0
  have hval : ∀ (j : Nat) t v, Try.f7.params[j]? = some t → args[j]? = some v → Value.okWide Try.prog W .any base t v := hval0
  have hW' := hW
  obtain ⟨p, q, hA0, hV, rfl, hfz, hnd⟩ := hW
  have hA : DataW.TrodAll enc Try.prog W 0 (fun _ => true) true Try.f7.params.toList args.toList ds p := hA0
  rw [Try.params7] at hA hval hsz
  obtain ⟨v0, vs0, d0, ds0, p0, q0, hargs, rfl, rfl, h0, r0⟩ := trodAll_cons hA
  obtain ⟨rfl, rfl, rfl⟩ := trodAll_nil r0
  obtain rfl : args = #[v0] := by cases args; simp_all
  obtain ⟨rfl, rfl⟩ := trodVars_none hV
  obtain ⟨b0, len0, cap0, rfl⟩ := okWide_slice Try.underlying34 (hval 0 34 v0 rfl rfl)
  have k0 := h0
  have lt0 : ∀ x ∈ p0, x.block < W.heap.size := by obtain ⟨m, hm⟩ := k0; exact DataW.trod_lt m _ _ _ hm
  obtain ⟨l0, hle0, hC0, hfit0, hsh0, rfl⟩ : ∃ l : List QPatchTouches.S25, l.length ≤ cap0 ∧ Go.Proofs.YtaogeajjidnfgaaW.PrintWords.Kd.C QPatchTouches.k25 W b0 l.length l ∧ FitList Fit25 (Rows.uptoBulk d0) l ∧ (d0 = .nil ∧ l.length = 0 ∨ ∃ el sp, d0 = .slice el sp ∧ el.length = l.length) ∧ len0 = l.length := by
    obtain ⟨fuel, hf⟩ := h0
    obtain ⟨A_, n_, c_, xs, hcs, hnc, hn, hK, hft, hsh⟩ := opn_row fit25_mono opn25 Try.underlying34 (by kernel_rfl) hf
    simp [Value.cells] at hcs
    obtain ⟨rfl, rfl, rfl⟩ := hcs
    subst hn
    exact ⟨xs, hnc, hK, hft, hsh, rfl⟩
  have hsized0 := row_sized (j := 0) (n := l0.length) hsz rfl rfl Try.underlying34 (B := 88) (by kernel_rfl) hsh0
  clear hA0 hval0 hsz0
  obtain ⟨kq, hq⟩ := PurePatchTouches.law l0 (by omega)
  refine (QPatchTouches.topiarylaw17_PatchTouches.calls kq b0 cap0 l0 true W hC0 hle0 (hq kq (Nat.le_refl _))).mono fun e W' ⟨he, bel⟩ => ?_
  subst he
  exact ⟨_, rfl, _, _, _, [], _, [], hW', trodAll_mk1 (shut_bool Try.underlying4 _), (trodAll_cons_mk (Below.trod laidOut (by kernel_rfl) (of_decide_eq_true (by kernel_rfl)) k0 bel lt0) trodAll_mk0), rfl, bel.frame _, fun h => by cases h⟩
set_option maxRecDepth 100000 in
theorem lifted (os : Os) (started : os.Started) (H : Type) (enc : TypeId × Value → H) :
    ReturnsInHanded {} Try.checked os 7 .any (Rows.patchTouchesSpec.pre6 enc Try.prog Try.f7 Rows.patchTouchesRow.domain false) (Rows.patchTouchesSpec.post enc Try.prog Try.f7 false true false false) := by
  refine returnsInHanded_of_change_sized (C := Try.checked) own started (by kernel_rfl) Try.func7
    (ChangeSpec.witness6 (enc := enc) (C := Try.checked) false ⟨#[], #[.slice none 0 0], []⟩ 8 (by kernel_rfl) (by kernel_rfl) (by kernel_rfl) (by kernel_rfl)) ?_
  intro W base args ds gs before hval hW hcnd hsz _
  exact contract H enc W base args ds gs before hval hW hsz
theorem proved : Rows.PatchTouchesSaid :=
  OpenClaim.holds_of_wide 7 Try.f7 rfl rfl rfl rfl rfl rfl rfl ⟨rfl, rfl, rfl, rfl, rfl⟩ rfl rfl rfl rfl rfl (by kernel_rfl) Try.func7 (by kernel_rfl)
    (of_decide_eq_true (by kernel_rfl)) (by unfold Func.isWrapper; first | (rw [if_pos (by decide +kernel)]; kernel_rfl) | (rw [if_neg (by decide +kernel)]; exact ⟨rfl, rfl⟩))
    (fun os started H enc _ => lifted os started H enc)
end Go.Proofs.Ytaogeajjidnfgaa.patchTouches
namespace Go.Proofs.Ytaogeajjidnfgaa
/-- The card, under a short name, for the claim. -/
theorem patchTouches_holds : Rows.PatchTouchesSaid := patchTouches.proved
end Go.Proofs.Ytaogeajjidnfgaa
