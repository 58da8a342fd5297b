-- The row of PatchChecks: laid by the session's program cardrow.py (wip/tools). Lean checks it.
import Derived.Test.YtaogeajjidnfgaaRows
import Derived.WalkKit
import Derived.ProofKit
import Derived.OpenShut
import Derived.ShutString
import Derived.ChangeOld
import Derived.Below
import Derived.Carry
import Derived.Deep.DeepHandedRow
import Derived.Lib.LaidTab
import Derived.Lib.SmallJoins
import Derived.Stop.LaidErr
import Derived.Test.YtaogeajjidnfgaaQPatchChecksx
import Derived.Test.YtaogeajjidnfgaaPurePatchChecks
import Derived.SizedLaws
import Derived.Test.YtaogeajjidnfgaaWSized
import Derived.Deep.Slices
import Derived.Deep.Fields
import Derived.ChangeSame
import Derived.SizedLaws
import Derived.ChangeArms
namespace Go.Proofs.Ytaogeajjidnfgaa.patchChecks
section
set_option linter.unusedVariables false
set_option linter.unusedSimpArgs false
open Go.ChangeShapes Go.WideShapes Go.Deep Go.RowKit
open Go.Proofs.YtaogeajjidnfgaaW.PrintWords Go.Proofs.Ytaogeajjidnfgaa.QPatchChecks
/-! ### What is read as data of a type reads as the printed texts' kinds do -/
section
open Go.ChangeShapes Go.WideShapes Go.Deep Go.RowKit
variable {H : Type} {enc : TypeId × Value → H} {P : Program} {w : World} {base : Nat} {spare : Nat → Bool} {held : Bool} {α : Type}
/-- Data of the type t are some a of the kind d, which fits ('F', the datum's bulk at hand). -/
def Opn (enc : TypeId × Value → H) (P : Program) (w : World) (base : Nat) (spare : Nat → Bool) (held : Bool) (d : Kd α) (F : Nat → α → Prop) (t : TypeId) : Prop :=
  ∀ (fuel : Nat) (cs : List Value) (x : DataW H × List MemPlace), DataW.trod enc P w base spare held fuel t cs = some x → ∃ a : α, d.K w a cs ∧ F (Rows.uptoBulk x.1) a
def FitInt (k : IntKind) (_ : Nat) (a : Int) : Prop := (Lit.int k a).wf = true
def FitBool (_ : Nat) (_ : Bool) : Prop := True
def FitStr (n : Nat) (s : ByteArray) : Prop := s.size ≤ n
def FitList (F : Nat → α → Prop) (n : Nat) (l : List α) : Prop := l.length ≤ n ∧ ∀ a, a ∈ l → F n a
theorem opn_int {k : IntKind} {t : TypeId} (ht : P.underlying t = some (.int k)) : Opn enc P w base spare held (Kd.int k) (FitInt k) t := by
  intro fuel cs x h
  obtain ⟨a, rfl, rfl, hw⟩ := DataW.trod_int ht h
  exact ⟨a, rfl, hw⟩
theorem opn_bool {t : TypeId} (ht : P.underlying t = some .bool) : Opn enc P w base spare held Kd.bool FitBool t := by
  intro fuel cs x h
  obtain ⟨a, rfl, rfl⟩ := DataW.trod_bool ht h
  exact ⟨a, rfl, trivial⟩
theorem opn_string {t : TypeId} (ht : P.underlying t = some .string) : Opn enc P w base spare held Kd.string FitStr t := by
  intro fuel cs x h
  obtain ⟨s, rfl, rfl, hm⟩ := DataW.trod_string ht h
  refine ⟨s, rfl, ?_⟩
  simp only [FitStr, Rows.uptoBulk]
  rw [show s.size = s.data.toList.length from rfl]; omega
theorem bulkAll_get {l : List (DataW H)} {d : DataW H} (h : d ∈ l) : Rows.uptoBulk d ≤ Rows.uptoBulkAll l := by
  induction l with
  | nil => cases h
  | cons y r ih =>
    simp only [Rows.uptoBulkAll]
    rcases List.mem_cons.1 h with rfl | h
    · omega
    · have := ih h; omega
theorem bulk_one (d : DataW H) : 1 ≤ Rows.uptoBulk d := by
  cases d with
  | lit l => cases l <;> simp [Rows.uptoBulk]
  | _ => simp [Rows.uptoBulk]
theorem bulkAll_len : ∀ (l : List (DataW H)), l.length ≤ Rows.uptoBulkAll l
  | [] => by simp [Rows.uptoBulkAll]
  | x :: r => by
    have h1 := bulk_one x
    have h2 := bulkAll_len r
    simp only [Rows.uptoBulkAll, List.length_cons]; omega
theorem opn_row {d : Kd α} {F : Nat → α → Prop} {t e : TypeId} (hF : ∀ n m a, n ≤ m → F n a → F m a) (hd : Opn enc P w base spare held d F e) (ht : P.underlying t = some (.slice e)) (hC : P.cellsOf e = d.sz) {fuel : Nat} {cs : List Value} {x : DataW H × List MemPlace}
    (h : DataW.trod enc P w base spare held fuel t cs = some x) : ∃ (A : Option Addr) (n c : Nat) (xs : List α), cs = [.slice A n c] ∧ n ≤ c ∧ n = xs.length ∧ d.C w A xs.length xs ∧ FitList F (Rows.uptoBulk x.1) xs ∧ (x.1 = .nil ∧ n = 0 ∨ ∃ el sp, x.1 = .slice el sp ∧ el.length = n) := by
  rcases open_slice ht h with ⟨rfl, rfl⟩ | ⟨a, len, cap, m, n, D, Pl, rfl, _, hl, hm, hmm, rfl, hi⟩
  · exact ⟨none, 0, 0, [], rfl, Nat.le_refl _, rfl, Kd.C_nil _ _, ⟨by simp, fun _ h => by cases h⟩, .inl ⟨rfl, rfl⟩⟩
  · have hlm : len ≤ m := by rw [hmm]; split <;> omega
    have hx : ∀ i, i < len → ∃ (b : α) (cs' : List Value), w.cells? base (a.add (i * P.cellsOf e)) (P.cellsOf e) = some cs' ∧ d.K w b cs' ∧ F (Rows.uptoBulk (D i)) b := fun i hil => by
      obtain ⟨cs', h1, h2⟩ := hi i (by omega)
      obtain ⟨b, h3, h4⟩ := hd _ _ _ h2
      exact ⟨b, cs', h1, h3, h4⟩
    have hinh : len = 0 ∨ Nonempty α := by
      rcases Nat.eq_zero_or_pos len with h0 | h0
      · exact .inl h0
      · obtain ⟨b, _⟩ := hx 0 h0; exact .inr ⟨b⟩
    rcases hinh with h0 | ⟨⟨z⟩⟩
    · subst h0
      exact ⟨some a, 0, cap, [], rfl, by omega, rfl, ⟨rfl, by simp, fun h => absurd h (Nat.lt_irrefl 0)⟩, ⟨by simp, fun _ h => by cases h⟩, .inr ⟨_, _, rfl, by simp⟩⟩
    · have hch : ∃ f : Nat → α, ∀ i, i < len → ∃ cs' : List Value, w.cells? base (a.add (i * P.cellsOf e)) (P.cellsOf e) = some cs' ∧ d.K w (f i) cs' ∧ F (Rows.uptoBulk (D i)) (f i) :=
        ⟨fun i => if hil : i < len then (hx i hil).choose else z, fun i hil => by simp only [dif_pos hil]; exact (hx i hil).choose_spec⟩
      obtain ⟨f, hf⟩ := hch
      refine ⟨some a, len, cap, (List.range len).map f, rfl, hl, by simp, ⟨rfl, ?_, fun _ => ⟨a, rfl, fun j p hj => ?_⟩⟩, ⟨?_, ?_⟩, .inr ⟨_, _, rfl, by simp⟩⟩
      · simp; unfold maxLen at hm; omega
      · obtain ⟨hj', rfl⟩ := List.getElem?_eq_some_iff.1 hj
        have hjl : j < len := by simpa using hj'
        obtain ⟨cs', h1, h2, _⟩ := hf j hjl
        obtain ⟨_, hcl, hat⟩ := World.cells?_some h1
        refine ⟨cs', d.K_len h2, by simpa using h2, fun i u hu => ?_⟩
        have hil : i < P.cellsOf e := by obtain ⟨q, _⟩ := List.getElem?_eq_some_iff.1 hu; omega
        have := hat i hil
        rw [← Go.Deep.add_add, ← hC]
        rw [this]; exact hu
      · simp only [Rows.uptoBulk, List.length_map, List.length_range]
        have := bulkAll_len ((List.range len).map D)
        simp at this; omega
      · intro b hb
        obtain ⟨i, hil, rfl⟩ := List.mem_map.1 hb
        obtain ⟨_, _, _, h4⟩ := hf i (List.mem_range.1 hil)
        refine hF _ _ _ ?_ h4
        simp only [Rows.uptoBulk]
        have := bulkAll_get (l := (List.range len).map D) (d := D i) (List.mem_map.2 ⟨i, hil, rfl⟩)
        omega
theorem opn_slice {d : Kd α} {F : Nat → α → Prop} {t e : TypeId} (hF : ∀ n m a, n ≤ m → F n a → F m a) (hd : Opn enc P w base spare held d F e) (ht : P.underlying t = some (.slice e)) (hC : P.cellsOf e = d.sz) :
    Opn enc P w base spare held (Kd.slice e d) (FitList F) t := by
  intro fuel cs x h
  obtain ⟨A, n, c, xs, rfl, hnc, rfl, hK, hf, _⟩ := opn_row hF hd ht hC h
  exact ⟨xs, ⟨A, c, rfl, hnc, hK⟩, hf⟩
/-- A slice among the parameters is no longer than its weight allows. -/
theorem row_sized {t e : TypeId} {ts : List TypeId} {ds : List (DataW H)} {j n B : Nat} {d : DataW H} (hsz : (DataW.weightsEach P ts ds).all (· ≤ reachBytes) = true) (ht : ts[j]? = some t) (hd : ds[j]? = some d) (hu : P.underlying t = some (.slice e)) (hB : P.bytesOf e = B)
    (h : d = .nil ∧ n = 0 ∨ ∃ el sp, d = .slice el sp ∧ el.length = n) : n * B ≤ 140737488351232 := by
  rcases h with ⟨_, rfl⟩ | ⟨el, sp, rfl, rfl⟩
  · simp
  · have z := sized_slice hsz ht hd hu
    rw [hB] at z
    exact Nat.le_trans (Nat.mul_le_mul_right _ (Nat.le_add_right _ _)) z
end
theorem drop_split (cs : List Value) (o s : Nat) : cs.drop o = (cs.drop o).take s ++ cs.drop (o + s) := by rw [← List.drop_drop, List.take_append_drop]
set_option maxRecDepth 100000 in
theorem open_T25 {H : Type} {enc : TypeId × Value → H} {W : World} {base b0 : Nat} {spare : Nat → Bool} {held : Bool} {v : Value} {d : DataW H} {p : List MemPlace} (hv : Value.okWide Try.prog W .any b0 25 v) (h : DataW.Trod enc Try.prog W base spare held 25 v d p) :
    ∃ (a0 : Int) (a1 : Int) (b1 : Int) (a2 : Int) (b2 : Int) (a3 : Int) (b3 : Int) (a4 : ByteArray) (a5 : ByteArray) (y0 y1 y2 y3 y4 y5 : DataW H × List MemPlace), v = .agg #[.int .i64 a0, .int .i64 a1, .int .i64 b1, .int .i64 a2, .int .i64 b2, .int .i64 a3, .int .i64 b3, .string a4, .string a5] ∧ d = .agg [y0.1, y1.1, y2.1, y3.1, y4.1, y5.1] ∧ a4.size ≤ maxLen ∧ a5.size ≤ maxLen := by
  obtain ⟨cs, rfl, hsz⟩ := okWide_struct Try.underlying25 hv
  obtain ⟨fuel, hf0⟩ := h
  obtain ⟨ys, n, rfl, hx, hlen, hyl, hf⟩ := DataW.trod_struct Try.underlying25 hf0
  have hlen' : (Value.agg cs).cells.toList.length = 9 := hlen.trans (by kernel_rfl)
  have hyl' : ys.length = 6 := hyl
  have e23 : Try.prog.cellsOf 23 = 2 := by kernel_rfl
  have e3 : Try.prog.cellsOf 3 = 1 := by kernel_rfl
  have e9 : Try.prog.cellsOf 9 = 1 := by kernel_rfl
  match ys, hyl' with
  | [y0, y1, y2, y3, y4, y5], _ =>
    obtain ⟨hd, -⟩ := Prod.mk.inj hx
    have g0 : DataW.trod enc Try.prog W base spare held n 3 (((Value.agg cs).cells.toList.drop 0).take (Try.prog.cellsOf 3)) = some y0 := hf 0 _ rfl
    rw [e3] at g0
    obtain ⟨a0, hk0, -, -⟩ := DataW.trod_int Try.underlying3 g0
    have g1 : DataW.trod enc Try.prog W base spare held n 23 (((Value.agg cs).cells.toList.drop 1).take (Try.prog.cellsOf 23)) = some y1 := hf 1 _ rfl
    rw [e23] at g1
    obtain ⟨zs1, n1, -, -, -, hz1, hg1⟩ := DataW.trod_struct Try.underlying23 g1
    have hz1' : zs1.length = 2 := hz1
    obtain ⟨p1, q1, rfl⟩ : ∃ p q, zs1 = [p, q] := by rcases zs1 with _ | ⟨p, _ | ⟨q, _ | ⟨r, t⟩⟩⟩ <;> simp at hz1' ; exact ⟨p, q, rfl⟩
    have u1 : DataW.trod enc Try.prog W base spare held n1 3 (((((Value.agg cs).cells.toList.drop 1).take 2).drop 0).take (Try.prog.cellsOf 3)) = some p1 := hg1 0 _ rfl
    have w1 : DataW.trod enc Try.prog W base spare held n1 3 (((((Value.agg cs).cells.toList.drop 1).take 2).drop 1).take (Try.prog.cellsOf 3)) = some q1 := hg1 1 _ rfl
    rw [e3] at u1 w1
    obtain ⟨a1, hk1, -, -⟩ := DataW.trod_int Try.underlying3 u1
    obtain ⟨b1, hm1, -, -⟩ := DataW.trod_int Try.underlying3 w1
    have g2 : DataW.trod enc Try.prog W base spare held n 23 (((Value.agg cs).cells.toList.drop 3).take (Try.prog.cellsOf 23)) = some y2 := hf 2 _ rfl
    rw [e23] at g2
    obtain ⟨zs2, n2, -, -, -, hz2, hg2⟩ := DataW.trod_struct Try.underlying23 g2
    have hz2' : zs2.length = 2 := hz2
    obtain ⟨p2, q2, rfl⟩ : ∃ p q, zs2 = [p, q] := by rcases zs2 with _ | ⟨p, _ | ⟨q, _ | ⟨r, t⟩⟩⟩ <;> simp at hz2' ; exact ⟨p, q, rfl⟩
    have u2 : DataW.trod enc Try.prog W base spare held n2 3 (((((Value.agg cs).cells.toList.drop 3).take 2).drop 0).take (Try.prog.cellsOf 3)) = some p2 := hg2 0 _ rfl
    have w2 : DataW.trod enc Try.prog W base spare held n2 3 (((((Value.agg cs).cells.toList.drop 3).take 2).drop 1).take (Try.prog.cellsOf 3)) = some q2 := hg2 1 _ rfl
    rw [e3] at u2 w2
    obtain ⟨a2, hk2, -, -⟩ := DataW.trod_int Try.underlying3 u2
    obtain ⟨b2, hm2, -, -⟩ := DataW.trod_int Try.underlying3 w2
    have g3 : DataW.trod enc Try.prog W base spare held n 23 (((Value.agg cs).cells.toList.drop 5).take (Try.prog.cellsOf 23)) = some y3 := hf 3 _ rfl
    rw [e23] at g3
    obtain ⟨zs3, n3, -, -, -, hz3, hg3⟩ := DataW.trod_struct Try.underlying23 g3
    have hz3' : zs3.length = 2 := hz3
    obtain ⟨p3, q3, rfl⟩ : ∃ p q, zs3 = [p, q] := by rcases zs3 with _ | ⟨p, _ | ⟨q, _ | ⟨r, t⟩⟩⟩ <;> simp at hz3' ; exact ⟨p, q, rfl⟩
    have u3 : DataW.trod enc Try.prog W base spare held n3 3 (((((Value.agg cs).cells.toList.drop 5).take 2).drop 0).take (Try.prog.cellsOf 3)) = some p3 := hg3 0 _ rfl
    have w3 : DataW.trod enc Try.prog W base spare held n3 3 (((((Value.agg cs).cells.toList.drop 5).take 2).drop 1).take (Try.prog.cellsOf 3)) = some q3 := hg3 1 _ rfl
    rw [e3] at u3 w3
    obtain ⟨a3, hk3, -, -⟩ := DataW.trod_int Try.underlying3 u3
    obtain ⟨b3, hm3, -, -⟩ := DataW.trod_int Try.underlying3 w3
    have g4 : DataW.trod enc Try.prog W base spare held n 9 (((Value.agg cs).cells.toList.drop 7).take (Try.prog.cellsOf 9)) = some y4 := hf 4 _ rfl
    rw [e9] at g4
    obtain ⟨a4, hk4, -, hm4⟩ := DataW.trod_string Try.underlying9 g4
    have g5 : DataW.trod enc Try.prog W base spare held n 9 (((Value.agg cs).cells.toList.drop 8).take (Try.prog.cellsOf 9)) = some y5 := hf 5 _ rfl
    rw [e9] at g5
    obtain ⟨a5, hk5, -, hm5⟩ := DataW.trod_string Try.underlying9 g5
    have hcs : cs = #[.int .i64 a0, .int .i64 a1, .int .i64 b1, .int .i64 a2, .int .i64 b2, .int .i64 a3, .int .i64 b3, .string a4, .string a5] := by
      apply Array.ext'
      have hcl : (Value.agg cs).cells.toList = cs.toList := by simp [Value.cells]
      rw [hcl] at hlen' hk0 hk1 hm1 hk2 hm2 hk3 hm3 hk4 hk5
      revert hlen' hk0 hk1 hm1 hk2 hm2 hk3 hm3 hk4 hk5
      generalize cs.toList = zs
      intro hlen' hk0 hk1 hm1 hk2 hm2 hk3 hm3 hk4 hk5
      obtain ⟨z0, z1, z2, z3, z4, z5, z6, z7, z8, rfl⟩ : ∃ z0 z1 z2 z3 z4 z5 z6 z7 z8, zs = [z0, z1, z2, z3, z4, z5, z6, z7, z8] := by
        match zs, hlen' with
        | [z0, z1, z2, z3, z4, z5, z6, z7, z8], _ => exact ⟨_, _, _, _, _, _, _, _, _, rfl⟩
      simp only [List.drop_zero, List.drop_succ_cons, List.take_succ_cons, List.take_zero, List.cons.injEq, and_true] at hk0 hk1 hm1 hk2 hm2 hk3 hm3 hk4 hk5
      rw [hk0, hk1, hm1, hk2, hm2, hk3, hm3, hk4, hk5]
    subst hcs
    exact ⟨a0, a1, b1, a2, b2, a3, b3, a4, a5, y0, y1, y2, y3, y4, y5, rfl, hd, hm4, hm5⟩
end
open Go.ChangeShapes Go.WideShapes Go.ChangeAt Go.RowKit
open Go.ChangeMaps (open_string shut_string)
set_option linter.unusedVariables false
set_option linter.unusedSimpArgs false
theorem own : ownKnob Try.prog.godebug = none := by kernel_rfl
theorem laidOut : laidOutB Try.prog = true := by kernel_rfl
set_option maxRecDepth 100000 in
theorem contract (H : Type) (enc : TypeId × Value → H) (W : World) (base : Nat) (args : Array Value) (ds gs : List (DataW H)) (before : List MemPlace)
    (hval0 : ∀ (j : Nat) t v, Try.f3.params[j]? = some t → args[j]? = some v → Value.okWide Try.prog W .any base t v)
    (hW : DataW.Whole enc Try.prog Try.f3.params.toList Rows.patchChecksSpec.vars false W args.toList ds gs before)
    (hsz0 : (DataW.weightsEach Try.prog (Try.f3.params.toList ++ Rows.patchChecksSpec.plain.varTypes Try.prog) (ds ++ gs)).all (· ≤ reachBytes) = true)
    :
    Calls Try.prog 3 args W fun e W' => ∃ v, e = .returned v ∧ Rows.patchChecksSpec.post enc Try.prog Try.f3 false true false false W args v W' := by
  have hsz : (DataW.weightsEach Try.prog (Try.f3.params.toList ++ Rows.patchChecksSpec.plain.varTypes Try.prog) (ds ++ gs)).all (· ≤ reachBytes) = true := hsz0
  have hval : ∀ (j : Nat) t v, Try.f3.params[j]? = some t → args[j]? = some v → Value.okWide Try.prog W .any base t v := hval0
  have hW' := hW
  obtain ⟨p, q, hA0, hV, rfl, hfz, hnd⟩ := hW
  have hA : DataW.TrodAll enc Try.prog W 0 (fun _ => true) true Try.f3.params.toList args.toList ds p := hA0
  rw [Try.params3] at hA hval hsz
  obtain ⟨v0, vs0, d0, ds0, p0, q0, hargs, rfl, rfl, h0, r0⟩ := trodAll_cons hA
  obtain ⟨rfl, rfl, rfl⟩ := trodAll_nil r0
  obtain rfl : args = #[v0] := by cases args; simp_all
  obtain ⟨rfl, rfl⟩ := trodVars_none hV
  have k0 := h0
  have lt0 : ∀ x ∈ p0, x.block < W.heap.size := by obtain ⟨m, hm⟩ := k0; exact DataW.trod_lt m _ _ _ hm
  obtain ⟨a0_0, a0_1, a0_2, a0_3, a0_4, a0_5, a0_6, a0_7, a0_8, y0_0, y0_1, y0_2, y0_3, y0_4, y0_5, rfl, rfl, hm0_7, hm0_8⟩ := open_T25 (hval 0 25 v0 rfl rfl) h0
  clear hA0 hval0 hsz0
  obtain ⟨kq, hq⟩ := PurePatchChecks.law a0_0 a0_1 a0_2 a0_3 a0_4 a0_5 a0_6 a0_7 a0_8 hm0_7
  refine (QPatchChecks.topiarylaw17_PatchChecks.calls kq a0_0 a0_1 a0_2 a0_3 a0_4 a0_5 a0_6 a0_7 a0_8 true W  (hq kq (Nat.le_refl _))).mono fun e W' ⟨he, bel⟩ => ?_
  subst he
  exact ⟨_, rfl, _, _, _, [], _, [], hW', trodAll_mk1 (shut_bool Try.underlying4 _), (trodAll_cons_mk (Below.trod laidOut (by kernel_rfl) (of_decide_eq_true (by kernel_rfl)) k0 bel lt0) trodAll_mk0), rfl, bel.frame _, fun h => by cases h⟩
set_option maxRecDepth 100000 in
theorem lifted (os : Os) (started : os.Started) (H : Type) (enc : TypeId × Value → H) :
    ReturnsInHanded {} Try.checked os 3 .any (Rows.patchChecksSpec.pre6 enc Try.prog Try.f3 Rows.patchChecksRow.domain false) (Rows.patchChecksSpec.post enc Try.prog Try.f3 false true false false) := by
  refine returnsInHanded_of_change_sized (C := Try.checked) own started (by kernel_rfl) Try.func3
    (ChangeSpec.witness6 (enc := enc) (C := Try.checked) false ⟨#[], #[.agg #[.int .i64 0, .int .i64 0, .int .i64 0, .int .i64 0, .int .i64 0, .int .i64 0, .int .i64 0, .string ⟨#[]⟩, .string ⟨#[]⟩]], []⟩ 8 (by kernel_rfl) (by kernel_rfl) (by kernel_rfl) (by kernel_rfl)) ?_
  intro W base args ds gs before hval hW hcnd hsz _
  exact contract H enc W base args ds gs before hval hW hsz
theorem proved : Rows.PatchChecksSaid :=
  OpenClaim.holds_of_wide 3 Try.f3 rfl rfl rfl rfl rfl rfl rfl ⟨rfl, rfl, rfl, rfl, rfl⟩ rfl rfl rfl rfl rfl (by kernel_rfl) Try.func3 (by kernel_rfl)
    (of_decide_eq_true (by kernel_rfl)) (by unfold Func.isWrapper; first | (rw [if_pos (by decide +kernel)]; kernel_rfl) | (rw [if_neg (by decide +kernel)]; exact ⟨rfl, rfl⟩))
    (fun os started H enc _ => lifted os started H enc)
end Go.Proofs.Ytaogeajjidnfgaa.patchChecks
namespace Go.Proofs.Ytaogeajjidnfgaa
/-- The card, under a short name, for the claim. -/
theorem patchChecks_holds : Rows.PatchChecksSaid := patchChecks.proved
end Go.Proofs.Ytaogeajjidnfgaa
