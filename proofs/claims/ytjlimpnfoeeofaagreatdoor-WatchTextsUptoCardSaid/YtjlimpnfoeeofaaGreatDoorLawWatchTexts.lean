-- The row of WatchTexts: laid by the session's program cardrow.py (wip/tools). Lean checks it.
import Derived.Test.YtjlimpnfoeeofaaGreatDoorCards
import Derived.Test.YtjlimpnfoeeofaaGreatDoorTie
import Derived.WalkKit
import Derived.ProofKit
import Derived.OpenShut
import Derived.ShutString
import Derived.ChangeOld
import Derived.Below
import Derived.Carry
import Derived.Deep.DeepHandedRow
import Derived.Lib.LaidTab
import Derived.Lib.SmallJoins
import Derived.Stop.LaidErr
import Derived.Test.YtjlimpnfoeeofaaGreatDoorQWatchTextsx
import Derived.Test.YtjlimpnfoeeofaaGreatDoorPureWatchTexts
import Derived.SizedLaws
import Derived.Test.YtjlimpnfoeeofaaGreatDoorWSized
import Derived.Deep.Slices
import Derived.Deep.Fields
import Derived.ChangeSame
import Derived.SizedLaws
import Derived.ChangeArms
namespace Go.Proofs.YtjlimpnfoeeofaaGreatDoor.watchTexts
section
set_option linter.unusedVariables false
set_option linter.unusedSimpArgs false
open Go.ChangeShapes Go.WideShapes Go.Deep Go.RowKit
open Go.Proofs.YtjlimpnfoeeofaaGreatDoorW.PrintWords Go.Proofs.YtjlimpnfoeeofaaGreatDoor.QWatchTexts
/-! ### What is read as data of a type reads as the printed texts' kinds do -/
section
open Go.ChangeShapes Go.WideShapes Go.Deep Go.RowKit
variable {H : Type} {enc : TypeId × Value → H} {P : Program} {w : World} {base : Nat} {spare : Nat → Bool} {held : Bool} {α : Type}
/-- Data of the type t are some a of the kind d, which fits ('F', the datum's bulk at hand). -/
def Opn (enc : TypeId × Value → H) (P : Program) (w : World) (base : Nat) (spare : Nat → Bool) (held : Bool) (d : Kd α) (F : Nat → α → Prop) (t : TypeId) : Prop :=
  ∀ (fuel : Nat) (cs : List Value) (x : DataW H × List MemPlace), DataW.trod enc P w base spare held fuel t cs = some x → ∃ a : α, d.K w a cs ∧ F (Rows.uptoBulk x.1) a
def FitInt (k : IntKind) (_ : Nat) (a : Int) : Prop := (Lit.int k a).wf = true
def FitBool (_ : Nat) (_ : Bool) : Prop := True
def FitStr (n : Nat) (s : ByteArray) : Prop := s.size ≤ n
def FitList (F : Nat → α → Prop) (n : Nat) (l : List α) : Prop := l.length ≤ n ∧ ∀ a, a ∈ l → F n a
theorem opn_int {k : IntKind} {t : TypeId} (ht : P.underlying t = some (.int k)) : Opn enc P w base spare held (Kd.int k) (FitInt k) t := by
  intro fuel cs x h
  obtain ⟨a, rfl, rfl, hw⟩ := DataW.trod_int ht h
  exact ⟨a, rfl, hw⟩
theorem opn_bool {t : TypeId} (ht : P.underlying t = some .bool) : Opn enc P w base spare held Kd.bool FitBool t := by
  intro fuel cs x h
  obtain ⟨a, rfl, rfl⟩ := DataW.trod_bool ht h
  exact ⟨a, rfl, trivial⟩
theorem opn_string {t : TypeId} (ht : P.underlying t = some .string) : Opn enc P w base spare held Kd.string FitStr t := by
  intro fuel cs x h
  obtain ⟨s, rfl, rfl, hm⟩ := DataW.trod_string ht h
  refine ⟨s, rfl, ?_⟩
  simp only [FitStr, Rows.uptoBulk]
  rw [show s.size = s.data.toList.length from rfl]; omega
theorem bulkAll_get {l : List (DataW H)} {d : DataW H} (h : d ∈ l) : Rows.uptoBulk d ≤ Rows.uptoBulkAll l := by
  induction l with
  | nil => cases h
  | cons y r ih =>
    simp only [Rows.uptoBulkAll]
    rcases List.mem_cons.1 h with rfl | h
    · omega
    · have := ih h; omega
theorem bulk_one (d : DataW H) : 1 ≤ Rows.uptoBulk d := by
  cases d with
  | lit l => cases l <;> simp [Rows.uptoBulk]
  | _ => simp [Rows.uptoBulk]
theorem bulkAll_len : ∀ (l : List (DataW H)), l.length ≤ Rows.uptoBulkAll l
  | [] => by simp [Rows.uptoBulkAll]
  | x :: r => by
    have h1 := bulk_one x
    have h2 := bulkAll_len r
    simp only [Rows.uptoBulkAll, List.length_cons]; omega
theorem opn_row {d : Kd α} {F : Nat → α → Prop} {t e : TypeId} (hF : ∀ n m a, n ≤ m → F n a → F m a) (hd : Opn enc P w base spare held d F e) (ht : P.underlying t = some (.slice e)) (hC : P.cellsOf e = d.sz) {fuel : Nat} {cs : List Value} {x : DataW H × List MemPlace}
    (h : DataW.trod enc P w base spare held fuel t cs = some x) : ∃ (A : Option Addr) (n c : Nat) (xs : List α), cs = [.slice A n c] ∧ n ≤ c ∧ n = xs.length ∧ d.C w A xs.length xs ∧ FitList F (Rows.uptoBulk x.1) xs ∧ (x.1 = .nil ∧ n = 0 ∨ ∃ el sp, x.1 = .slice el sp ∧ el.length = n) := by
  rcases open_slice ht h with ⟨rfl, rfl⟩ | ⟨a, len, cap, m, n, D, Pl, rfl, _, hl, hm, hmm, rfl, hi⟩
  · exact ⟨none, 0, 0, [], rfl, Nat.le_refl _, rfl, Kd.C_nil _ _, ⟨by simp, fun _ h => by cases h⟩, .inl ⟨rfl, rfl⟩⟩
  · have hlm : len ≤ m := by rw [hmm]; split <;> omega
    have hx : ∀ i, i < len → ∃ (b : α) (cs' : List Value), w.cells? base (a.add (i * P.cellsOf e)) (P.cellsOf e) = some cs' ∧ d.K w b cs' ∧ F (Rows.uptoBulk (D i)) b := fun i hil => by
      obtain ⟨cs', h1, h2⟩ := hi i (by omega)
      obtain ⟨b, h3, h4⟩ := hd _ _ _ h2
      exact ⟨b, cs', h1, h3, h4⟩
    have hinh : len = 0 ∨ Nonempty α := by
      rcases Nat.eq_zero_or_pos len with h0 | h0
      · exact .inl h0
      · obtain ⟨b, _⟩ := hx 0 h0; exact .inr ⟨b⟩
    rcases hinh with h0 | ⟨⟨z⟩⟩
    · subst h0
      exact ⟨some a, 0, cap, [], rfl, by omega, rfl, ⟨rfl, by simp, fun h => absurd h (Nat.lt_irrefl 0)⟩, ⟨by simp, fun _ h => by cases h⟩, .inr ⟨_, _, rfl, by simp⟩⟩
    · have hch : ∃ f : Nat → α, ∀ i, i < len → ∃ cs' : List Value, w.cells? base (a.add (i * P.cellsOf e)) (P.cellsOf e) = some cs' ∧ d.K w (f i) cs' ∧ F (Rows.uptoBulk (D i)) (f i) :=
        ⟨fun i => if hil : i < len then (hx i hil).choose else z, fun i hil => by simp only [dif_pos hil]; exact (hx i hil).choose_spec⟩
      obtain ⟨f, hf⟩ := hch
      refine ⟨some a, len, cap, (List.range len).map f, rfl, hl, by simp, ⟨rfl, ?_, fun _ => ⟨a, rfl, fun j p hj => ?_⟩⟩, ⟨?_, ?_⟩, .inr ⟨_, _, rfl, by simp⟩⟩
      · simp; unfold maxLen at hm; omega
      · obtain ⟨hj', rfl⟩ := List.getElem?_eq_some_iff.1 hj
        have hjl : j < len := by simpa using hj'
        obtain ⟨cs', h1, h2, _⟩ := hf j hjl
        obtain ⟨_, hcl, hat⟩ := World.cells?_some h1
        refine ⟨cs', d.K_len h2, by simpa using h2, fun i u hu => ?_⟩
        have hil : i < P.cellsOf e := by obtain ⟨q, _⟩ := List.getElem?_eq_some_iff.1 hu; omega
        have := hat i hil
        rw [← Go.Deep.add_add, ← hC]
        rw [this]; exact hu
      · simp only [Rows.uptoBulk, List.length_map, List.length_range]
        have := bulkAll_len ((List.range len).map D)
        simp at this; omega
      · intro b hb
        obtain ⟨i, hil, rfl⟩ := List.mem_map.1 hb
        obtain ⟨_, _, _, h4⟩ := hf i (List.mem_range.1 hil)
        refine hF _ _ _ ?_ h4
        simp only [Rows.uptoBulk]
        have := bulkAll_get (l := (List.range len).map D) (d := D i) (List.mem_map.2 ⟨i, hil, rfl⟩)
        omega
theorem opn_slice {d : Kd α} {F : Nat → α → Prop} {t e : TypeId} (hF : ∀ n m a, n ≤ m → F n a → F m a) (hd : Opn enc P w base spare held d F e) (ht : P.underlying t = some (.slice e)) (hC : P.cellsOf e = d.sz) :
    Opn enc P w base spare held (Kd.slice e d) (FitList F) t := by
  intro fuel cs x h
  obtain ⟨A, n, c, xs, rfl, hnc, rfl, hK, hf, _⟩ := opn_row hF hd ht hC h
  exact ⟨xs, ⟨A, c, rfl, hnc, hK⟩, hf⟩
/-- A slice among the parameters is no longer than its weight allows. -/
theorem row_sized {t e : TypeId} {ts : List TypeId} {ds : List (DataW H)} {j n B : Nat} {d : DataW H} (hsz : (DataW.weightsEach P ts ds).all (· ≤ reachBytes) = true) (ht : ts[j]? = some t) (hd : ds[j]? = some d) (hu : P.underlying t = some (.slice e)) (hB : P.bytesOf e = B)
    (h : d = .nil ∧ n = 0 ∨ ∃ el sp, d = .slice el sp ∧ el.length = n) : n * B ≤ 140737488351232 := by
  rcases h with ⟨_, rfl⟩ | ⟨el, sp, rfl, rfl⟩
  · simp
  · have z := sized_slice hsz ht hd hu
    rw [hB] at z
    exact Nat.le_trans (Nat.mul_le_mul_right _ (Nat.le_add_right _ _)) z
end
theorem drop_split (cs : List Value) (o s : Nat) : cs.drop o = (cs.drop o).take s ++ cs.drop (o + s) := by rw [← List.drop_drop, List.take_append_drop]
theorem fitStr_mono (n m : Nat) (x : ByteArray) (h : n ≤ m) (k : FitStr n x) : FitStr m x := Nat.le_trans k h
def Fit32 (n : Nat) (x : S32) : Prop := (FitInt .i64) n x.f0 ∧ (FitInt .i64) n x.f1 ∧ (FitInt .i64) n x.f2
theorem fit32_mono : ∀ n m x, n ≤ m → Fit32 n x → Fit32 m x := fun _ _ _ h k => ⟨(fun _ _ _ _ h => h) _ _ _ h k.1, (fun _ _ _ _ h => h) _ _ _ h k.2.1, (fun _ _ _ _ h => h) _ _ _ h k.2.2⟩
theorem opn32 {H : Type} {enc : TypeId × Value → H} {w : World} {base : Nat} {spare : Nat → Bool} {held : Bool} : Opn enc Tryz.prog w base spare held k32 Fit32 32 := by
  intro fuel cs x h
  obtain ⟨ys, n, rfl, rfl, hlen, hyl, hf⟩ := DataW.trod_struct Tryz.underlying32 h
  have hlen' : cs.length = 3 := hlen.trans (by kernel_rfl)
  have e3 : Tryz.prog.cellsOf 3 = 1 := by kernel_rfl
  have hyl' : ys.length = 3 := hyl
  match ys, hyl' with
  | [y0, y1, y2], _ =>
    have g0 : DataW.trod enc Tryz.prog w base spare held n 3 ((cs.drop 0).take (Tryz.prog.cellsOf 3)) = some y0 := hf 0 _ rfl
    rw [e3] at g0
    obtain ⟨a0, hk0, hf0⟩ := (opn_int Tryz.underlying3) _ _ _ g0
    have g1 : DataW.trod enc Tryz.prog w base spare held n 3 ((cs.drop 1).take (Tryz.prog.cellsOf 3)) = some y1 := hf 1 _ rfl
    rw [e3] at g1
    obtain ⟨a1, hk1, hf1⟩ := (opn_int Tryz.underlying3) _ _ _ g1
    have g2 : DataW.trod enc Tryz.prog w base spare held n 3 ((cs.drop 2).take (Tryz.prog.cellsOf 3)) = some y2 := hf 2 _ rfl
    rw [e3] at g2
    obtain ⟨a2, hk2, hf2⟩ := (opn_int Tryz.underlying3) _ _ _ g2
    rw [List.take_of_length_le (by rw [List.length_drop]; omega)] at hk2
    simp only [List.drop_zero] at hk0
    refine ⟨⟨a0, a1, a2⟩, ⟨_, _, (by have h_ := drop_split cs 0 1; simpa using h_), hk0, ⟨_, _, drop_split cs 1 1, hk1, hk2⟩⟩, ?_, ?_, ?_⟩
    · exact hf0
    · exact hf1
    · exact hf2
end
open Go.ChangeShapes Go.WideShapes Go.ChangeAt Go.RowKit
open Go.ChangeMaps (open_string shut_string)
set_option linter.unusedVariables false
set_option linter.unusedSimpArgs false
theorem own : ownKnob Tryz.prog.godebug = none := by kernel_rfl
theorem laidOut : laidOutB Tryz.prog = true := by kernel_rfl
theorem gTab : Tryz.prog.globalNamed "internal/strconv.uint64pow10" = some 0 := by kernel_rfl
theorem gTabType : (Tryz.prog.globals[0]?).map (·.type) = some 129 := by kernel_rfl
theorem cellsT : Tryz.prog.cellsOf 129 = 20 := by kernel_rfl
theorem cellsE : Tryz.prog.cellsOf 92 = 1 := by kernel_rfl
theorem table {W : World} (h0 : laidMetH Tryz.prog Rows.watchTextsRow.laid W) : QWatchTexts.TabW_ W := by
  have h : laidMet Tryz.prog [("math/bits.deBruijn32tab", Rows.laid_math_bits_deBruijn32tab), ("math/bits.deBruijn64tab", Rows.laid_math_bits_deBruijn64tab), ("internal/strconv.uint64pow10", Rows.laid_internal_strconv_uint64pow10)] W := h0
  exact Lib.tabIs_of_head gTab gTabType Tryz.underlying129 Tryz.underlying92 cellsE cellsT (Go.laidMet.tail (Go.laidMet.tail h))
theorem one_bulk {H : Type} (d : DataW H) : 1 ≤ Rows.uptoBulk d := by
  cases d with
  | lit l => cases l <;> simp [Rows.uptoBulk]
  | _ => simp [Rows.uptoBulk]
theorem all_bulk {H : Type} : ∀ (l : List (DataW H)), l.length ≤ Rows.uptoBulkAll l
  | [] => by simp [Rows.uptoBulkAll]
  | x :: r => by
    have h1 := one_bulk x
    have h2 := all_bulk r
    simp only [Rows.uptoBulkAll, List.length_cons]; omega
theorem len_bulk {H : Type} (d : DataW H) : Go.Joins.sliceLen d ≤ Rows.uptoBulk d := by
  cases d with
  | slice elems spare =>
    have h1 := all_bulk elems
    simp only [Go.Joins.sliceLen, Rows.uptoBulk]; omega
  | _ => simp [Go.Joins.sliceLen]
set_option maxRecDepth 100000 in
theorem contract (H : Type) (enc : TypeId × Value → H) (W : World) (base : Nat) (args : Array Value) (ds gs : List (DataW H)) (before : List MemPlace)
    (hval0 : ∀ (j : Nat) t v, Tryz.f3.params[j]? = some t → args[j]? = some v → Value.okWide Tryz.prog W .any base t v)
    (hW : DataW.Whole enc Tryz.prog Tryz.f3.params.toList Rows.watchTextsSpec.vars false W args.toList ds gs before) (hcond : Rows.uptoBulkAll (ds ++ gs) ≤ 1048576)
    (hsz0 : (DataW.weightsEach Tryz.prog (Tryz.f3.params.toList ++ Rows.watchTextsSpec.plain.varTypes Tryz.prog) (ds ++ gs)).all (· ≤ reachBytes) = true)
    (hL : laidMetH Tryz.prog Rows.watchTextsRow.laid W) (hOpen : W.ShapedOpen Tryz.prog) :
    Calls Tryz.prog 3 args W fun e W' => ∃ v, e = .returned v ∧ Rows.watchTextsSpec.post enc Tryz.prog Tryz.f3 false true false false W args v W' := by
  have hsz : (DataW.weightsEach Tryz.prog (Tryz.f3.params.toList ++ Rows.watchTextsSpec.plain.varTypes Tryz.prog) (ds ++ gs)).all (· ≤ reachBytes) = true := hsz0
  have hval : ∀ (j : Nat) t v, Tryz.f3.params[j]? = some t → args[j]? = some v → Value.okWide Tryz.prog W .any base t v := hval0
  have hW' := hW
  obtain ⟨p, q, hA0, hV, rfl, hfz, hnd⟩ := hW
  have hA : DataW.TrodAll enc Tryz.prog W 0 (fun _ => true) true Tryz.f3.params.toList args.toList ds p := hA0
  rw [Tryz.params3] at hA hval hsz
  obtain ⟨v0, vs0, d0, ds0, p0, q0, hargs, rfl, rfl, h0, r0⟩ := trodAll_cons hA
  obtain ⟨rfl, rfl, rfl⟩ := trodAll_nil r0
  obtain rfl : args = #[v0] := by cases args; simp_all
  obtain ⟨rfl, rfl⟩ := trodVars_none hV
  obtain ⟨b0, len0, cap0, rfl⟩ := okWide_slice Tryz.underlying22 (hval 0 22 v0 rfl rfl)
  have k0 := h0
  have lt0 : ∀ x ∈ p0, x.block < W.heap.size := by obtain ⟨m, hm⟩ := k0; exact DataW.trod_lt m _ _ _ hm
  obtain ⟨l0, hle0, hC0, hfit0, hsh0, rfl⟩ : ∃ l : List QWatchTexts.S32, l.length ≤ cap0 ∧ Go.Proofs.YtjlimpnfoeeofaaGreatDoorW.PrintWords.Kd.C QWatchTexts.k32 W b0 l.length l ∧ FitList Fit32 (Rows.uptoBulk d0) l ∧ (d0 = .nil ∧ l.length = 0 ∨ ∃ el sp, d0 = .slice el sp ∧ el.length = l.length) ∧ len0 = l.length := by
    obtain ⟨fuel, hf⟩ := h0
    obtain ⟨A_, n_, c_, xs, hcs, hnc, hn, hK, hft, hsh⟩ := opn_row fit32_mono opn32 Tryz.underlying22 (by kernel_rfl) hf
    simp [Value.cells] at hcs
    obtain ⟨rfl, rfl, rfl⟩ := hcs
    subst hn
    exact ⟨xs, hnc, hK, hft, hsh, rfl⟩
  have hsized0 := row_sized (j := 0) (n := l0.length) hsz rfl rfl Tryz.underlying22 (B := 24) (by kernel_rfl) hsh0
  clear hA0 hval0 hsz0
  refine (QWatchTexts.topiarylaw24_WatchTexts.calls (2 * l0.length + 62) b0 cap0 l0 true W hC0 hle0 (table hL) (PureWatchTexts.law l0 (Nat.le_trans hfit0.1 (by have h_ := hcond; simp only [List.cons_append, List.nil_append, Rows.uptoBulkAll] at h_; omega)) (fun x hx => by obtain ⟨-, h1, h2⟩ := hfit0.2 x hx; exact ⟨PureWatchTexts.i64_ok h1, PureWatchTexts.i64_ok h2⟩))).mono fun e W' ⟨he, bel⟩ => ?_
  subst he
  exact ⟨_, rfl, _, _, _, [], _, [], hW', trodAll_mk1 (shut_bool Tryz.underlying4 _), (trodAll_cons_mk (Below.trod laidOut (by kernel_rfl) (of_decide_eq_true (by kernel_rfl)) k0 bel lt0) trodAll_mk0), rfl, bel.frame _, fun h => by cases h⟩
/-- A world for the witness: the tables as their initialisers lay them. -/
noncomputable def laidWorld (os : Os) : World := { World.holding Tryz.prog os ⟨#[], #[], []⟩ with heap := (((((((World.holding Tryz.prog os ⟨#[], #[], []⟩).heap).modify 1 fun | .cells _ t fr => .cells #[.int .u8 0, .int .u8 1, .int .u8 28, .int .u8 2, .int .u8 29, .int .u8 14, .int .u8 24, .int .u8 3, .int .u8 30, .int .u8 22, .int .u8 20, .int .u8 15, .int .u8 25, .int .u8 17, .int .u8 4, .int .u8 8, .int .u8 31, .int .u8 27, .int .u8 13, .int .u8 23, .int .u8 21, .int .u8 19, .int .u8 16, .int .u8 7, .int .u8 26, .int .u8 12, .int .u8 18, .int .u8 6, .int .u8 11, .int .u8 5, .int .u8 10, .int .u8 9] t fr | o => o)).modify 2 fun | .cells _ t fr => .cells #[.int .u8 0, .int .u8 1, .int .u8 56, .int .u8 2, .int .u8 57, .int .u8 49, .int .u8 28, .int .u8 3, .int .u8 61, .int .u8 58, .int .u8 42, .int .u8 50, .int .u8 38, .int .u8 29, .int .u8 17, .int .u8 4, .int .u8 62, .int .u8 47, .int .u8 59, .int .u8 36, .int .u8 45, .int .u8 43, .int .u8 51, .int .u8 22, .int .u8 53, .int .u8 39, .int .u8 33, .int .u8 30, .int .u8 24, .int .u8 18, .int .u8 12, .int .u8 5, .int .u8 63, .int .u8 55, .int .u8 48, .int .u8 27, .int .u8 60, .int .u8 41, .int .u8 37, .int .u8 16, .int .u8 46, .int .u8 35, .int .u8 44, .int .u8 21, .int .u8 52, .int .u8 32, .int .u8 23, .int .u8 11, .int .u8 54, .int .u8 26, .int .u8 40, .int .u8 15, .int .u8 34, .int .u8 20, .int .u8 31, .int .u8 10, .int .u8 25, .int .u8 14, .int .u8 19, .int .u8 9, .int .u8 13, .int .u8 8, .int .u8 7, .int .u8 6] t fr | o => o)).modify 0 fun | .cells _ t fr => .cells #[.int .u64 1, .int .u64 10, .int .u64 100, .int .u64 1000, .int .u64 10000, .int .u64 100000, .int .u64 1000000, .int .u64 10000000, .int .u64 100000000, .int .u64 1000000000, .int .u64 10000000000, .int .u64 100000000000, .int .u64 1000000000000, .int .u64 10000000000000, .int .u64 100000000000000, .int .u64 1000000000000000, .int .u64 10000000000000000, .int .u64 100000000000000000, .int .u64 1000000000000000000, .int .u64 10000000000000000000] t fr | o => o) }
set_option maxRecDepth 100000 in
theorem laid_met (os : Os) : laidMet Tryz.prog Rows.watchTextsUptoRow.laid (((laidWorld os).forCall (fun _ _ => 0) ⟨#[], #[.slice none 0 0], []⟩).memory) :=
  laidMet_of_run' 8 (by kernel_rfl) (by kernel_rfl)
theorem reads (os : Os) {H : Type} (enc : TypeId × Value → H) : ∃ places, DataW.whole enc Tryz.prog (((laidWorld os).forCall (fun _ _ => 0) ⟨#[], #[.slice none 0 0], []⟩).memory) Tryz.f3.params.toList Rows.watchTextsSpec.vars false #[(.slice none 0 0 : Value)].toList 8 = some ([.nil], [], places) :=
  ⟨[], by kernel_rfl⟩
set_option maxRecDepth 100000 in
theorem lifted (os : Os) (started : os.Started) (H : Type) (enc : TypeId × Value → H) (F : Stop.Interp) :
    ReturnsInHanded {} Tryz.checked os 3 .any ((Rows.OpenSpec.upto Rows.watchTextsSpec).preRow enc Tryz.prog Tryz.f3 Rows.watchTextsUptoRow.domain false Rows.watchTextsUptoRow.laid) (((Rows.OpenSpec.upto Rows.watchTextsSpec).at F).post enc Tryz.prog Tryz.f3 false true false false) := by
  obtain ⟨places, hx⟩ := reads os enc
  refine returnsInHanded_of_row (C := Tryz.checked) (s := Rows.OpenSpec.upto Rows.watchTextsSpec) own started (by kernel_rfl) Tryz.func3
    (witness_row_at (enc := enc) (C := Tryz.checked) false (laidWorld os) #[.slice none 0 0] rfl (by kernel_rfl) (by kernel_rfl) (by kernel_rfl)
      (OpenSpec.preRow_of_cond 8 hx (by kernel_rfl) (fun k hk => by cases hk; kernel_rfl) (by kernel_rfl) (laid_met os))) ?_
  intro W base args ds gs before hval hW _ hcond hsz hL hOpen _
  exact contract H enc W base args ds gs before hval hW (of_decide_eq_true (hcond _ rfl)) hsz hL hOpen
theorem said : Rows.WatchTextsUptoSaid :=
  OpenClaim.holds_of_cond 3 Tryz.f3 rfl rfl rfl rfl rfl rfl rfl ⟨rfl, rfl, rfl, rfl, rfl⟩ rfl rfl rfl rfl rfl (by kernel_rfl) Tryz.func3 (by kernel_rfl)
    (of_decide_eq_true (by kernel_rfl)) (by unfold Func.isWrapper; first | (rw [if_pos (by decide +kernel)]; kernel_rfl) | (rw [if_neg (by decide +kernel)]; exact ⟨rfl, rfl⟩))
    (fun os started H enc _ F => by rw [OpenClaim.pre_eq_preRow]; exact lifted os started H enc F)
theorem plain (f : FuncId) (fn : Func) (hf : Tryz.pinned.checked.prog.funcNamed "topiary/topiarylaw24.WatchTexts" = some f) (hfn : Tryz.pinned.checked.prog.funcs[f]? = some fn) :
    false = Tryz.pinned.checked.prog.looks [] ∧ ∀ (j : Nat) t, fn.params[j]? = some t → Tryz.pinned.checked.prog.wantsStandIn t = false := by
  obtain rfl : f = 3 := Option.some.inj ((show Tryz.prog.funcNamed "topiary/topiarylaw24.WatchTexts" = some 3 by kernel_rfl).symm.trans hf) |>.symm
  obtain rfl : fn = Tryz.f3 := (Option.some.inj (Tryz.func3.symm.trans hfn)).symm
  refine ⟨by kernel_rfl, fun j t ht => ?_⟩
  rw [Tryz.params3] at ht
  have hm : t = 22 := by simpa using Array.mem_of_getElem? ht
  obtain rfl := hm
  exact (show Tryz.prog.wantsStandIn 22 = false by kernel_rfl)
theorem proved : Rows.WatchTextsUptoCardSaid :=
  Claim7.holds_tied_plain_at .later [] _ _ _ _ said (fun _ h => by cases h) (by kernel_rfl) (fun _ h => by cases h) watchTextsUpto_row_tie rfl ⟨rfl, rfl⟩ (by kernel_rfl) rfl plain (by kernel_rfl)
end Go.Proofs.YtjlimpnfoeeofaaGreatDoor.watchTexts
namespace Go.Proofs.YtjlimpnfoeeofaaGreatDoor
/-- The card, under a short name, for the claim. -/
theorem watchTexts_holds : Rows.WatchTextsUptoCardSaid := watchTexts.proved
end Go.Proofs.YtjlimpnfoeeofaaGreatDoor
