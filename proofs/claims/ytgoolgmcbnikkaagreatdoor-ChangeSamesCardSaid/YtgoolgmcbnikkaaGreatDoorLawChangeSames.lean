-- The row of ChangeSames: laid by the session's program cardrow.py (wip/tools). Lean checks it.
import Derived.Test.YtgoolgmcbnikkaaGreatDoorCards
import Derived.Test.YtgoolgmcbnikkaaGreatDoorTie
import Derived.WalkKit
import Derived.ProofKit
import Derived.OpenShut
import Derived.ShutString
import Derived.ChangeOld
import Derived.Below
import Derived.Carry
import Derived.Deep.DeepHandedRow
import Derived.Lib.LaidTab
import Derived.Lib.SmallJoins
import Derived.Stop.LaidErr
import Derived.Test.YtgoolgmcbnikkaaGreatDoorQChangeSamesx
import Derived.Test.YtgoolgmcbnikkaaGreatDoorPureChangeSames
import Derived.SizedLaws
import Derived.Test.YtgoolgmcbnikkaaGreatDoorVChangeSames
import Derived.Deep.Slices
import Derived.Deep.Fields
import Derived.ChangeSame
import Derived.SizedLaws
import Derived.ChangeArms
namespace Go.Proofs.YtgoolgmcbnikkaaGreatDoor.changeSames
section
set_option linter.unusedVariables false
set_option linter.unusedSimpArgs false
open Go.ChangeShapes Go.WideShapes Go.Deep Go.RowKit
open Go.Proofs.YtgoolgmcbnikkaaGreatDoorW.PrintWords Go.Proofs.YtgoolgmcbnikkaaGreatDoor.QChangeSames
/-! ### What is read as data of a type reads as the printed texts' kinds do -/
section
open Go.ChangeShapes Go.WideShapes Go.Deep Go.RowKit
variable {H : Type} {enc : TypeId × Value → H} {P : Program} {w : World} {base : Nat} {spare : Nat → Bool} {held : Bool} {α : Type}
/-- Data of the type t are some a of the kind d, which fits ('F', the datum's bulk at hand). -/
def Opn (enc : TypeId × Value → H) (P : Program) (w : World) (base : Nat) (spare : Nat → Bool) (held : Bool) (d : Kd α) (F : Nat → α → Prop) (t : TypeId) : Prop :=
  ∀ (fuel : Nat) (cs : List Value) (x : DataW H × List MemPlace), DataW.trod enc P w base spare held fuel t cs = some x → ∃ a : α, d.K w a cs ∧ F (Rows.uptoBulk x.1) a
def FitInt (k : IntKind) (_ : Nat) (a : Int) : Prop := (Lit.int k a).wf = true
def FitBool (_ : Nat) (_ : Bool) : Prop := True
def FitStr (n : Nat) (s : ByteArray) : Prop := s.size ≤ n
def FitList (F : Nat → α → Prop) (n : Nat) (l : List α) : Prop := l.length ≤ n ∧ ∀ a, a ∈ l → F n a
theorem opn_int {k : IntKind} {t : TypeId} (ht : P.underlying t = some (.int k)) : Opn enc P w base spare held (Kd.int k) (FitInt k) t := by
  intro fuel cs x h
  obtain ⟨a, rfl, rfl, hw⟩ := DataW.trod_int ht h
  exact ⟨a, rfl, hw⟩
theorem opn_bool {t : TypeId} (ht : P.underlying t = some .bool) : Opn enc P w base spare held Kd.bool FitBool t := by
  intro fuel cs x h
  obtain ⟨a, rfl, rfl⟩ := DataW.trod_bool ht h
  exact ⟨a, rfl, trivial⟩
theorem opn_string {t : TypeId} (ht : P.underlying t = some .string) : Opn enc P w base spare held Kd.string FitStr t := by
  intro fuel cs x h
  obtain ⟨s, rfl, rfl, hm⟩ := DataW.trod_string ht h
  refine ⟨s, rfl, ?_⟩
  simp only [FitStr, Rows.uptoBulk]
  rw [show s.size = s.data.toList.length from rfl]; omega
theorem bulkAll_get {l : List (DataW H)} {d : DataW H} (h : d ∈ l) : Rows.uptoBulk d ≤ Rows.uptoBulkAll l := by
  induction l with
  | nil => cases h
  | cons y r ih =>
    simp only [Rows.uptoBulkAll]
    rcases List.mem_cons.1 h with rfl | h
    · omega
    · have := ih h; omega
theorem bulk_one (d : DataW H) : 1 ≤ Rows.uptoBulk d := by
  cases d with
  | lit l => cases l <;> simp [Rows.uptoBulk]
  | _ => simp [Rows.uptoBulk]
theorem bulkAll_len : ∀ (l : List (DataW H)), l.length ≤ Rows.uptoBulkAll l
  | [] => by simp [Rows.uptoBulkAll]
  | x :: r => by
    have h1 := bulk_one x
    have h2 := bulkAll_len r
    simp only [Rows.uptoBulkAll, List.length_cons]; omega
theorem opn_row {d : Kd α} {F : Nat → α → Prop} {t e : TypeId} (hF : ∀ n m a, n ≤ m → F n a → F m a) (hd : Opn enc P w base spare held d F e) (ht : P.underlying t = some (.slice e)) (hC : P.cellsOf e = d.sz) {fuel : Nat} {cs : List Value} {x : DataW H × List MemPlace}
    (h : DataW.trod enc P w base spare held fuel t cs = some x) : ∃ (A : Option Addr) (n c : Nat) (xs : List α), cs = [.slice A n c] ∧ n ≤ c ∧ n = xs.length ∧ d.C w A xs.length xs ∧ FitList F (Rows.uptoBulk x.1) xs ∧ (x.1 = .nil ∧ n = 0 ∨ ∃ el sp, x.1 = .slice el sp ∧ el.length = n) := by
  rcases open_slice ht h with ⟨rfl, rfl⟩ | ⟨a, len, cap, m, n, D, Pl, rfl, _, hl, hm, hmm, rfl, hi⟩
  · exact ⟨none, 0, 0, [], rfl, Nat.le_refl _, rfl, Kd.C_nil _ _, ⟨by simp, fun _ h => by cases h⟩, .inl ⟨rfl, rfl⟩⟩
  · have hlm : len ≤ m := by rw [hmm]; split <;> omega
    have hx : ∀ i, i < len → ∃ (b : α) (cs' : List Value), w.cells? base (a.add (i * P.cellsOf e)) (P.cellsOf e) = some cs' ∧ d.K w b cs' ∧ F (Rows.uptoBulk (D i)) b := fun i hil => by
      obtain ⟨cs', h1, h2⟩ := hi i (by omega)
      obtain ⟨b, h3, h4⟩ := hd _ _ _ h2
      exact ⟨b, cs', h1, h3, h4⟩
    have hinh : len = 0 ∨ Nonempty α := by
      rcases Nat.eq_zero_or_pos len with h0 | h0
      · exact .inl h0
      · obtain ⟨b, _⟩ := hx 0 h0; exact .inr ⟨b⟩
    rcases hinh with h0 | ⟨⟨z⟩⟩
    · subst h0
      exact ⟨some a, 0, cap, [], rfl, by omega, rfl, ⟨rfl, by simp, fun h => absurd h (Nat.lt_irrefl 0)⟩, ⟨by simp, fun _ h => by cases h⟩, .inr ⟨_, _, rfl, by simp⟩⟩
    · have hch : ∃ f : Nat → α, ∀ i, i < len → ∃ cs' : List Value, w.cells? base (a.add (i * P.cellsOf e)) (P.cellsOf e) = some cs' ∧ d.K w (f i) cs' ∧ F (Rows.uptoBulk (D i)) (f i) :=
        ⟨fun i => if hil : i < len then (hx i hil).choose else z, fun i hil => by simp only [dif_pos hil]; exact (hx i hil).choose_spec⟩
      obtain ⟨f, hf⟩ := hch
      refine ⟨some a, len, cap, (List.range len).map f, rfl, hl, by simp, ⟨rfl, ?_, fun _ => ⟨a, rfl, fun j p hj => ?_⟩⟩, ⟨?_, ?_⟩, .inr ⟨_, _, rfl, by simp⟩⟩
      · simp; unfold maxLen at hm; omega
      · obtain ⟨hj', rfl⟩ := List.getElem?_eq_some_iff.1 hj
        have hjl : j < len := by simpa using hj'
        obtain ⟨cs', h1, h2, _⟩ := hf j hjl
        obtain ⟨_, hcl, hat⟩ := World.cells?_some h1
        refine ⟨cs', d.K_len h2, by simpa using h2, fun i u hu => ?_⟩
        have hil : i < P.cellsOf e := by obtain ⟨q, _⟩ := List.getElem?_eq_some_iff.1 hu; omega
        have := hat i hil
        rw [← Go.Deep.add_add, ← hC]
        rw [this]; exact hu
      · simp only [Rows.uptoBulk, List.length_map, List.length_range]
        have := bulkAll_len ((List.range len).map D)
        simp at this; omega
      · intro b hb
        obtain ⟨i, hil, rfl⟩ := List.mem_map.1 hb
        obtain ⟨_, _, _, h4⟩ := hf i (List.mem_range.1 hil)
        refine hF _ _ _ ?_ h4
        simp only [Rows.uptoBulk]
        have := bulkAll_get (l := (List.range len).map D) (d := D i) (List.mem_map.2 ⟨i, hil, rfl⟩)
        omega
theorem opn_slice {d : Kd α} {F : Nat → α → Prop} {t e : TypeId} (hF : ∀ n m a, n ≤ m → F n a → F m a) (hd : Opn enc P w base spare held d F e) (ht : P.underlying t = some (.slice e)) (hC : P.cellsOf e = d.sz) :
    Opn enc P w base spare held (Kd.slice e d) (FitList F) t := by
  intro fuel cs x h
  obtain ⟨A, n, c, xs, rfl, hnc, rfl, hK, hf, _⟩ := opn_row hF hd ht hC h
  exact ⟨xs, ⟨A, c, rfl, hnc, hK⟩, hf⟩
/-- A slice among the parameters is no longer than its weight allows. -/
theorem row_sized {t e : TypeId} {ts : List TypeId} {ds : List (DataW H)} {j n B : Nat} {d : DataW H} (hsz : (DataW.weightsEach P ts ds).all (· ≤ reachBytes) = true) (ht : ts[j]? = some t) (hd : ds[j]? = some d) (hu : P.underlying t = some (.slice e)) (hB : P.bytesOf e = B)
    (h : d = .nil ∧ n = 0 ∨ ∃ el sp, d = .slice el sp ∧ el.length = n) : n * B ≤ 140737488351232 := by
  rcases h with ⟨_, rfl⟩ | ⟨el, sp, rfl, rfl⟩
  · simp
  · have z := sized_slice hsz ht hd hu
    rw [hB] at z
    exact Nat.le_trans (Nat.mul_le_mul_right _ (Nat.le_add_right _ _)) z
end
theorem drop_split (cs : List Value) (o s : Nat) : cs.drop o = (cs.drop o).take s ++ cs.drop (o + s) := by rw [← List.drop_drop, List.take_append_drop]
set_option maxRecDepth 100000 in
theorem open_T26 {H : Type} {enc : TypeId × Value → H} {W : World} {base b0 : Nat} {spare : Nat → Bool} {held : Bool} {v : Value} {d : DataW H} {p : List MemPlace} (hv : Value.okWide Tryz.prog W .any b0 26 v) (h : DataW.Trod enc Tryz.prog W base spare held 26 v d p) :
    ∃ (a0 : Int) (b0 : Int) (a1 : Int) (A2 : Option Addr) (c2 : Nat) (l2 : List Int) (a3 : Int) (a4 : Int) (b4 : Int) (a5 : Int) (b5 : Int) (a6 : Int) (b6 : Int) (a7 : ByteArray) (a8 : ByteArray) (y0 y1 y2 y3 y4 y5 y6 y7 y8 : DataW H × List MemPlace), v = .agg #[.int .i64 a0, .int .i64 b0, .int .i64 a1, .slice A2 l2.length c2, .int .i64 a3, .int .i64 a4, .int .i64 b4, .int .i64 a5, .int .i64 b5, .int .i64 a6, .int .i64 b6, .string a7, .string a8] ∧ d = .agg [y0.1, y1.1, y2.1, y3.1, y4.1, y5.1, y6.1, y7.1, y8.1] ∧ Kd.C (Kd.int .i64) W A2 l2.length l2 ∧ l2.length ≤ c2 ∧ (y2.1 = .nil ∧ l2.length = 0 ∨ ∃ el sp, y2.1 = .slice el sp ∧ el.length = l2.length) ∧ a7.size ≤ maxLen ∧ a8.size ≤ maxLen := by
  obtain ⟨cs, rfl, hsz⟩ := okWide_struct Tryz.underlying26 hv
  obtain ⟨fuel, hf0⟩ := h
  obtain ⟨ys, n, rfl, hx, hlen, hyl, hf⟩ := DataW.trod_struct Tryz.underlying26 hf0
  have hlen' : (Value.agg cs).cells.toList.length = 13 := hlen.trans (by kernel_rfl)
  have hyl' : ys.length = 9 := hyl
  have e24 : Tryz.prog.cellsOf 24 = 1 := by kernel_rfl
  have e23 : Tryz.prog.cellsOf 23 = 2 := by kernel_rfl
  have e3 : Tryz.prog.cellsOf 3 = 1 := by kernel_rfl
  have e9 : Tryz.prog.cellsOf 9 = 1 := by kernel_rfl
  match ys, hyl' with
  | [y0, y1, y2, y3, y4, y5, y6, y7, y8], _ =>
    obtain ⟨hd, -⟩ := Prod.mk.inj hx
    have g0 : DataW.trod enc Tryz.prog W base spare held n 23 (((Value.agg cs).cells.toList.drop 0).take (Tryz.prog.cellsOf 23)) = some y0 := hf 0 _ rfl
    rw [e23] at g0
    obtain ⟨zs0, n0, -, -, -, hz0, hg0⟩ := DataW.trod_struct Tryz.underlying23 g0
    have hz0' : zs0.length = 2 := hz0
    obtain ⟨p0, q0, rfl⟩ : ∃ p q, zs0 = [p, q] := by rcases zs0 with _ | ⟨p, _ | ⟨q, _ | ⟨r, t⟩⟩⟩ <;> simp at hz0' ; exact ⟨p, q, rfl⟩
    have u0 : DataW.trod enc Tryz.prog W base spare held n0 3 (((((Value.agg cs).cells.toList.drop 0).take 2).drop 0).take (Tryz.prog.cellsOf 3)) = some p0 := hg0 0 _ rfl
    have w0 : DataW.trod enc Tryz.prog W base spare held n0 3 (((((Value.agg cs).cells.toList.drop 0).take 2).drop 1).take (Tryz.prog.cellsOf 3)) = some q0 := hg0 1 _ rfl
    rw [e3] at u0 w0
    obtain ⟨a0, hk0, -, -⟩ := DataW.trod_int Tryz.underlying3 u0
    obtain ⟨b0, hm0, -, -⟩ := DataW.trod_int Tryz.underlying3 w0
    have g1 : DataW.trod enc Tryz.prog W base spare held n 3 (((Value.agg cs).cells.toList.drop 2).take (Tryz.prog.cellsOf 3)) = some y1 := hf 1 _ rfl
    rw [e3] at g1
    obtain ⟨a1, hk1, -, -⟩ := DataW.trod_int Tryz.underlying3 g1
    have g2 : DataW.trod enc Tryz.prog W base spare held n 24 (((Value.agg cs).cells.toList.drop 3).take (Tryz.prog.cellsOf 24)) = some y2 := hf 2 _ rfl
    rw [e24] at g2
    obtain ⟨A2, n_2, c2, l2, hk2, hnc2, hn2, hC2, -, hsh2⟩ := opn_row (fun _ _ _ _ h => h) (opn_int (k := .i64) Tryz.underlying3) Tryz.underlying24 (by kernel_rfl) g2
    subst hn2
    have g3 : DataW.trod enc Tryz.prog W base spare held n 3 (((Value.agg cs).cells.toList.drop 4).take (Tryz.prog.cellsOf 3)) = some y3 := hf 3 _ rfl
    rw [e3] at g3
    obtain ⟨a3, hk3, -, -⟩ := DataW.trod_int Tryz.underlying3 g3
    have g4 : DataW.trod enc Tryz.prog W base spare held n 23 (((Value.agg cs).cells.toList.drop 5).take (Tryz.prog.cellsOf 23)) = some y4 := hf 4 _ rfl
    rw [e23] at g4
    obtain ⟨zs4, n4, -, -, -, hz4, hg4⟩ := DataW.trod_struct Tryz.underlying23 g4
    have hz4' : zs4.length = 2 := hz4
    obtain ⟨p4, q4, rfl⟩ : ∃ p q, zs4 = [p, q] := by rcases zs4 with _ | ⟨p, _ | ⟨q, _ | ⟨r, t⟩⟩⟩ <;> simp at hz4' ; exact ⟨p, q, rfl⟩
    have u4 : DataW.trod enc Tryz.prog W base spare held n4 3 (((((Value.agg cs).cells.toList.drop 5).take 2).drop 0).take (Tryz.prog.cellsOf 3)) = some p4 := hg4 0 _ rfl
    have w4 : DataW.trod enc Tryz.prog W base spare held n4 3 (((((Value.agg cs).cells.toList.drop 5).take 2).drop 1).take (Tryz.prog.cellsOf 3)) = some q4 := hg4 1 _ rfl
    rw [e3] at u4 w4
    obtain ⟨a4, hk4, -, -⟩ := DataW.trod_int Tryz.underlying3 u4
    obtain ⟨b4, hm4, -, -⟩ := DataW.trod_int Tryz.underlying3 w4
    have g5 : DataW.trod enc Tryz.prog W base spare held n 23 (((Value.agg cs).cells.toList.drop 7).take (Tryz.prog.cellsOf 23)) = some y5 := hf 5 _ rfl
    rw [e23] at g5
    obtain ⟨zs5, n5, -, -, -, hz5, hg5⟩ := DataW.trod_struct Tryz.underlying23 g5
    have hz5' : zs5.length = 2 := hz5
    obtain ⟨p5, q5, rfl⟩ : ∃ p q, zs5 = [p, q] := by rcases zs5 with _ | ⟨p, _ | ⟨q, _ | ⟨r, t⟩⟩⟩ <;> simp at hz5' ; exact ⟨p, q, rfl⟩
    have u5 : DataW.trod enc Tryz.prog W base spare held n5 3 (((((Value.agg cs).cells.toList.drop 7).take 2).drop 0).take (Tryz.prog.cellsOf 3)) = some p5 := hg5 0 _ rfl
    have w5 : DataW.trod enc Tryz.prog W base spare held n5 3 (((((Value.agg cs).cells.toList.drop 7).take 2).drop 1).take (Tryz.prog.cellsOf 3)) = some q5 := hg5 1 _ rfl
    rw [e3] at u5 w5
    obtain ⟨a5, hk5, -, -⟩ := DataW.trod_int Tryz.underlying3 u5
    obtain ⟨b5, hm5, -, -⟩ := DataW.trod_int Tryz.underlying3 w5
    have g6 : DataW.trod enc Tryz.prog W base spare held n 23 (((Value.agg cs).cells.toList.drop 9).take (Tryz.prog.cellsOf 23)) = some y6 := hf 6 _ rfl
    rw [e23] at g6
    obtain ⟨zs6, n6, -, -, -, hz6, hg6⟩ := DataW.trod_struct Tryz.underlying23 g6
    have hz6' : zs6.length = 2 := hz6
    obtain ⟨p6, q6, rfl⟩ : ∃ p q, zs6 = [p, q] := by rcases zs6 with _ | ⟨p, _ | ⟨q, _ | ⟨r, t⟩⟩⟩ <;> simp at hz6' ; exact ⟨p, q, rfl⟩
    have u6 : DataW.trod enc Tryz.prog W base spare held n6 3 (((((Value.agg cs).cells.toList.drop 9).take 2).drop 0).take (Tryz.prog.cellsOf 3)) = some p6 := hg6 0 _ rfl
    have w6 : DataW.trod enc Tryz.prog W base spare held n6 3 (((((Value.agg cs).cells.toList.drop 9).take 2).drop 1).take (Tryz.prog.cellsOf 3)) = some q6 := hg6 1 _ rfl
    rw [e3] at u6 w6
    obtain ⟨a6, hk6, -, -⟩ := DataW.trod_int Tryz.underlying3 u6
    obtain ⟨b6, hm6, -, -⟩ := DataW.trod_int Tryz.underlying3 w6
    have g7 : DataW.trod enc Tryz.prog W base spare held n 9 (((Value.agg cs).cells.toList.drop 11).take (Tryz.prog.cellsOf 9)) = some y7 := hf 7 _ rfl
    rw [e9] at g7
    obtain ⟨a7, hk7, -, hm7⟩ := DataW.trod_string Tryz.underlying9 g7
    have g8 : DataW.trod enc Tryz.prog W base spare held n 9 (((Value.agg cs).cells.toList.drop 12).take (Tryz.prog.cellsOf 9)) = some y8 := hf 8 _ rfl
    rw [e9] at g8
    obtain ⟨a8, hk8, -, hm8⟩ := DataW.trod_string Tryz.underlying9 g8
    have hcs : cs = #[.int .i64 a0, .int .i64 b0, .int .i64 a1, .slice A2 l2.length c2, .int .i64 a3, .int .i64 a4, .int .i64 b4, .int .i64 a5, .int .i64 b5, .int .i64 a6, .int .i64 b6, .string a7, .string a8] := by
      apply Array.ext'
      have hcl : (Value.agg cs).cells.toList = cs.toList := by simp [Value.cells]
      rw [hcl] at hlen' hk0 hm0 hk1 hk2 hk3 hk4 hm4 hk5 hm5 hk6 hm6 hk7 hk8
      revert hlen' hk0 hm0 hk1 hk2 hk3 hk4 hm4 hk5 hm5 hk6 hm6 hk7 hk8
      generalize cs.toList = zs
      intro hlen' hk0 hm0 hk1 hk2 hk3 hk4 hm4 hk5 hm5 hk6 hm6 hk7 hk8
      obtain ⟨z0, z1, z2, z3, z4, z5, z6, z7, z8, z9, z10, z11, z12, rfl⟩ : ∃ z0 z1 z2 z3 z4 z5 z6 z7 z8 z9 z10 z11 z12, zs = [z0, z1, z2, z3, z4, z5, z6, z7, z8, z9, z10, z11, z12] := by
        match zs, hlen' with
        | [z0, z1, z2, z3, z4, z5, z6, z7, z8, z9, z10, z11, z12], _ => exact ⟨_, _, _, _, _, _, _, _, _, _, _, _, _, rfl⟩
      simp only [List.drop_zero, List.drop_succ_cons, List.take_succ_cons, List.take_zero, List.cons.injEq, and_true] at hk0 hm0 hk1 hk2 hk3 hk4 hm4 hk5 hm5 hk6 hm6 hk7 hk8
      rw [hk0, hm0, hk1, hk2, hk3, hk4, hm4, hk5, hm5, hk6, hm6, hk7, hk8]
    subst hcs
    exact ⟨a0, b0, a1, A2, c2, l2, a3, a4, b4, a5, b5, a6, b6, a7, a8, y0, y1, y2, y3, y4, y5, y6, y7, y8, rfl, hd, hC2, hnc2, hsh2, hm7, hm8⟩
theorem sized_T26_2 {H : Type} {ts : List TypeId} {ds : List (DataW H)} {j n : Nat} {y0 y1 y2 y3 y4 y5 y6 y7 y8 : DataW H × List MemPlace} (hsz : (DataW.weightsEach Tryz.prog ts ds).all (· ≤ reachBytes) = true) (ht : ts[j]? = some 26) (hd : ds[j]? = some (.agg [y0.1, y1.1, y2.1, y3.1, y4.1, y5.1, y6.1, y7.1, y8.1])) (h : y2.1 = .nil ∧ n = 0 ∨ ∃ el sp, y2.1 = .slice el sp ∧ el.length = n) : n * 8 ≤ 140737488351232 := by
  rcases h with ⟨_, rfl⟩ | ⟨el, sp, he, rfl⟩
  · simp
  · have z := List.all_eq_true.1 hsz ((el.length + sp.length) * Tryz.prog.bytesOf 3) (DataW.weights_mem_each ht hd _ (by
      simp only [DataW.weights, Tryz.underlying26]
      exact DataW.weights_mem_each (j := 2) (t := 24) rfl rfl _ (by rw [he]; simp [DataW.weights, Tryz.underlying24])))
    have z' : (el.length + sp.length) * Tryz.prog.bytesOf 3 ≤ reachBytes := by simpa using z
    rw [show Tryz.prog.bytesOf 3 = 8 from by kernel_rfl] at z'
    exact Nat.le_trans (Nat.mul_le_mul_right _ (Nat.le_add_right _ _)) z'
end
open Go.ChangeShapes Go.WideShapes Go.ChangeAt Go.RowKit
open Go.ChangeMaps (open_string shut_string)
set_option linter.unusedVariables false
set_option linter.unusedSimpArgs false
theorem own : ownKnob Tryz.prog.godebug = none := by kernel_rfl
theorem laidOut : laidOutB Tryz.prog = true := by kernel_rfl
theorem gTab : Tryz.prog.globalNamed "internal/strconv.uint64pow10" = some 0 := by kernel_rfl
theorem gTabType : (Tryz.prog.globals[0]?).map (·.type) = some 125 := by kernel_rfl
theorem cellsT : Tryz.prog.cellsOf 125 = 20 := by kernel_rfl
theorem cellsE : Tryz.prog.cellsOf 105 = 1 := by kernel_rfl
theorem gES : Tryz.prog.globalNamed "strconv.ErrSyntax" = some 2 := by kernel_rfl
theorem gEST : (Tryz.prog.globals[2]?).map (·.type) = some 82 := by kernel_rfl
theorem gER : Tryz.prog.globalNamed "strconv.ErrRange" = some 3 := by kernel_rfl
theorem gERT : (Tryz.prog.globals[3]?).map (·.type) = some 82 := by kernel_rfl
theorem cellsES : Tryz.prog.cellsOf 143 = 1 := by kernel_rfl
theorem cellsS : Tryz.prog.cellsOf 9 = 1 := by kernel_rfl
theorem star : "*" ++ "errors.errorString" = "*errors.errorString" := by decide
theorem rowE (u : TypeId) (h : Tryz.prog.typeName? 3 u = some "*errors.errorString") : u = 141 :=
  typeName_ptr_named (nm := "errors.errorString") (by rw [star]; kernel_rfl) (by kernel_rfl) (by decide) u (by rw [star]; exact h)
theorem table {W : World} (h0 : laidMetH Tryz.prog Rows.changeSamesRow.laid W) (hOpen : W.ShapedOpen Tryz.prog) : QChangeSames.TabW_ W := by
  have h : laidMet Tryz.prog [("math/bits.deBruijn32tab", Rows.laid_math_bits_deBruijn32tab), ("math/bits.deBruijn64tab", Rows.laid_math_bits_deBruijn64tab), ("internal/strconv.uint64pow10", Rows.laid_internal_strconv_uint64pow10), ("unicode/utf8.acceptRanges", Rows.laid_unicode_utf8_acceptRanges), ("strconv.ErrRange", Rows.laid_strconv_ErrRange), ("strconv.ErrSyntax", Rows.laid_strconv_ErrSyntax), ("unicode/utf8.first", Rows.laid_unicode_utf8_first)] W := h0
  exact ⟨⟨Lib.tabIs_of_head gTab gTabType Tryz.underlying125 Tryz.underlying105 cellsE cellsT (Go.laidMet.tail (Go.laidMet.tail h)), (by obtain ⟨_, _, hv, _⟩ := laid_sentinel (Go.laidMet.tail (Go.laidMet.tail (Go.laidMet.tail (Go.laidMet.tail (Go.laidMet.tail h))))) gES gEST Tryz.underlying82 rowE Tryz.underlying141 Tryz.underlying143 rfl rfl Tryz.underlying9 cellsES cellsS; exact ⟨_, _, hv⟩), (by obtain ⟨_, _, hv, _⟩ := laid_sentinel (Go.laidMet.tail (Go.laidMet.tail (Go.laidMet.tail (Go.laidMet.tail h)))) gER gERT Tryz.underlying82 rowE Tryz.underlying141 Tryz.underlying143 rfl rfl Tryz.underlying9 cellsES cellsS; exact ⟨_, _, hv⟩)⟩, Tryz.laysM145.s1_3 W hOpen⟩
set_option maxRecDepth 100000 in
theorem contract (H : Type) (enc : TypeId × Value → H) (W : World) (base : Nat) (args : Array Value) (ds gs : List (DataW H)) (before : List MemPlace)
    (hval0 : ∀ (j : Nat) t v, Tryz.f7.params[j]? = some t → args[j]? = some v → Value.okWide Tryz.prog W .any base t v)
    (hW : DataW.Whole enc Tryz.prog Tryz.f7.params.toList Rows.changeSamesSpec.vars false W args.toList ds gs before)
    (hsz0 : (DataW.weightsEach Tryz.prog (Tryz.f7.params.toList ++ Rows.changeSamesSpec.plain.varTypes Tryz.prog) (ds ++ gs)).all (· ≤ reachBytes) = true)
    (hL : laidMetH Tryz.prog Rows.changeSamesRow.laid W) (hOpen : W.ShapedOpen Tryz.prog) :
    Calls Tryz.prog 7 args W fun e W' => ∃ v, e = .returned v ∧ Rows.changeSamesSpec.post enc Tryz.prog Tryz.f7 false true false false W args v W' := by
  have hsz : (DataW.weightsEach Tryz.prog (Tryz.f7.params.toList ++ Rows.changeSamesSpec.plain.varTypes Tryz.prog) (ds ++ gs)).all (· ≤ reachBytes) = true := hsz0
  have hval : ∀ (j : Nat) t v, Tryz.f7.params[j]? = some t → args[j]? = some v → Value.okWide Tryz.prog W .any base t v := hval0
  have hW' := hW
  obtain ⟨p, q, hA0, hV, rfl, hfz, hnd⟩ := hW
  have hA : DataW.TrodAll enc Tryz.prog W 0 (fun _ => true) true Tryz.f7.params.toList args.toList ds p := hA0
  rw [Tryz.params7] at hA hval hsz
  obtain ⟨v0, vs0, d0, ds0, p0, q0, hargs, rfl, rfl, h0, r0⟩ := trodAll_cons hA
  obtain ⟨v1, vs1, d1, ds1, p1, q1, rfl, rfl, rfl, h1, r1⟩ := trodAll_cons r0
  obtain ⟨rfl, rfl, rfl⟩ := trodAll_nil r1
  obtain rfl : args = #[v0, v1] := by cases args; simp_all
  obtain ⟨rfl, rfl⟩ := trodVars_none hV
  have k0 := h0
  have lt0 : ∀ x ∈ p0, x.block < W.heap.size := by obtain ⟨m, hm⟩ := k0; exact DataW.trod_lt m _ _ _ hm
  obtain ⟨a0_0, a0_1, a0_2, A0_3, c0_3, l0_3, a0_4, a0_5, a0_6, a0_7, a0_8, a0_9, a0_10, a0_11, a0_12, y0_0, y0_1, y0_2, y0_3, y0_4, y0_5, y0_6, y0_7, y0_8, rfl, rfl, hr0_3, hc0_3, hsh0_3, hm0_11, hm0_12⟩ := open_T26 (hval 0 26 v0 rfl rfl) h0
  have hsized0 := sized_T26_2 (j := 0) hsz rfl rfl hsh0_3
  have k1 := h1
  have lt1 : ∀ x ∈ p1, x.block < W.heap.size := by obtain ⟨m, hm⟩ := k1; exact DataW.trod_lt m _ _ _ hm
  obtain ⟨a1_0, a1_1, a1_2, A1_3, c1_3, l1_3, a1_4, a1_5, a1_6, a1_7, a1_8, a1_9, a1_10, a1_11, a1_12, y1_0, y1_1, y1_2, y1_3, y1_4, y1_5, y1_6, y1_7, y1_8, rfl, rfl, hr1_3, hc1_3, hsh1_3, hm1_11, hm1_12⟩ := open_T26 (hval 1 26 v1 rfl rfl) h1
  have hsized1 := sized_T26_2 (j := 1) hsz rfl rfl hsh1_3
  clear hA0 hval0 hsz0
  obtain ⟨kq, hq⟩ := PureChangeSames.law a0_0 a0_1 a0_2 l0_3 a0_4 a0_5 a0_6 a0_7 a0_8 a0_9 a0_10 a0_11 a0_12 a1_0 a1_1 a1_2 l1_3 a1_4 a1_5 a1_6 a1_7 a1_8 a1_9 a1_10 a1_11 a1_12 (by omega)
  refine (QChangeSames.topiarylaw05_ChangeSames.calls kq a0_0 a0_1 a0_2 A0_3 c0_3 l0_3 a0_4 a0_5 a0_6 a0_7 a0_8 a0_9 a0_10 a0_11 a0_12 a1_0 a1_1 a1_2 A1_3 c1_3 l1_3 a1_4 a1_5 a1_6 a1_7 a1_8 a1_9 a1_10 a1_11 a1_12 W hr0_3 hc0_3 hr1_3 hc1_3 (table hL hOpen) (hq kq (Nat.le_refl _))).mono fun e W' ⟨he, bel⟩ => ?_
  subst he
  exact ⟨_, rfl, _, _, _, [], _, [], hW', trodAll_mk1 (shut_bool Tryz.underlying4 _), (trodAll_cons_mk (Below.trod laidOut (by kernel_rfl) (of_decide_eq_true (by kernel_rfl)) k0 bel lt0) (trodAll_cons_mk (Below.trod laidOut (by kernel_rfl) (of_decide_eq_true (by kernel_rfl)) k1 bel lt1) trodAll_mk0)), rfl, bel.frame _, fun h => by cases h⟩
/-- A world for the witness: the tables as their initialisers lay them. -/
abbrev sentinel0 : ByteArray := { data := #[118, 97, 108, 117, 101, 32, 111, 117, 116, 32, 111, 102, 32, 114, 97, 110, 103, 101] }
abbrev sentinel1 : ByteArray := { data := #[105, 110, 118, 97, 108, 105, 100, 32, 115, 121, 110, 116, 97, 120] }
noncomputable def low : Nat := (World.holding Tryz.prog default ⟨#[], #[], []⟩).heap.size
noncomputable def laidWorld (os : Os) : World := { World.holding Tryz.prog os ⟨#[.cells #[.string sentinel0] 143, .cells #[.string sentinel1] 143], #[], []⟩ with heap := (((((((((((((((World.holding Tryz.prog os ⟨#[.cells #[.string sentinel0] 143, .cells #[.string sentinel1] 143], #[], []⟩).heap).modify 4 fun | .cells _ t fr => .cells #[.int .u8 0, .int .u8 1, .int .u8 28, .int .u8 2, .int .u8 29, .int .u8 14, .int .u8 24, .int .u8 3, .int .u8 30, .int .u8 22, .int .u8 20, .int .u8 15, .int .u8 25, .int .u8 17, .int .u8 4, .int .u8 8, .int .u8 31, .int .u8 27, .int .u8 13, .int .u8 23, .int .u8 21, .int .u8 19, .int .u8 16, .int .u8 7, .int .u8 26, .int .u8 12, .int .u8 18, .int .u8 6, .int .u8 11, .int .u8 5, .int .u8 10, .int .u8 9] t fr | o => o)).modify 5 fun | .cells _ t fr => .cells #[.int .u8 0, .int .u8 1, .int .u8 56, .int .u8 2, .int .u8 57, .int .u8 49, .int .u8 28, .int .u8 3, .int .u8 61, .int .u8 58, .int .u8 42, .int .u8 50, .int .u8 38, .int .u8 29, .int .u8 17, .int .u8 4, .int .u8 62, .int .u8 47, .int .u8 59, .int .u8 36, .int .u8 45, .int .u8 43, .int .u8 51, .int .u8 22, .int .u8 53, .int .u8 39, .int .u8 33, .int .u8 30, .int .u8 24, .int .u8 18, .int .u8 12, .int .u8 5, .int .u8 63, .int .u8 55, .int .u8 48, .int .u8 27, .int .u8 60, .int .u8 41, .int .u8 37, .int .u8 16, .int .u8 46, .int .u8 35, .int .u8 44, .int .u8 21, .int .u8 52, .int .u8 32, .int .u8 23, .int .u8 11, .int .u8 54, .int .u8 26, .int .u8 40, .int .u8 15, .int .u8 34, .int .u8 20, .int .u8 31, .int .u8 10, .int .u8 25, .int .u8 14, .int .u8 19, .int .u8 9, .int .u8 13, .int .u8 8, .int .u8 7, .int .u8 6] t fr | o => o)).modify 0 fun | .cells _ t fr => .cells #[.int .u64 1, .int .u64 10, .int .u64 100, .int .u64 1000, .int .u64 10000, .int .u64 100000, .int .u64 1000000, .int .u64 10000000, .int .u64 100000000, .int .u64 1000000000, .int .u64 10000000000, .int .u64 100000000000, .int .u64 1000000000000, .int .u64 10000000000000, .int .u64 100000000000000, .int .u64 1000000000000000, .int .u64 10000000000000000, .int .u64 100000000000000000, .int .u64 1000000000000000000, .int .u64 10000000000000000000] t fr | o => o)).modify 7 fun | .cells _ t fr => .cells #[.int .u8 128, .int .u8 191, .int .u8 160, .int .u8 191, .int .u8 128, .int .u8 159, .int .u8 144, .int .u8 191, .int .u8 128, .int .u8 143, .int .u8 0, .int .u8 0, .int .u8 0, .int .u8 0, .int .u8 0, .int .u8 0, .int .u8 0, .int .u8 0, .int .u8 0, .int .u8 0, .int .u8 0, .int .u8 0, .int .u8 0, .int .u8 0, .int .u8 0, .int .u8 0, .int .u8 0, .int .u8 0, .int .u8 0, .int .u8 0, .int .u8 0, .int .u8 0] t fr | o => o)).modify 3 fun | .cells _ t fr => .cells #[.iface 141 (.pointer (some ⟨low + 0, 0, none⟩))] t fr | o => o)).modify 2 fun | .cells _ t fr => .cells #[.iface 141 (.pointer (some ⟨low + 1, 0, none⟩))] t fr | o => o)).modify 6 fun | .cells _ t fr => .cells #[.int .u8 240, .int .u8 240, .int .u8 240, .int .u8 240, .int .u8 240, .int .u8 240, .int .u8 240, .int .u8 240, .int .u8 240, .int .u8 240, .int .u8 240, .int .u8 240, .int .u8 240, .int .u8 240, .int .u8 240, .int .u8 240, .int .u8 240, .int .u8 240, .int .u8 240, .int .u8 240, .int .u8 240, .int .u8 240, .int .u8 240, .int .u8 240, .int .u8 240, .int .u8 240, .int .u8 240, .int .u8 240, .int .u8 240, .int .u8 240, .int .u8 240, .int .u8 240, .int .u8 240, .int .u8 240, .int .u8 240, .int .u8 240, .int .u8 240, .int .u8 240, .int .u8 240, .int .u8 240, .int .u8 240, .int .u8 240, .int .u8 240, .int .u8 240, .int .u8 240, .int .u8 240, .int .u8 240, .int .u8 240, .int .u8 240, .int .u8 240, .int .u8 240, .int .u8 240, .int .u8 240, .int .u8 240, .int .u8 240, .int .u8 240, .int .u8 240, .int .u8 240, .int .u8 240, .int .u8 240, .int .u8 240, .int .u8 240, .int .u8 240, .int .u8 240, .int .u8 240, .int .u8 240, .int .u8 240, .int .u8 240, .int .u8 240, .int .u8 240, .int .u8 240, .int .u8 240, .int .u8 240, .int .u8 240, .int .u8 240, .int .u8 240, .int .u8 240, .int .u8 240, .int .u8 240, .int .u8 240, .int .u8 240, .int .u8 240, .int .u8 240, .int .u8 240, .int .u8 240, .int .u8 240, .int .u8 240, .int .u8 240, .int .u8 240, .int .u8 240, .int .u8 240, .int .u8 240, .int .u8 240, .int .u8 240, .int .u8 240, .int .u8 240, .int .u8 240, .int .u8 240, .int .u8 240, .int .u8 240, .int .u8 240, .int .u8 240, .int .u8 240, .int .u8 240, .int .u8 240, .int .u8 240, .int .u8 240, .int .u8 240, .int .u8 240, .int .u8 240, .int .u8 240, .int .u8 240, .int .u8 240, .int .u8 240, .int .u8 240, .int .u8 240, .int .u8 240, .int .u8 240, .int .u8 240, .int .u8 240, .int .u8 240, .int .u8 240, .int .u8 240, .int .u8 240, .int .u8 240, .int .u8 240, .int .u8 240, .int .u8 240, .int .u8 241, .int .u8 241, .int .u8 241, .int .u8 241, .int .u8 241, .int .u8 241, .int .u8 241, .int .u8 241, .int .u8 241, .int .u8 241, .int .u8 241, .int .u8 241, .int .u8 241, .int .u8 241, .int .u8 241, .int .u8 241, .int .u8 241, .int .u8 241, .int .u8 241, .int .u8 241, .int .u8 241, .int .u8 241, .int .u8 241, .int .u8 241, .int .u8 241, .int .u8 241, .int .u8 241, .int .u8 241, .int .u8 241, .int .u8 241, .int .u8 241, .int .u8 241, .int .u8 241, .int .u8 241, .int .u8 241, .int .u8 241, .int .u8 241, .int .u8 241, .int .u8 241, .int .u8 241, .int .u8 241, .int .u8 241, .int .u8 241, .int .u8 241, .int .u8 241, .int .u8 241, .int .u8 241, .int .u8 241, .int .u8 241, .int .u8 241, .int .u8 241, .int .u8 241, .int .u8 241, .int .u8 241, .int .u8 241, .int .u8 241, .int .u8 241, .int .u8 241, .int .u8 241, .int .u8 241, .int .u8 241, .int .u8 241, .int .u8 241, .int .u8 241, .int .u8 241, .int .u8 241, .int .u8 2, .int .u8 2, .int .u8 2, .int .u8 2, .int .u8 2, .int .u8 2, .int .u8 2, .int .u8 2, .int .u8 2, .int .u8 2, .int .u8 2, .int .u8 2, .int .u8 2, .int .u8 2, .int .u8 2, .int .u8 2, .int .u8 2, .int .u8 2, .int .u8 2, .int .u8 2, .int .u8 2, .int .u8 2, .int .u8 2, .int .u8 2, .int .u8 2, .int .u8 2, .int .u8 2, .int .u8 2, .int .u8 2, .int .u8 2, .int .u8 19, .int .u8 3, .int .u8 3, .int .u8 3, .int .u8 3, .int .u8 3, .int .u8 3, .int .u8 3, .int .u8 3, .int .u8 3, .int .u8 3, .int .u8 3, .int .u8 3, .int .u8 35, .int .u8 3, .int .u8 3, .int .u8 52, .int .u8 4, .int .u8 4, .int .u8 4, .int .u8 68, .int .u8 241, .int .u8 241, .int .u8 241, .int .u8 241, .int .u8 241, .int .u8 241, .int .u8 241, .int .u8 241, .int .u8 241, .int .u8 241, .int .u8 241] t fr | o => o) }
set_option maxRecDepth 100000 in
theorem laid_met (os : Os) : laidMet Tryz.prog Rows.changeSamesRow.laid (((laidWorld os).forCall (fun _ _ => 0) ⟨#[], #[.agg #[.int .i64 0, .int .i64 0, .int .i64 0, .slice none 0 0, .int .i64 0, .int .i64 0, .int .i64 0, .int .i64 0, .int .i64 0, .int .i64 0, .int .i64 0, .string ⟨#[]⟩, .string ⟨#[]⟩], .agg #[.int .i64 0, .int .i64 0, .int .i64 0, .slice none 0 0, .int .i64 0, .int .i64 0, .int .i64 0, .int .i64 0, .int .i64 0, .int .i64 0, .int .i64 0, .string ⟨#[]⟩, .string ⟨#[]⟩]], []⟩).memory) :=
  laidMet_of_run' 8 (by kernel_rfl) (by kernel_rfl)
theorem reads (os : Os) {H : Type} (enc : TypeId × Value → H) : ∃ places, DataW.whole enc Tryz.prog (((laidWorld os).forCall (fun _ _ => 0) ⟨#[], #[.agg #[.int .i64 0, .int .i64 0, .int .i64 0, .slice none 0 0, .int .i64 0, .int .i64 0, .int .i64 0, .int .i64 0, .int .i64 0, .int .i64 0, .int .i64 0, .string ⟨#[]⟩, .string ⟨#[]⟩], .agg #[.int .i64 0, .int .i64 0, .int .i64 0, .slice none 0 0, .int .i64 0, .int .i64 0, .int .i64 0, .int .i64 0, .int .i64 0, .int .i64 0, .int .i64 0, .string ⟨#[]⟩, .string ⟨#[]⟩]], []⟩).memory) Tryz.f7.params.toList Rows.changeSamesSpec.vars false #[(.agg #[.int .i64 0, .int .i64 0, .int .i64 0, .slice none 0 0, .int .i64 0, .int .i64 0, .int .i64 0, .int .i64 0, .int .i64 0, .int .i64 0, .int .i64 0, .string ⟨#[]⟩, .string ⟨#[]⟩] : Value), (.agg #[.int .i64 0, .int .i64 0, .int .i64 0, .slice none 0 0, .int .i64 0, .int .i64 0, .int .i64 0, .int .i64 0, .int .i64 0, .int .i64 0, .int .i64 0, .string ⟨#[]⟩, .string ⟨#[]⟩] : Value)].toList 8 = some ([.agg [.agg [.lit (.int .i64 0), .lit (.int .i64 0)], .lit (.int .i64 0), .nil, .lit (.int .i64 0), .agg [.lit (.int .i64 0), .lit (.int .i64 0)], .agg [.lit (.int .i64 0), .lit (.int .i64 0)], .agg [.lit (.int .i64 0), .lit (.int .i64 0)], .lit (.string []), .lit (.string [])], .agg [.agg [.lit (.int .i64 0), .lit (.int .i64 0)], .lit (.int .i64 0), .nil, .lit (.int .i64 0), .agg [.lit (.int .i64 0), .lit (.int .i64 0)], .agg [.lit (.int .i64 0), .lit (.int .i64 0)], .agg [.lit (.int .i64 0), .lit (.int .i64 0)], .lit (.string []), .lit (.string [])]], [], places) :=
  ⟨[], by kernel_rfl⟩
set_option maxRecDepth 100000 in
theorem lifted (os : Os) (started : os.Started) (H : Type) (enc : TypeId × Value → H) (F : Stop.Interp) :
    ReturnsInHanded {} Tryz.checked os 7 .any ((OpenSpec.ofChange Rows.changeSamesSpec).preRow enc Tryz.prog Tryz.f7 Rows.changeSamesRow.domain false Rows.changeSamesRow.laid) (((OpenSpec.ofChange Rows.changeSamesSpec).at F).post enc Tryz.prog Tryz.f7 false true false false) := by
  obtain ⟨places, hx⟩ := reads os enc
  refine returnsInHanded_of_row (C := Tryz.checked) (s := OpenSpec.ofChange Rows.changeSamesSpec) own started (by kernel_rfl) Tryz.func7
    (witness_row_at (enc := enc) (C := Tryz.checked) false (laidWorld os) #[.agg #[.int .i64 0, .int .i64 0, .int .i64 0, .slice none 0 0, .int .i64 0, .int .i64 0, .int .i64 0, .int .i64 0, .int .i64 0, .int .i64 0, .int .i64 0, .string ⟨#[]⟩, .string ⟨#[]⟩], .agg #[.int .i64 0, .int .i64 0, .int .i64 0, .slice none 0 0, .int .i64 0, .int .i64 0, .int .i64 0, .int .i64 0, .int .i64 0, .int .i64 0, .int .i64 0, .string ⟨#[]⟩, .string ⟨#[]⟩]] rfl (by kernel_rfl) (by kernel_rfl) (by kernel_rfl)
      (OpenSpec.preRow_of_cond 8 hx (by kernel_rfl) (fun k hk => by cases hk) (by kernel_rfl) (laid_met os))) ?_
  intro W base args ds gs before hval hW _ hcond hsz hL hOpen _
  exact contract H enc W base args ds gs before hval hW hsz hL hOpen
theorem said : Rows.ChangeSamesSaid :=
  OpenClaim.holds_of_cond 7 Tryz.f7 rfl rfl rfl rfl rfl rfl rfl ⟨rfl, rfl, rfl, rfl, rfl⟩ rfl rfl rfl rfl rfl (by kernel_rfl) Tryz.func7 (by kernel_rfl)
    (of_decide_eq_true (by kernel_rfl)) (by unfold Func.isWrapper; first | (rw [if_pos (by decide +kernel)]; kernel_rfl) | (rw [if_neg (by decide +kernel)]; exact ⟨rfl, rfl⟩))
    (fun os started H enc _ F => by rw [OpenClaim.pre_eq_preRow]; exact lifted os started H enc F)
theorem plain (f : FuncId) (fn : Func) (hf : Tryz.pinned.checked.prog.funcNamed "topiary/topiarylaw05.ChangeSames" = some f) (hfn : Tryz.pinned.checked.prog.funcs[f]? = some fn) :
    true = Tryz.pinned.checked.prog.looks [] ∧ ∀ (j : Nat) t, fn.params[j]? = some t → Tryz.pinned.checked.prog.wantsStandIn t = false := by
  obtain rfl : f = 7 := Option.some.inj ((show Tryz.prog.funcNamed "topiary/topiarylaw05.ChangeSames" = some 7 by kernel_rfl).symm.trans hf) |>.symm
  obtain rfl : fn = Tryz.f7 := (Option.some.inj (Tryz.func7.symm.trans hfn)).symm
  refine ⟨by kernel_rfl, fun j t ht => ?_⟩
  rw [Tryz.params7] at ht
  have hm : t = 26 ∨ t = 26 := by simpa using Array.mem_of_getElem? ht
  rcases hm with rfl | rfl
  · exact (show Tryz.prog.wantsStandIn 26 = false by kernel_rfl)
  · exact (show Tryz.prog.wantsStandIn 26 = false by kernel_rfl)
theorem proved : Rows.ChangeSamesCardSaid :=
  Claim7.holds_tied_plain_at .later [] _ _ _ _ said (fun _ h => by cases h) (by kernel_rfl) (fun _ h => by cases h) changeSames_row_tie rfl ⟨rfl, rfl⟩ (by kernel_rfl) rfl plain (by kernel_rfl)
end Go.Proofs.YtgoolgmcbnikkaaGreatDoor.changeSames
namespace Go.Proofs.YtgoolgmcbnikkaaGreatDoor
/-- The card, under a short name, for the claim. -/
theorem changeSames_holds : Rows.ChangeSamesCardSaid := changeSames.proved
end Go.Proofs.YtgoolgmcbnikkaaGreatDoor
