-- The row of ReplicaNil: laid by the session's program cardrow.py (wip/tools). Lean checks it.
import Derived.Test.YtfbeonkbemdaaaaGreatDoorCards
import Derived.Test.YtfbeonkbemdaaaaGreatDoorTie
import Derived.WalkKit
import Derived.ProofKit
import Derived.OpenShut
import Derived.ShutString
import Derived.ChangeOld
import Derived.Below
import Derived.Carry
import Derived.Deep.DeepHandedRow
import Derived.Lib.LaidTab
import Derived.Lib.SmallJoins
import Derived.Stop.LaidErr
import Derived.Test.YtfbeonkbemdaaaaGreatDoorQReplicaNilx
import Derived.SizedLaws
import Derived.Test.YtfbeonkbemdaaaaGreatDoorWSized
import Derived.Deep.Slices
import Derived.Deep.Fields
import Derived.ChangeSame
import Derived.SizedLaws
import Derived.ChangeArms
namespace Go.Proofs.YtfbeonkbemdaaaaGreatDoor.replicaNil
section
set_option linter.unusedVariables false
set_option linter.unusedSimpArgs false
open Go.ChangeShapes Go.WideShapes Go.Deep Go.RowKit
open Go.Proofs.YtfbeonkbemdaaaaGreatDoorW.PrintWords Go.Proofs.YtfbeonkbemdaaaaGreatDoor.QReplicaNil
/-! ### What is read as data of a type reads as the printed texts' kinds do -/
section
open Go.ChangeShapes Go.WideShapes Go.Deep Go.RowKit
variable {H : Type} {enc : TypeId × Value → H} {P : Program} {w : World} {base : Nat} {spare : Nat → Bool} {held : Bool} {α : Type}
/-- Data of the type t are some a of the kind d, which fits ('F', the datum's bulk at hand). -/
def Opn (enc : TypeId × Value → H) (P : Program) (w : World) (base : Nat) (spare : Nat → Bool) (held : Bool) (d : Kd α) (F : Nat → α → Prop) (t : TypeId) : Prop :=
  ∀ (fuel : Nat) (cs : List Value) (x : DataW H × List MemPlace), DataW.trod enc P w base spare held fuel t cs = some x → ∃ a : α, d.K w a cs ∧ F (Rows.uptoBulk x.1) a
def FitInt (k : IntKind) (_ : Nat) (a : Int) : Prop := (Lit.int k a).wf = true
def FitBool (_ : Nat) (_ : Bool) : Prop := True
def FitStr (n : Nat) (s : ByteArray) : Prop := s.size ≤ n
def FitList (F : Nat → α → Prop) (n : Nat) (l : List α) : Prop := l.length ≤ n ∧ ∀ a, a ∈ l → F n a
theorem opn_int {k : IntKind} {t : TypeId} (ht : P.underlying t = some (.int k)) : Opn enc P w base spare held (Kd.int k) (FitInt k) t := by
  intro fuel cs x h
  obtain ⟨a, rfl, rfl, hw⟩ := DataW.trod_int ht h
  exact ⟨a, rfl, hw⟩
theorem opn_bool {t : TypeId} (ht : P.underlying t = some .bool) : Opn enc P w base spare held Kd.bool FitBool t := by
  intro fuel cs x h
  obtain ⟨a, rfl, rfl⟩ := DataW.trod_bool ht h
  exact ⟨a, rfl, trivial⟩
theorem opn_string {t : TypeId} (ht : P.underlying t = some .string) : Opn enc P w base spare held Kd.string FitStr t := by
  intro fuel cs x h
  obtain ⟨s, rfl, rfl, hm⟩ := DataW.trod_string ht h
  refine ⟨s, rfl, ?_⟩
  simp only [FitStr, Rows.uptoBulk]
  rw [show s.size = s.data.toList.length from rfl]; omega
theorem bulkAll_get {l : List (DataW H)} {d : DataW H} (h : d ∈ l) : Rows.uptoBulk d ≤ Rows.uptoBulkAll l := by
  induction l with
  | nil => cases h
  | cons y r ih =>
    simp only [Rows.uptoBulkAll]
    rcases List.mem_cons.1 h with rfl | h
    · omega
    · have := ih h; omega
theorem bulk_one (d : DataW H) : 1 ≤ Rows.uptoBulk d := by
  cases d with
  | lit l => cases l <;> simp [Rows.uptoBulk]
  | _ => simp [Rows.uptoBulk]
theorem bulkAll_len : ∀ (l : List (DataW H)), l.length ≤ Rows.uptoBulkAll l
  | [] => by simp [Rows.uptoBulkAll]
  | x :: r => by
    have h1 := bulk_one x
    have h2 := bulkAll_len r
    simp only [Rows.uptoBulkAll, List.length_cons]; omega
theorem opn_row {d : Kd α} {F : Nat → α → Prop} {t e : TypeId} (hF : ∀ n m a, n ≤ m → F n a → F m a) (hd : Opn enc P w base spare held d F e) (ht : P.underlying t = some (.slice e)) (hC : P.cellsOf e = d.sz) {fuel : Nat} {cs : List Value} {x : DataW H × List MemPlace}
    (h : DataW.trod enc P w base spare held fuel t cs = some x) : ∃ (A : Option Addr) (n c : Nat) (xs : List α), cs = [.slice A n c] ∧ n ≤ c ∧ n = xs.length ∧ d.C w A xs.length xs ∧ FitList F (Rows.uptoBulk x.1) xs ∧ (x.1 = .nil ∧ n = 0 ∨ ∃ el sp, x.1 = .slice el sp ∧ el.length = n) := by
  rcases open_slice ht h with ⟨rfl, rfl⟩ | ⟨a, len, cap, m, n, D, Pl, rfl, _, hl, hm, hmm, rfl, hi⟩
  · exact ⟨none, 0, 0, [], rfl, Nat.le_refl _, rfl, Kd.C_nil _ _, ⟨by simp, fun _ h => by cases h⟩, .inl ⟨rfl, rfl⟩⟩
  · have hlm : len ≤ m := by rw [hmm]; split <;> omega
    have hx : ∀ i, i < len → ∃ (b : α) (cs' : List Value), w.cells? base (a.add (i * P.cellsOf e)) (P.cellsOf e) = some cs' ∧ d.K w b cs' ∧ F (Rows.uptoBulk (D i)) b := fun i hil => by
      obtain ⟨cs', h1, h2⟩ := hi i (by omega)
      obtain ⟨b, h3, h4⟩ := hd _ _ _ h2
      exact ⟨b, cs', h1, h3, h4⟩
    have hinh : len = 0 ∨ Nonempty α := by
      rcases Nat.eq_zero_or_pos len with h0 | h0
      · exact .inl h0
      · obtain ⟨b, _⟩ := hx 0 h0; exact .inr ⟨b⟩
    rcases hinh with h0 | ⟨⟨z⟩⟩
    · subst h0
      exact ⟨some a, 0, cap, [], rfl, by omega, rfl, ⟨rfl, by simp, fun h => absurd h (Nat.lt_irrefl 0)⟩, ⟨by simp, fun _ h => by cases h⟩, .inr ⟨_, _, rfl, by simp⟩⟩
    · have hch : ∃ f : Nat → α, ∀ i, i < len → ∃ cs' : List Value, w.cells? base (a.add (i * P.cellsOf e)) (P.cellsOf e) = some cs' ∧ d.K w (f i) cs' ∧ F (Rows.uptoBulk (D i)) (f i) :=
        ⟨fun i => if hil : i < len then (hx i hil).choose else z, fun i hil => by simp only [dif_pos hil]; exact (hx i hil).choose_spec⟩
      obtain ⟨f, hf⟩ := hch
      refine ⟨some a, len, cap, (List.range len).map f, rfl, hl, by simp, ⟨rfl, ?_, fun _ => ⟨a, rfl, fun j p hj => ?_⟩⟩, ⟨?_, ?_⟩, .inr ⟨_, _, rfl, by simp⟩⟩
      · simp; unfold maxLen at hm; omega
      · obtain ⟨hj', rfl⟩ := List.getElem?_eq_some_iff.1 hj
        have hjl : j < len := by simpa using hj'
        obtain ⟨cs', h1, h2, _⟩ := hf j hjl
        obtain ⟨_, hcl, hat⟩ := World.cells?_some h1
        refine ⟨cs', d.K_len h2, by simpa using h2, fun i u hu => ?_⟩
        have hil : i < P.cellsOf e := by obtain ⟨q, _⟩ := List.getElem?_eq_some_iff.1 hu; omega
        have := hat i hil
        rw [← Go.Deep.add_add, ← hC]
        rw [this]; exact hu
      · simp only [Rows.uptoBulk, List.length_map, List.length_range]
        have := bulkAll_len ((List.range len).map D)
        simp at this; omega
      · intro b hb
        obtain ⟨i, hil, rfl⟩ := List.mem_map.1 hb
        obtain ⟨_, _, _, h4⟩ := hf i (List.mem_range.1 hil)
        refine hF _ _ _ ?_ h4
        simp only [Rows.uptoBulk]
        have := bulkAll_get (l := (List.range len).map D) (d := D i) (List.mem_map.2 ⟨i, hil, rfl⟩)
        omega
theorem opn_slice {d : Kd α} {F : Nat → α → Prop} {t e : TypeId} (hF : ∀ n m a, n ≤ m → F n a → F m a) (hd : Opn enc P w base spare held d F e) (ht : P.underlying t = some (.slice e)) (hC : P.cellsOf e = d.sz) :
    Opn enc P w base spare held (Kd.slice e d) (FitList F) t := by
  intro fuel cs x h
  obtain ⟨A, n, c, xs, rfl, hnc, rfl, hK, hf, _⟩ := opn_row hF hd ht hC h
  exact ⟨xs, ⟨A, c, rfl, hnc, hK⟩, hf⟩
/-- A slice among the parameters is no longer than its weight allows. -/
theorem row_sized {t e : TypeId} {ts : List TypeId} {ds : List (DataW H)} {j n B : Nat} {d : DataW H} (hsz : (DataW.weightsEach P ts ds).all (· ≤ reachBytes) = true) (ht : ts[j]? = some t) (hd : ds[j]? = some d) (hu : P.underlying t = some (.slice e)) (hB : P.bytesOf e = B)
    (h : d = .nil ∧ n = 0 ∨ ∃ el sp, d = .slice el sp ∧ el.length = n) : n * B ≤ 140737488351232 := by
  rcases h with ⟨_, rfl⟩ | ⟨el, sp, rfl, rfl⟩
  · simp
  · have z := sized_slice hsz ht hd hu
    rw [hB] at z
    exact Nat.le_trans (Nat.mul_le_mul_right _ (Nat.le_add_right _ _)) z
end
theorem drop_split (cs : List Value) (o s : Nat) : cs.drop o = (cs.drop o).take s ++ cs.drop (o + s) := by rw [← List.drop_drop, List.take_append_drop]
theorem fitStr_mono (n m : Nat) (x : ByteArray) (h : n ≤ m) (k : FitStr n x) : FitStr m x := Nat.le_trans k h
set_option maxRecDepth 100000 in
theorem open_T26 {H : Type} {enc : TypeId × Value → H} {W : World} {base b0 : Nat} {spare : Nat → Bool} {held : Bool} {v : Value} {d : DataW H} {p : List MemPlace} (hv : Value.okWide Tryz.prog W .any b0 26 v) (h : DataW.Trod enc Tryz.prog W base spare held 26 v d p) :
    ∃ (a0 : Int) (a1 : Int) (b1 : Int) (a2 : Int) (b2 : Int) (a3 : Int) (a4 : ByteArray) (a5 : ByteArray) (A6 : Option Addr) (c6 : Nat) (l6 : List Int) (y0 y1 y2 y3 y4 y5 y6 : DataW H × List MemPlace), v = .agg #[.int .i64 a0, .int .i64 a1, .int .i64 b1, .int .i64 a2, .int .i64 b2, .int .i64 a3, .string a4, .string a5, .slice A6 l6.length c6] ∧ d = .agg [y0.1, y1.1, y2.1, y3.1, y4.1, y5.1, y6.1] ∧ Kd.C (Kd.int .u8) W A6 l6.length l6 ∧ l6.length ≤ c6 ∧ (y6.1 = .nil ∧ l6.length = 0 ∨ ∃ el sp, y6.1 = .slice el sp ∧ el.length = l6.length) ∧ a4.size ≤ maxLen ∧ a5.size ≤ maxLen := by
  obtain ⟨cs, rfl, hsz⟩ := okWide_struct Tryz.underlying26 hv
  obtain ⟨fuel, hf0⟩ := h
  obtain ⟨ys, n, rfl, hx, hlen, hyl, hf⟩ := DataW.trod_struct Tryz.underlying26 hf0
  have hlen' : (Value.agg cs).cells.toList.length = 9 := hlen.trans (by kernel_rfl)
  have hyl' : ys.length = 7 := hyl
  have e24 : Tryz.prog.cellsOf 24 = 1 := by kernel_rfl
  have e23 : Tryz.prog.cellsOf 23 = 2 := by kernel_rfl
  have e3 : Tryz.prog.cellsOf 3 = 1 := by kernel_rfl
  have e9 : Tryz.prog.cellsOf 9 = 1 := by kernel_rfl
  match ys, hyl' with
  | [y0, y1, y2, y3, y4, y5, y6], _ =>
    obtain ⟨hd, -⟩ := Prod.mk.inj hx
    have g0 : DataW.trod enc Tryz.prog W base spare held n 3 (((Value.agg cs).cells.toList.drop 0).take (Tryz.prog.cellsOf 3)) = some y0 := hf 0 _ rfl
    rw [e3] at g0
    obtain ⟨a0, hk0, -, -⟩ := DataW.trod_int Tryz.underlying3 g0
    have g1 : DataW.trod enc Tryz.prog W base spare held n 23 (((Value.agg cs).cells.toList.drop 1).take (Tryz.prog.cellsOf 23)) = some y1 := hf 1 _ rfl
    rw [e23] at g1
    obtain ⟨zs1, n1, -, -, -, hz1, hg1⟩ := DataW.trod_struct Tryz.underlying23 g1
    have hz1' : zs1.length = 2 := hz1
    obtain ⟨p1, q1, rfl⟩ : ∃ p q, zs1 = [p, q] := by rcases zs1 with _ | ⟨p, _ | ⟨q, _ | ⟨r, t⟩⟩⟩ <;> simp at hz1' ; exact ⟨p, q, rfl⟩
    have u1 : DataW.trod enc Tryz.prog W base spare held n1 3 (((((Value.agg cs).cells.toList.drop 1).take 2).drop 0).take (Tryz.prog.cellsOf 3)) = some p1 := hg1 0 _ rfl
    have w1 : DataW.trod enc Tryz.prog W base spare held n1 3 (((((Value.agg cs).cells.toList.drop 1).take 2).drop 1).take (Tryz.prog.cellsOf 3)) = some q1 := hg1 1 _ rfl
    rw [e3] at u1 w1
    obtain ⟨a1, hk1, -, -⟩ := DataW.trod_int Tryz.underlying3 u1
    obtain ⟨b1, hm1, -, -⟩ := DataW.trod_int Tryz.underlying3 w1
    have g2 : DataW.trod enc Tryz.prog W base spare held n 23 (((Value.agg cs).cells.toList.drop 3).take (Tryz.prog.cellsOf 23)) = some y2 := hf 2 _ rfl
    rw [e23] at g2
    obtain ⟨zs2, n2, -, -, -, hz2, hg2⟩ := DataW.trod_struct Tryz.underlying23 g2
    have hz2' : zs2.length = 2 := hz2
    obtain ⟨p2, q2, rfl⟩ : ∃ p q, zs2 = [p, q] := by rcases zs2 with _ | ⟨p, _ | ⟨q, _ | ⟨r, t⟩⟩⟩ <;> simp at hz2' ; exact ⟨p, q, rfl⟩
    have u2 : DataW.trod enc Tryz.prog W base spare held n2 3 (((((Value.agg cs).cells.toList.drop 3).take 2).drop 0).take (Tryz.prog.cellsOf 3)) = some p2 := hg2 0 _ rfl
    have w2 : DataW.trod enc Tryz.prog W base spare held n2 3 (((((Value.agg cs).cells.toList.drop 3).take 2).drop 1).take (Tryz.prog.cellsOf 3)) = some q2 := hg2 1 _ rfl
    rw [e3] at u2 w2
    obtain ⟨a2, hk2, -, -⟩ := DataW.trod_int Tryz.underlying3 u2
    obtain ⟨b2, hm2, -, -⟩ := DataW.trod_int Tryz.underlying3 w2
    have g3 : DataW.trod enc Tryz.prog W base spare held n 3 (((Value.agg cs).cells.toList.drop 5).take (Tryz.prog.cellsOf 3)) = some y3 := hf 3 _ rfl
    rw [e3] at g3
    obtain ⟨a3, hk3, -, -⟩ := DataW.trod_int Tryz.underlying3 g3
    have g4 : DataW.trod enc Tryz.prog W base spare held n 9 (((Value.agg cs).cells.toList.drop 6).take (Tryz.prog.cellsOf 9)) = some y4 := hf 4 _ rfl
    rw [e9] at g4
    obtain ⟨a4, hk4, -, hm4⟩ := DataW.trod_string Tryz.underlying9 g4
    have g5 : DataW.trod enc Tryz.prog W base spare held n 9 (((Value.agg cs).cells.toList.drop 7).take (Tryz.prog.cellsOf 9)) = some y5 := hf 5 _ rfl
    rw [e9] at g5
    obtain ⟨a5, hk5, -, hm5⟩ := DataW.trod_string Tryz.underlying9 g5
    have g6 : DataW.trod enc Tryz.prog W base spare held n 24 (((Value.agg cs).cells.toList.drop 8).take (Tryz.prog.cellsOf 24)) = some y6 := hf 6 _ rfl
    rw [e24] at g6
    obtain ⟨A6, n_6, c6, l6, hk6, hnc6, hn6, hC6, -, hsh6⟩ := opn_row (fun _ _ _ _ h => h) (opn_int (k := .u8) Tryz.underlying5) Tryz.underlying24 (by kernel_rfl) g6
    subst hn6
    have hcs : cs = #[.int .i64 a0, .int .i64 a1, .int .i64 b1, .int .i64 a2, .int .i64 b2, .int .i64 a3, .string a4, .string a5, .slice A6 l6.length c6] := by
      apply Array.ext'
      have hcl : (Value.agg cs).cells.toList = cs.toList := by simp [Value.cells]
      rw [hcl] at hlen' hk0 hk1 hm1 hk2 hm2 hk3 hk4 hk5 hk6
      revert hlen' hk0 hk1 hm1 hk2 hm2 hk3 hk4 hk5 hk6
      generalize cs.toList = zs
      intro hlen' hk0 hk1 hm1 hk2 hm2 hk3 hk4 hk5 hk6
      obtain ⟨z0, z1, z2, z3, z4, z5, z6, z7, z8, rfl⟩ : ∃ z0 z1 z2 z3 z4 z5 z6 z7 z8, zs = [z0, z1, z2, z3, z4, z5, z6, z7, z8] := by
        match zs, hlen' with
        | [z0, z1, z2, z3, z4, z5, z6, z7, z8], _ => exact ⟨_, _, _, _, _, _, _, _, _, rfl⟩
      simp only [List.drop_zero, List.drop_succ_cons, List.take_succ_cons, List.take_zero, List.cons.injEq, and_true] at hk0 hk1 hm1 hk2 hm2 hk3 hk4 hk5 hk6
      rw [hk0, hk1, hm1, hk2, hm2, hk3, hk4, hk5, hk6]
    subst hcs
    exact ⟨a0, a1, b1, a2, b2, a3, a4, a5, A6, c6, l6, y0, y1, y2, y3, y4, y5, y6, rfl, hd, hC6, hnc6, hsh6, hm4, hm5⟩
set_option maxRecDepth 100000 in
theorem open_T29 {H : Type} {enc : TypeId × Value → H} {W : World} {base b0 : Nat} {spare : Nat → Bool} {held : Bool} {v : Value} {d : DataW H} {p : List MemPlace} (hv : Value.okWide Tryz.prog W .any b0 29 v) (h : DataW.Trod enc Tryz.prog W base spare held 29 v d p) :
    ∃ (A0 : Option Addr) (c0 : Nat) (l0 : List Int) (a1 : Int) (A2 : Option Addr) (c2 : Nat) (l2 : List Int) (y0 y1 y2 : DataW H × List MemPlace), v = .agg #[.slice A0 l0.length c0, .int .i64 a1, .slice A2 l2.length c2] ∧ d = .agg [y0.1, y1.1, y2.1] ∧ Kd.C (Kd.int .i64) W A0 l0.length l0 ∧ l0.length ≤ c0 ∧ (y0.1 = .nil ∧ l0.length = 0 ∨ ∃ el sp, y0.1 = .slice el sp ∧ el.length = l0.length) ∧ Kd.C (Kd.int .u8) W A2 l2.length l2 ∧ l2.length ≤ c2 ∧ (y2.1 = .nil ∧ l2.length = 0 ∨ ∃ el sp, y2.1 = .slice el sp ∧ el.length = l2.length) := by
  obtain ⟨cs, rfl, hsz⟩ := okWide_struct Tryz.underlying29 hv
  obtain ⟨fuel, hf0⟩ := h
  obtain ⟨ys, n, rfl, hx, hlen, hyl, hf⟩ := DataW.trod_struct Tryz.underlying29 hf0
  have hlen' : (Value.agg cs).cells.toList.length = 3 := hlen.trans (by kernel_rfl)
  have hyl' : ys.length = 3 := hyl
  have e27 : Tryz.prog.cellsOf 27 = 1 := by kernel_rfl
  have e24 : Tryz.prog.cellsOf 24 = 1 := by kernel_rfl
  have e3 : Tryz.prog.cellsOf 3 = 1 := by kernel_rfl
  match ys, hyl' with
  | [y0, y1, y2], _ =>
    obtain ⟨hd, -⟩ := Prod.mk.inj hx
    have g0 : DataW.trod enc Tryz.prog W base spare held n 27 (((Value.agg cs).cells.toList.drop 0).take (Tryz.prog.cellsOf 27)) = some y0 := hf 0 _ rfl
    rw [e27] at g0
    obtain ⟨A0, n_0, c0, l0, hk0, hnc0, hn0, hC0, -, hsh0⟩ := opn_row (fun _ _ _ _ h => h) (opn_int (k := .i64) Tryz.underlying3) Tryz.underlying27 (by kernel_rfl) g0
    subst hn0
    have g1 : DataW.trod enc Tryz.prog W base spare held n 3 (((Value.agg cs).cells.toList.drop 1).take (Tryz.prog.cellsOf 3)) = some y1 := hf 1 _ rfl
    rw [e3] at g1
    obtain ⟨a1, hk1, -, -⟩ := DataW.trod_int Tryz.underlying3 g1
    have g2 : DataW.trod enc Tryz.prog W base spare held n 24 (((Value.agg cs).cells.toList.drop 2).take (Tryz.prog.cellsOf 24)) = some y2 := hf 2 _ rfl
    rw [e24] at g2
    obtain ⟨A2, n_2, c2, l2, hk2, hnc2, hn2, hC2, -, hsh2⟩ := opn_row (fun _ _ _ _ h => h) (opn_int (k := .u8) Tryz.underlying5) Tryz.underlying24 (by kernel_rfl) g2
    subst hn2
    have hcs : cs = #[.slice A0 l0.length c0, .int .i64 a1, .slice A2 l2.length c2] := by
      apply Array.ext'
      have hcl : (Value.agg cs).cells.toList = cs.toList := by simp [Value.cells]
      rw [hcl] at hlen' hk0 hk1 hk2
      revert hlen' hk0 hk1 hk2
      generalize cs.toList = zs
      intro hlen' hk0 hk1 hk2
      obtain ⟨z0, z1, z2, rfl⟩ : ∃ z0 z1 z2, zs = [z0, z1, z2] := by
        match zs, hlen' with
        | [z0, z1, z2], _ => exact ⟨_, _, _, rfl⟩
      simp only [List.drop_zero, List.drop_succ_cons, List.take_succ_cons, List.take_zero, List.cons.injEq, and_true] at hk0 hk1 hk2
      rw [hk0, hk1, hk2]
    subst hcs
    exact ⟨A0, c0, l0, a1, A2, c2, l2, y0, y1, y2, rfl, hd, hC0, hnc0, hsh0, hC2, hnc2, hsh2⟩
end
open Go.ChangeShapes Go.WideShapes Go.ChangeAt Go.RowKit
open Go.ChangeMaps (open_string shut_string)
set_option linter.unusedVariables false
set_option linter.unusedSimpArgs false
theorem own : ownKnob Tryz.prog.godebug = none := by kernel_rfl
theorem laidOut : laidOutB Tryz.prog = true := by kernel_rfl
set_option maxRecDepth 100000 in
theorem contract (H : Type) (enc : TypeId × Value → H) (W : World) (base : Nat) (args : Array Value) (ds gs : List (DataW H)) (before : List MemPlace)
    (hval0 : ∀ (j : Nat) t v, Tryz.f3.params[j]? = some t → args[j]? = some v → Value.okWide Tryz.prog W .any base t v)
    (hW : DataW.Whole enc Tryz.prog Tryz.f3.params.toList Rows.replicaNilSpec.vars false W args.toList ds gs before)
    (hsz0 : (DataW.weightsEach Tryz.prog (Tryz.f3.params.toList ++ Rows.replicaNilSpec.plain.varTypes Tryz.prog) (ds ++ gs)).all (· ≤ reachBytes) = true)
    (hL : laidMetH Tryz.prog Rows.replicaNilRow.laid W) (hOpen : W.ShapedOpen Tryz.prog) :
    Calls Tryz.prog 3 args W fun e W' => ∃ v, e = .returned v ∧ Rows.replicaNilSpec.post enc Tryz.prog Tryz.f3 false true false false W args v W' := by
  have hsz : (DataW.weightsEach Tryz.prog (Tryz.f3.params.toList ++ Rows.replicaNilSpec.plain.varTypes Tryz.prog) (ds ++ gs)).all (· ≤ reachBytes) = true := hsz0
  have hval : ∀ (j : Nat) t v, Tryz.f3.params[j]? = some t → args[j]? = some v → Value.okWide Tryz.prog W .any base t v := hval0
  have hW' := hW
  obtain ⟨p, q, hA0, hV, rfl, hfz, hnd⟩ := hW
  have hA : DataW.TrodAll enc Tryz.prog W 0 (fun _ => true) true Tryz.f3.params.toList args.toList ds p := hA0
  rw [Tryz.params3] at hA hval hsz
  obtain ⟨v0, vs0, d0, ds0, p0, q0, hargs, rfl, rfl, h0, r0⟩ := trodAll_cons hA
  obtain ⟨v1, vs1, d1, ds1, p1, q1, rfl, rfl, rfl, h1, r1⟩ := trodAll_cons r0
  obtain ⟨rfl, rfl, rfl⟩ := trodAll_nil r1
  obtain rfl : args = #[v0, v1] := by cases args; simp_all
  obtain ⟨rfl, rfl⟩ := trodVars_none hV
  have k0 := h0
  have lt0 : ∀ x ∈ p0, x.block < W.heap.size := by obtain ⟨m, hm⟩ := k0; exact DataW.trod_lt m _ _ _ hm
  obtain ⟨a0_0, a0_1, a0_2, a0_3, a0_4, a0_5, a0_6, a0_7, A0_8, c0_8, l0_8, y0_0, y0_1, y0_2, y0_3, y0_4, y0_5, y0_6, rfl, rfl, hr0_8, hc0_8, hsh0_8, hm0_6, hm0_7⟩ := open_T26 (hval 0 26 v0 rfl rfl) h0
  have k1 := h1
  have lt1 : ∀ x ∈ p1, x.block < W.heap.size := by obtain ⟨m, hm⟩ := k1; exact DataW.trod_lt m _ _ _ hm
  obtain ⟨A1_0, c1_0, l1_0, a1_1, A1_2, c1_2, l1_2, y1_0, y1_1, y1_2, rfl, rfl, hr1_0, hc1_0, hsh1_0, hr1_2, hc1_2, hsh1_2⟩ := open_T29 (hval 1 29 v1 rfl rfl) h1
  clear hA0 hval0 hsz0
  refine (QReplicaNil.topiarylaw21_ReplicaNil.calls 0 a0_0 a0_1 a0_2 a0_3 a0_4 a0_5 a0_6 a0_7 A0_8 c0_8 l0_8.length A1_0 c1_0 l1_0.length a1_1 A1_2 c1_2 l1_2.length W).mono fun e W' ⟨he, bel⟩ => ?_
  subst he
  exact ⟨_, rfl, _, _, _, [], _, [], hW', trodAll_mk1 (shut_bool Tryz.underlying4 _), (trodAll_cons_mk (Below.trod laidOut (by kernel_rfl) (of_decide_eq_true (by kernel_rfl)) k0 bel lt0) (trodAll_cons_mk (Below.trod laidOut (by kernel_rfl) (of_decide_eq_true (by kernel_rfl)) k1 bel lt1) trodAll_mk0)), rfl, bel.frame _, fun h => by cases h⟩
/-- A world for the witness: the tables as their initialisers lay them. -/
noncomputable def laidWorld (os : Os) : World := { World.holding Tryz.prog os ⟨#[], #[], []⟩ with heap := (((((((World.holding Tryz.prog os ⟨#[], #[], []⟩).heap).modify 2 fun | .cells _ t fr => .cells #[.int .u8 0, .int .u8 1, .int .u8 28, .int .u8 2, .int .u8 29, .int .u8 14, .int .u8 24, .int .u8 3, .int .u8 30, .int .u8 22, .int .u8 20, .int .u8 15, .int .u8 25, .int .u8 17, .int .u8 4, .int .u8 8, .int .u8 31, .int .u8 27, .int .u8 13, .int .u8 23, .int .u8 21, .int .u8 19, .int .u8 16, .int .u8 7, .int .u8 26, .int .u8 12, .int .u8 18, .int .u8 6, .int .u8 11, .int .u8 5, .int .u8 10, .int .u8 9] t fr | o => o)).modify 3 fun | .cells _ t fr => .cells #[.int .u8 0, .int .u8 1, .int .u8 56, .int .u8 2, .int .u8 57, .int .u8 49, .int .u8 28, .int .u8 3, .int .u8 61, .int .u8 58, .int .u8 42, .int .u8 50, .int .u8 38, .int .u8 29, .int .u8 17, .int .u8 4, .int .u8 62, .int .u8 47, .int .u8 59, .int .u8 36, .int .u8 45, .int .u8 43, .int .u8 51, .int .u8 22, .int .u8 53, .int .u8 39, .int .u8 33, .int .u8 30, .int .u8 24, .int .u8 18, .int .u8 12, .int .u8 5, .int .u8 63, .int .u8 55, .int .u8 48, .int .u8 27, .int .u8 60, .int .u8 41, .int .u8 37, .int .u8 16, .int .u8 46, .int .u8 35, .int .u8 44, .int .u8 21, .int .u8 52, .int .u8 32, .int .u8 23, .int .u8 11, .int .u8 54, .int .u8 26, .int .u8 40, .int .u8 15, .int .u8 34, .int .u8 20, .int .u8 31, .int .u8 10, .int .u8 25, .int .u8 14, .int .u8 19, .int .u8 9, .int .u8 13, .int .u8 8, .int .u8 7, .int .u8 6] t fr | o => o)).modify 1 fun | .cells _ t fr => .cells #[.int .u64 1, .int .u64 10, .int .u64 100, .int .u64 1000, .int .u64 10000, .int .u64 100000, .int .u64 1000000, .int .u64 10000000, .int .u64 100000000, .int .u64 1000000000, .int .u64 10000000000, .int .u64 100000000000, .int .u64 1000000000000, .int .u64 10000000000000, .int .u64 100000000000000, .int .u64 1000000000000000, .int .u64 10000000000000000, .int .u64 100000000000000000, .int .u64 1000000000000000000, .int .u64 10000000000000000000] t fr | o => o) }
set_option maxRecDepth 100000 in
theorem laid_met (os : Os) : laidMet Tryz.prog Rows.replicaNilRow.laid (((laidWorld os).forCall (fun _ _ => 0) ⟨#[], #[.agg #[.int .i64 0, .int .i64 0, .int .i64 0, .int .i64 0, .int .i64 0, .int .i64 0, .string ⟨#[]⟩, .string ⟨#[]⟩, .slice none 0 0], .agg #[.slice none 0 0, .int .i64 0, .slice none 0 0]], []⟩).memory) :=
  laidMet_of_run' 8 (by kernel_rfl) (by kernel_rfl)
theorem reads (os : Os) {H : Type} (enc : TypeId × Value → H) : ∃ places, DataW.whole enc Tryz.prog (((laidWorld os).forCall (fun _ _ => 0) ⟨#[], #[.agg #[.int .i64 0, .int .i64 0, .int .i64 0, .int .i64 0, .int .i64 0, .int .i64 0, .string ⟨#[]⟩, .string ⟨#[]⟩, .slice none 0 0], .agg #[.slice none 0 0, .int .i64 0, .slice none 0 0]], []⟩).memory) Tryz.f3.params.toList Rows.replicaNilSpec.vars false #[(.agg #[.int .i64 0, .int .i64 0, .int .i64 0, .int .i64 0, .int .i64 0, .int .i64 0, .string ⟨#[]⟩, .string ⟨#[]⟩, .slice none 0 0] : Value), (.agg #[.slice none 0 0, .int .i64 0, .slice none 0 0] : Value)].toList 8 = some ([.agg [.lit (.int .i64 0), .agg [.lit (.int .i64 0), .lit (.int .i64 0)], .agg [.lit (.int .i64 0), .lit (.int .i64 0)], .lit (.int .i64 0), .lit (.string []), .lit (.string []), .nil], .agg [.nil, .lit (.int .i64 0), .nil]], [], places) :=
  ⟨[], by kernel_rfl⟩
set_option maxRecDepth 100000 in
theorem lifted (os : Os) (started : os.Started) (H : Type) (enc : TypeId × Value → H) (F : Stop.Interp) :
    ReturnsInHanded {} Tryz.checked os 3 .any ((OpenSpec.ofChange Rows.replicaNilSpec).preRow enc Tryz.prog Tryz.f3 Rows.replicaNilRow.domain false Rows.replicaNilRow.laid) (((OpenSpec.ofChange Rows.replicaNilSpec).at F).post enc Tryz.prog Tryz.f3 false true false false) := by
  obtain ⟨places, hx⟩ := reads os enc
  refine returnsInHanded_of_row (C := Tryz.checked) (s := OpenSpec.ofChange Rows.replicaNilSpec) own started (by kernel_rfl) Tryz.func3
    (witness_row_at (enc := enc) (C := Tryz.checked) false (laidWorld os) #[.agg #[.int .i64 0, .int .i64 0, .int .i64 0, .int .i64 0, .int .i64 0, .int .i64 0, .string ⟨#[]⟩, .string ⟨#[]⟩, .slice none 0 0], .agg #[.slice none 0 0, .int .i64 0, .slice none 0 0]] rfl (by kernel_rfl) (by kernel_rfl) (by kernel_rfl)
      (OpenSpec.preRow_of_cond 8 hx (by kernel_rfl) (fun k hk => by cases hk) (by kernel_rfl) (laid_met os))) ?_
  intro W base args ds gs before hval hW _ hcond hsz hL hOpen _
  exact contract H enc W base args ds gs before hval hW hsz hL hOpen
theorem and_mk {a b : Bool} (ha : a = true) (hb : b = true) : (a && b) = true := by rw [ha, hb]; rfl
theorem fact0 : (Rows.replicaNilRow.wf (OpenSpec.ofChange (OpenSpec.ofChange Rows.replicaNilSpec).bare)) = true := by kernel_rfl
theorem fact1 : (laidOutB Tryz.pinned.checked.prog) = true := laidOut
theorem fact2 : (mapsRowed Tryz.pinned.checked.prog) = true := by kernel_rfl
theorem fact3 : (Tryz.f3.params.all (Tryz.pinned.checked.prog.readableRec ·)) = true := by kernel_rfl
theorem fact4 : (namedTie Tryz.pinned.checked.prog Rows.replicaNilRow.named (OpenSpec.ofChange Rows.replicaNilSpec).bare.vars) = true := by kernel_rfl
theorem fact5 : (Rows.replicaNilRow.stops == []) = true := by kernel_rfl
theorem fact6 : (Tryz.pinned.checked.prog.stops == []) = true := by kernel_rfl
theorem fact7 : (Rows.replicaNilRow.knobs == []) = true := by kernel_rfl
theorem fact8 : (Tryz.pinned.checked.prog.stopKnobs == []) = true := by kernel_rfl
theorem fact9 : (Rows.replicaNilRow.inPlace == Tryz.pinned.checked.prog.inPlace 3) = true := by kernel_rfl
theorem fact10 : (Rows.replicaNilRow.unfollowed == Tryz.pinned.checked.prog.unfollowed 3) = true := by kernel_rfl
theorem fact11 : (Rows.replicaNilRow.recurses == Tryz.pinned.checked.prog.recurses 3) = true := by kernel_rfl
theorem fact12 : (Rows.replicaNilRow.named == Tryz.pinned.checked.prog.varsNamed 3) = true := by kernel_rfl
theorem fact13 : (Rows.replicaNilRow.maps == (Tryz.f3.params.toList ++ (OpenSpec.ofChange Rows.replicaNilSpec).bare.plain.varTypes Tryz.pinned.checked.prog).any (Tryz.pinned.checked.prog.mapsRec ·)) = true := by kernel_rfl
theorem fact14 : (Rows.replicaNilRow.ifaces == (Tryz.f3.params.toList ++ (OpenSpec.ofChange Rows.replicaNilSpec).bare.plain.varTypes Tryz.pinned.checked.prog).any (Tryz.pinned.checked.prog.ifacesRec ·)) = true := by kernel_rfl
theorem fact15 : (Rows.replicaNilRow.mapsOut == Tryz.pinned.checked.prog.mapsAmong Tryz.f3.resultTypes.toList) = true := by kernel_rfl
theorem fact16 : (Rows.replicaNilRow.loops == (Tryz.f3.params.toList ++ (OpenSpec.ofChange Rows.replicaNilSpec).bare.plain.varTypes Tryz.pinned.checked.prog).any (Tryz.pinned.checked.prog.loopsFrom ·)) = true := by kernel_rfl
theorem fact17 : (Rows.replicaNilRow.wideKeys == (Tryz.f3.params.toList ++ (OpenSpec.ofChange Rows.replicaNilSpec).bare.plain.varTypes Tryz.pinned.checked.prog ++ Tryz.f3.resultTypes.toList).any (Tryz.pinned.checked.prog.wideKeysFrom ·)) = true := by kernel_rfl
theorem fact18 : (OpenSpec.ofChange Rows.replicaNilSpec).bare.vars.all (Tryz.pinned.checked.prog.varReadable ·) = true := by kernel_rfl
theorem fact19 : (Tryz.f3.resultTypes.all (fun t => Tryz.pinned.checked.prog.readableRec t && decide (t < Tryz.pinned.checked.prog.types.size))) = true := by kernel_rfl
theorem fact20 : (Rows.replicaNilRow.ifacesOut == Tryz.f3.resultTypes.toList.any (Tryz.pinned.checked.prog.ifacesRec ·)) = true := by kernel_rfl
theorem fact21 : (Rows.replicaNilRow.loopsOut == Tryz.f3.resultTypes.toList.any (Tryz.pinned.checked.prog.loopsFrom ·)) = true := by kernel_rfl
theorem fact22 : (Rows.replicaNilRow.plainKeys == Tryz.pinned.checked.prog.plainKeys) = true := by kernel_rfl
theorem fact23 : (Rows.replicaNilRow.shortTexts.isNone) = true := by kernel_rfl
theorem fact24 : (Tryz.pinned.checked.prog.stopsHeard) = true := by kernel_rfl
theorem fact25 : (Tryz.pinned.checked.prog.mayEnter) = true := by kernel_rfl
theorem fact26 : (Rows.replicaNilRow.lifted == Tryz.pinned.checked.prog.liftsFinal) = true := by kernel_rfl
theorem fact27 : (Tryz.pinned.checked.prog.make == some Rows.replicaNilRow.make) = true := by kernel_rfl
theorem fact28 : (Rows.replicaNilRow.kinds == (if Rows.replicaNilRow.domain.isEmpty then [] else Tryz.f3.params.toList.map fun t => match Tryz.pinned.checked.prog.underlying t with | some (.int k) => some k | _ => none)) = true := by kernel_rfl
theorem fact29 : (Rows.replicaNilRow.pinned == Rows.replicaNilRow.pinnedBy) = true := by kernel_rfl
theorem fact30 : (Rows.replicaNilRow.veiled == (Tryz.f3.params.toList ++ (OpenSpec.ofChange Rows.replicaNilSpec).bare.plain.varTypes Tryz.pinned.checked.prog ++ Tryz.f3.resultTypes.toList).any (Tryz.pinned.checked.prog.veiledRec ·)) = true := by kernel_rfl
theorem fact31 : (Rows.replicaNilRow.veiledFits Tryz.pinned.checked.prog Tryz.f3.params.toList (Tryz.f3.params.toList ++ (OpenSpec.ofChange Rows.replicaNilSpec).bare.plain.varTypes Tryz.pinned.checked.prog ++ Tryz.f3.resultTypes.toList)) = true := by kernel_rfl
set_option maxRecDepth 100000 in
theorem facts : joinedFacts Tryz.pinned.checked.prog 3 Tryz.f3 (OpenSpec.ofChange Rows.replicaNilSpec).bare Rows.replicaNilRow = true := by
  unfold joinedFacts
  exact and_mk (and_mk (and_mk (and_mk (and_mk (and_mk (and_mk (and_mk (and_mk (and_mk (and_mk (and_mk (and_mk (and_mk (and_mk (and_mk (and_mk (and_mk (and_mk (and_mk (and_mk (and_mk (and_mk (and_mk (and_mk (and_mk (and_mk (and_mk (and_mk (and_mk (and_mk (fact0) fact1) fact2) fact3) fact4) fact5) fact6) fact7) fact8) fact9) fact10) fact11) fact12) fact13) fact14) fact15) fact16) fact17) fact18) fact19) fact20) fact21) fact22) fact23) fact24) fact25) fact26) fact27) fact28) fact29) fact30) fact31
theorem said : Rows.ReplicaNilSaid :=
  OpenClaim.holds_of_cond 3 Tryz.f3 rfl rfl rfl rfl rfl rfl rfl ⟨rfl, rfl, rfl, rfl, rfl⟩ rfl rfl rfl rfl rfl (by kernel_rfl) Tryz.func3 facts
    (of_decide_eq_true (by kernel_rfl)) (by unfold Func.isWrapper; first | (rw [if_pos (by decide +kernel)]; kernel_rfl) | (rw [if_neg (by decide +kernel)]; exact ⟨rfl, rfl⟩))
    (fun os started H enc _ F => by rw [OpenClaim.pre_eq_preRow]; exact lifted os started H enc F)
theorem plain (f : FuncId) (fn : Func) (hf : Tryz.pinned.checked.prog.funcNamed "topiary/topiarylaw21.ReplicaNil" = some f) (hfn : Tryz.pinned.checked.prog.funcs[f]? = some fn) :
    false = Tryz.pinned.checked.prog.looks [] ∧ ∀ (j : Nat) t, fn.params[j]? = some t → Tryz.pinned.checked.prog.wantsStandIn t = false := by
  obtain rfl : f = 3 := Option.some.inj ((show Tryz.prog.funcNamed "topiary/topiarylaw21.ReplicaNil" = some 3 by kernel_rfl).symm.trans hf) |>.symm
  obtain rfl : fn = Tryz.f3 := (Option.some.inj (Tryz.func3.symm.trans hfn)).symm
  refine ⟨by kernel_rfl, fun j t ht => ?_⟩
  rw [Tryz.params3] at ht
  have hm : t = 26 ∨ t = 29 := by simpa using Array.mem_of_getElem? ht
  rcases hm with rfl | rfl
  · exact (show Tryz.prog.wantsStandIn 26 = false by kernel_rfl)
  · exact (show Tryz.prog.wantsStandIn 29 = false by kernel_rfl)
theorem proved : Rows.ReplicaNilCardSaid :=
  Claim7.holds_tied_plain_at .later [] _ _ _ _ said (fun _ h => by cases h) (by kernel_rfl) (fun _ h => by cases h) replicaNil_row_tie rfl ⟨rfl, rfl⟩ (by kernel_rfl) rfl plain (by kernel_rfl)
end Go.Proofs.YtfbeonkbemdaaaaGreatDoor.replicaNil
namespace Go.Proofs.YtfbeonkbemdaaaaGreatDoor
/-- The card, under a short name, for the claim. -/
theorem replicaNil_holds : Rows.ReplicaNilCardSaid := replicaNil.proved
end Go.Proofs.YtfbeonkbemdaaaaGreatDoor
