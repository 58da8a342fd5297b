/- a copy of a change is the same change in new memory. -/
import Derived.Test.YtgoolgmcbnikkaaDoorQChangeCopiesx
namespace Go.Proofs.YtgoolgmcbnikkaaDoor.PureChangeCopies
open Go.RowKit Go.Proofs.YtgoolgmcbnikkaaDoor.QChangeCopies Go.Proofs.YtgoolgmcbnikkaaDoorW.PrintWords Go.Proofs.YtgoolgmcbnikkaaDoorW.PrintLast
set_option linter.unusedVariables false
set_option linter.unusedSimpArgs false
theorem wrap_in {n : Int} (h0 : -9223372036854775808 ≤ n) (h1 : n ≤ 9223372036854775807) : wrap64 n = n := by unfold wrap64; omega
theorem step_nat (i : Nat) : (i : Int) + 1 = ((i + 1 : Nat) : Int) := by omega
theorem rd_get (xs : List Int) (i : Nat) (h : i < xs.length) : rd xs (i : Int) = xs[i] := by simp [rd, List.getD_eq_getElem?_getD, h]
theorem mx_max (a b : Int) : mx a b = max a b := by unfold mx; omega

theorem rSame_l0 (xs ys : List Int) (hl : xs.length = ys.length) (hn : xs.length ≤ 17592186044416) : ∀ (d i k : Nat), i + d = xs.length → d < k →
    topiaryref02_Same.l0 k xs ys (i : Int) = some (decide (xs.drop i = ys.drop i)) := by
  intro d
  induction d with
  | zero =>
    intro i k h hk
    obtain ⟨k, rfl⟩ : ∃ m, k = m + 1 := ⟨k - 1, by omega⟩
    simp only [topiaryref02_Same.l0]
    rw [if_neg (by omega), List.drop_eq_nil_of_le (by omega), List.drop_eq_nil_of_le (by omega)]; rfl
  | succ d ih =>
    intro i k h hk
    obtain ⟨k, rfl⟩ : ∃ m, k = m + 1 := ⟨k - 1, by omega⟩
    have hi : i < xs.length := by omega
    have hj : i < ys.length := by omega
    simp only [topiaryref02_Same.l0]
    rw [if_pos (by omega), if_pos (by omega), if_pos (by omega), rd_get xs i hi, rd_get ys i hj, List.drop_eq_getElem_cons hi, List.drop_eq_getElem_cons hj]
    by_cases e : xs[i] = ys[i]
    · rw [if_pos e, wrap_in (by omega) (by omega), step_nat, ih (i + 1) k (by omega) (by omega), e]
      exact congrArg some (by rw [decide_eq_decide]; simp only [List.cons.injEq, true_and])
    · rw [if_neg e]
      exact congrArg some (decide_eq_false (by simp only [List.cons.injEq, e, false_and, not_false_eq_true])).symm
theorem rSame (xs ys : List Int) (hn : xs.length ≤ 17592186044416) : Ev (fun k => topiaryref02_Same.f k xs ys) (decide (xs = ys)) := by
  refine ⟨xs.length + 1, fun k hk => ?_⟩
  simp only [topiaryref02_Same.f]
  split
  · rename_i e
    have := rSame_l0 xs ys (by omega) hn xs.length 0 k (by omega) (by omega); simpa using this
  · rename_i e
    have : xs ≠ ys := fun h => e (by rw [h])
    simp [this]


/-! two changes that are the same, and that the program answers at all -/
theorem awake : Ev (fun k => topiarylaw05_awake.f k) true := Ev.of topiarylaw05_awake.mono (k := 40) (by decide +kernel)

theorem same5 (a b s : Int) (ds : List Int) (kd n1 n2 p1 p2 q1 q2 : Int) (nm vl : ByteArray) (hn : ds.length ≤ 17592186044416) : Ev (fun k => topiaryref05_Same.f k a b s ds kd n1 n2 p1 p2 q1 q2 nm vl a b s ds kd n1 n2 p1 p2 q1 q2 nm vl) true := by
  unfold topiaryref05_Same.f
  simp only [beq_self_eq_true, Bool.and_self, if_true]
  refine Ev.bind (rSame ds ds hn) ?_
  simp only [decide_true, if_true]
  exact Ev.now _

theorem copies_end (a b s : Int) (ds : List Int) (kd n1 n2 p1 p2 q1 q2 : Int) (nm vl : ByteArray) (hn : ds.length ≤ 17592186043904) :
    Ev (fun k => (topiaryref05_Same.f k a b s ds kd n1 n2 p1 p2 q1 q2 nm vl a b s ds kd n1 n2 p1 p2 q1 q2 nm vl).bind fun t => (if t = true then ((topiarylaw05_awake.f k).bind fun t => (some t)) else (some false))) true :=
  Ev.bind (same5 a b s ds kd n1 n2 p1 p2 q1 q2 nm vl (by omega)) (by simp only [if_true]; exact Ev.bind awake (Ev.now _))
theorem copies_l0 (a b s : Int) (ds : List Int) (kd n1 n2 p1 p2 q1 q2 : Int) (nm vl : ByteArray) (hn : ds.length ≤ 17592186043904) : ∀ (d i : Nat) (o : List Int), o.length = ds.length → i + d = ds.length →
    Ev (fun k => topiarylaw05_ChangeCopies.l0 k (i : Int) a b s ds kd n1 n2 p1 p2 q1 q2 nm vl a b s o kd n1 n2 p1 p2 q1 q2 nm vl a b s ds kd n1 n2 p1 p2 q1 q2 nm vl) true := by
  intro d
  induction d with
  | zero =>
    intro i o ho hi
    refine Ev.step (fun k => ?_) (copies_end a b s ds kd n1 n2 p1 p2 q1 q2 nm vl hn)
    simp only [topiarylaw05_ChangeCopies.l0]
    rw [if_neg (by omega)]
  | succ d ih =>
    intro i o ho hi
    refine Ev.step (fun k => ?_) (ih (i + 1) (o.set i (-7)) (by simpa using ho) (by omega))
    simp only [topiarylaw05_ChangeCopies.l0]
    rw [if_pos (by omega), if_pos (by omega), wrap_in (by omega) (by omega), Int.toNat_natCast]
    rfl
theorem law (a b s : Int) (ds : List Int) (kd n1 n2 p1 p2 q1 q2 : Int) (nm vl : ByteArray) (hn : ds.length ≤ 17592186043904) : ∃ k, topiarylaw05_ChangeCopies.f k a b s ds kd n1 n2 p1 p2 q1 q2 nm vl = some true := by
  refine Ev.rounds (g := fun k => topiarylaw05_ChangeCopies.f k a b s ds kd n1 n2 p1 p2 q1 q2 nm vl) ?_
  unfold topiarylaw05_ChangeCopies.f topiaryref05_Copy.f change_Copy.f
  simp only [Option.bind_some, List.length_nil, List.nil_append, Nat.zero_add]
  rw [if_pos (by omega)]
  simp only [Option.bind_some]
  rw [if_pos (by omega)]
  simp only [Option.bind_some]
  refine Ev.bind (same5 a b s ds kd n1 n2 p1 p2 q1 q2 nm vl (by omega)) ?_
  simp only [if_true]
  exact copies_l0 a b s ds kd n1 n2 p1 p2 q1 q2 nm vl hn ds.length 0 ds rfl (by omega)

end Go.Proofs.YtgoolgmcbnikkaaDoor.PureChangeCopies
