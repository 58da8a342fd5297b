/- which changes are the same, which one is ahead, and which stamps one names: the program and the reference tell the same, for all changes. -/
import Derived.Test.YtgoolgmcbnikkaaGreatDoorQChangeSamesx
namespace Go.Proofs.YtgoolgmcbnikkaaGreatDoor.PureChangeSames
open Go.RowKit Go.Proofs.YtgoolgmcbnikkaaGreatDoor.QChangeSames Go.Proofs.YtgoolgmcbnikkaaGreatDoorW.PrintWords Go.Proofs.YtgoolgmcbnikkaaGreatDoorW.PrintLast
set_option linter.unusedVariables false
set_option linter.unusedSimpArgs false
theorem wrap_in {n : Int} (h0 : -9223372036854775808 ≤ n) (h1 : n ≤ 9223372036854775807) : wrap64 n = n := by unfold wrap64; omega
theorem step_nat (i : Nat) : (i : Int) + 1 = ((i + 1 : Nat) : Int) := by omega
theorem rd_get (xs : List Int) (i : Nat) (h : i < xs.length) : rd xs (i : Int) = xs[i] := by simp [rd, List.getD_eq_getElem?_getD, h]
theorem mx_max (a b : Int) : mx a b = max a b := by unfold mx; omega

theorem rSame_l0 (xs ys : List Int) (hl : xs.length = ys.length) (hn : xs.length ≤ 17592186044416) : ∀ (d i k : Nat), i + d = xs.length → d < k →
    topiaryref02_Same.l0 k xs ys (i : Int) = some (decide (xs.drop i = ys.drop i)) := by
  intro d
  induction d with
  | zero =>
    intro i k h hk
    obtain ⟨k, rfl⟩ : ∃ m, k = m + 1 := ⟨k - 1, by omega⟩
    simp only [topiaryref02_Same.l0]
    rw [if_neg (by omega), List.drop_eq_nil_of_le (by omega), List.drop_eq_nil_of_le (by omega)]; rfl
  | succ d ih =>
    intro i k h hk
    obtain ⟨k, rfl⟩ : ∃ m, k = m + 1 := ⟨k - 1, by omega⟩
    have hi : i < xs.length := by omega
    have hj : i < ys.length := by omega
    simp only [topiaryref02_Same.l0]
    rw [if_pos (by omega), if_pos (by omega), if_pos (by omega), rd_get xs i hi, rd_get ys i hj, List.drop_eq_getElem_cons hi, List.drop_eq_getElem_cons hj]
    by_cases e : xs[i] = ys[i]
    · rw [if_pos e, wrap_in (by omega) (by omega), step_nat, ih (i + 1) k (by omega) (by omega), e]
      exact congrArg some (by rw [decide_eq_decide]; simp only [List.cons.injEq, true_and])
    · rw [if_neg e]
      exact congrArg some (decide_eq_false (by simp only [List.cons.injEq, e, false_and, not_false_eq_true])).symm
theorem rSame (xs ys : List Int) (hn : xs.length ≤ 17592186044416) : Ev (fun k => topiaryref02_Same.f k xs ys) (decide (xs = ys)) := by
  refine ⟨xs.length + 1, fun k hk => ?_⟩
  simp only [topiaryref02_Same.f]
  split
  · rename_i e
    have := rSame_l0 xs ys (by omega) hn xs.length 0 k (by omega) (by omega); simpa using this
  · rename_i e
    have : xs ≠ ys := fun h => e (by rw [h])
    simp [this]


/-- Is a stamp right, as a plain test. -/
def isR (a b : Int) : Bool := decide (1 ≤ a) && (decide (a ≤ 1099511627776) && (decide (0 ≤ b) && decide (b < 64)))
theorem right_f (a b : Int) : ident_Right.f a b = some (isR a b) := by
  unfold ident_Right.f ident_replica.f isR
  by_cases h1 : 1 ≤ a <;> by_cases h2 : a ≤ 1099511627776 <;> by_cases h3 : 0 ≤ b <;> simp [h1, h2, h3]

theorem refright_f (a b : Int) : topiaryref01_Right.f a b = some (isR a b) := by
  unfold topiaryref01_Right.f isR
  by_cases h1 : 1 ≤ a <;> by_cases h2 : a ≤ 1099511627776 <;> by_cases h3 : 0 ≤ b <;> simp [h1, h2, h3]

/-! two changes that are the same, and that the program answers at all -/
theorem awake : Ev (fun k => topiarylaw05_awake.f k) true := Ev.of topiarylaw05_awake.mono (k := 40) (by decide +kernel)

def lessB (a b c d : Int) : Bool := decide (a < c ∨ (a = c ∧ b < d))
theorem less_f (a b c d : Int) : ident_Less.f a b c d = some (lessB a b c d) := by
  unfold ident_Less.f ident_Compare.f lessB
  by_cases h1 : a = c
  · subst h1
    by_cases h2 : b = d
    · subst h2; simp
    · by_cases h3 : b < d <;> simp [h2, h3]
  · by_cases h3 : a < c <;> simp [h1, h3]

theorem rless_f (a b c d : Int) : topiaryref01_Less.f a b c d = some (lessB a b c d) := by
  unfold topiaryref01_Less.f lessB
  by_cases h1 : a < c
  · rw [if_pos h1, decide_eq_true (.inl h1)]
  · rw [if_neg h1]
    by_cases h2 : a = c
    · rw [if_pos h2]; simp [h2]
    · rw [if_neg h2]; simp [h1, h2]

theorem nbeq (a b c d : Int) : (!(a == c) || !(b == d)) = !decide (a = c ∧ b = d) := by
  by_cases h1 : a = c <;> by_cases h2 : b = d <;> simp [h1, h2]

theorem eqS (x y : S23) : ((x.f0 == y.f0) && (x.f1 == y.f1)) = decide (x = y) := by
  obtain ⟨a, b⟩ := x
  obtain ⟨c, d⟩ := y
  by_cases h1 : a = c <;> by_cases h2 : b = d <;> simp [h1, h2]
theorem neS (x y : S23) : (!(x.f0 == y.f0) || (!(x.f1 == y.f1))) = !decide (x = y) := by
  rw [← Bool.not_and, eqS]
theorem rd_S (x : List S23) (i : Nat) (h : i < x.length) : rd_T23 x (i : Int) = x[i] := by
  simp [rd_T23, List.getD_eq_getElem?_getD, h]
theorem wrapS {i n : Nat} (h : i < n) (hn : n < 8796093022208) : wrap64 ((i : Int) + 1) = ((i + 1 : Nat) : Int) := by
  unfold wrap64; omega
theorem has_l0 (l : List S23) (hl : l.length < 8796093022208) (x : S23) (d : Nat) : ∀ (k i : Nat), i ≤ l.length → l.length - i = d → d < k → topiaryref01_Has.l0 k l (i : Int) x.f0 x.f1 = some (decide (x ∈ l.drop i)) := by
  induction d with
  | zero =>
    intro k i hi hd hk
    obtain ⟨k, rfl⟩ : ∃ m, k = m + 1 := ⟨k - 1, by omega⟩
    simp only [topiaryref01_Has.l0]
    rw [if_neg (by omega), List.drop_eq_nil_of_le (by omega)]; simp
  | succ d ih =>
    intro k i hi hd hk
    obtain ⟨k, rfl⟩ : ∃ m, k = m + 1 := ⟨k - 1, by omega⟩
    have hlt : i < l.length := by omega
    simp only [topiaryref01_Has.l0]
    rw [if_pos (by omega), if_pos (by omega), rd_S l i hlt, wrapS hlt hl, ih k (i + 1) (by omega) (by omega) (by omega), eqS]
    have hd2 : l.drop i = l[i] :: l.drop (i + 1) := List.drop_eq_getElem_cons hlt
    generalize l[i] = y at hd2 ⊢
    generalize l.drop (i + 1) = r at hd2 ⊢
    rw [hd2]
    by_cases e : y = x
    · subst e; simp
    · have e' : ¬ x = y := fun h => e h.symm
      simp [e, e']
theorem has_f (l : List S23) (hl : l.length < 8796093022208) (x : S23) (k : Nat) (hk : l.length < k) : topiaryref01_Has.f k l x.f0 x.f1 = some (decide (x ∈ l)) := by
  unfold topiaryref01_Has.f
  have := has_l0 l hl x l.length k 0 (by omega) (by omega) hk
  simpa using this
theorem less_S (x y : S23) : topiaryref01_Less.f x.f0 x.f1 y.f0 y.f1 = some (decide (ltS x y)) := by
  unfold topiaryref01_Less.f ltS
  by_cases h1 : x.f0 < y.f0 <;> by_cases h2 : x.f0 = y.f0 <;> simp [h1, h2]
/-- A stamp's place among such as are not it. -/
def insS (x : S23) : List S23 → List S23
  | [] => [x]
  | y :: r => if ltS x y then x :: y :: r else y :: insS x r
theorem putS_ins (x : S23) : ∀ l, x ∉ l → putS x l = insS x l
  | [], _ => rfl
  | y :: r, h => by
    unfold putS insS
    rw [if_neg (fun e => h (by rw [e]; simp)), putS_ins x r (fun m => h (by simp [m]))]
theorem putS_mem (x : S23) : ∀ l, Rises l → x ∈ l → putS x l = l
  | [], _, h => by cases h
  | y :: r, hr, h => by
    unfold putS
    by_cases e : x = y
    · rw [if_pos e]
    · have hr' := List.pairwise_cons.1 hr
      have hm : x ∈ r := by rcases List.mem_cons.1 h with h | h; exact absurd h e; exact h
      rw [if_neg e, if_neg (fun k => ltS_irrefl x (ltS_trans k (hr'.1 x hm))), putS_mem x r hr'.2 hm]
theorem put_done (l : List S23) (x : S23) (hl : l.length < 8796093022207) (d : Nat) : ∀ (k i : Nat) (out : List S23), i ≤ l.length → l.length - i = d → d < k → out.length ≤ i + 1 →
    topiaryref01_Put.l0 k l out true (i : Int) x.f0 x.f1 = some (out ++ l.drop i) := by
  induction d with
  | zero =>
    intro k i out hi hd hk ho
    obtain ⟨k, rfl⟩ : ∃ m, k = m + 1 := ⟨k - 1, by omega⟩
    simp only [topiaryref01_Put.l0]
    rw [if_neg (by omega), List.drop_eq_nil_of_le (by omega)]; simp
  | succ d ih =>
    intro k i out hi hd hk ho
    obtain ⟨k, rfl⟩ : ∃ m, k = m + 1 := ⟨k - 1, by omega⟩
    have hlt : i < l.length := by omega
    simp only [topiaryref01_Put.l0, if_true]
    rw [if_pos (by omega), if_pos (by omega), if_pos (by omega), rd_S l i hlt, wrapS hlt (by omega), ih k (i + 1) _ (by omega) (by omega) (by omega) (by simp; omega), List.append_assoc]
    have hd2 : l.drop i = l[i] :: l.drop (i + 1) := List.drop_eq_getElem_cons hlt
    rw [hd2]
    rfl
theorem put_l0 (l : List S23) (x : S23) (hl : l.length < 8796093022207) (d : Nat) : ∀ (k i : Nat) (out : List S23), i ≤ l.length → l.length - i = d → d < k → out.length ≤ i →
    topiaryref01_Put.l0 k l out false (i : Int) x.f0 x.f1 = some (out ++ insS x (l.drop i)) := by
  induction d with
  | zero =>
    intro k i out hi hd hk ho
    obtain ⟨k, rfl⟩ : ∃ m, k = m + 1 := ⟨k - 1, by omega⟩
    simp only [topiaryref01_Put.l0, Bool.false_eq_true, if_false]
    rw [if_neg (by omega), if_pos (by omega), List.drop_eq_nil_of_le (by omega)]; rfl
  | succ d ih =>
    intro k i out hi hd hk ho
    obtain ⟨k, rfl⟩ : ∃ m, k = m + 1 := ⟨k - 1, by omega⟩
    have hlt : i < l.length := by omega
    simp only [topiaryref01_Put.l0, Bool.false_eq_true, if_false]
    rw [if_pos (by omega), if_pos (by omega), rd_S l i hlt, less_S, wrapS hlt (by omega), List.drop_eq_getElem_cons hlt]
    simp only [Option.bind_some, decide_eq_true_eq, insS]
    by_cases h : ltS x l[i]
    · rw [if_pos h, if_pos (by omega), if_pos (by simp; omega), put_done l x hl d k (i + 1) _ (by omega) (by omega) (by omega) (by simp; omega), if_pos h, List.append_assoc, List.append_assoc]
      rfl
    · rw [if_neg h, if_pos (by omega), ih k (i + 1) _ (by omega) (by omega) (by omega) (by simp; omega), if_neg h]
      simp
theorem put_f (l : List S23) (x : S23) (hr : Rises l) (hl : l.length < 8796093022207) (k : Nat) (hk : l.length < k) : topiaryref01_Put.f k l x.f0 x.f1 = some (putS x l) := by
  unfold topiaryref01_Put.f
  rw [has_f l (by omega) x k hk]
  simp only [Option.bind_some, decide_eq_true_eq]
  by_cases h : x ∈ l
  · rw [if_pos h, putS_mem x l hr h]
  · rw [if_neg h, putS_ins x l h]
    have := put_l0 l x hl l.length k 0 [] (by omega) (by omega) hk (by simp)
    simpa using this

theorem same_l0 (l : List S23) (hl : l.length < 8796093022208) (d : Nat) : ∀ (k i : Nat), i ≤ l.length → l.length - i = d → d < k → topiaryref01_Same.l0 k l l (i : Int) = some true := by
  induction d with
  | zero =>
    intro k i hi hd hk
    obtain ⟨k, rfl⟩ : ∃ m, k = m + 1 := ⟨k - 1, by omega⟩
    simp only [topiaryref01_Same.l0]
    rw [if_neg (by omega)]
  | succ d ih =>
    intro k i hi hd hk
    obtain ⟨k, rfl⟩ : ∃ m, k = m + 1 := ⟨k - 1, by omega⟩
    have hlt : i < l.length := by omega
    simp only [topiaryref01_Same.l0]
    rw [if_pos (by omega), if_pos (by omega), if_pos (by omega), neS, wrapS hlt hl, ih k (i + 1) (by omega) (by omega) (by omega)]
    simp
theorem same_f (l : List S23) (hl : l.length < 8796093022208) (k : Nat) (hk : l.length < k) : topiaryref01_Same.f k l l = some true := by
  unfold topiaryref01_Same.f
  rw [if_pos rfl]
  exact same_l0 l hl l.length k 0 (by omega) (by omega) hk

/-! the stamps that a change names -/
def nmd (a b : Int) (x : S23) : Bool := isR x.f0 x.f1 && !decide (x.f0 = a ∧ x.f1 = b)
theorem names_l0 (ys : List S23) (hy : ys.length ≤ 100) (a b s : Int) (ds : List Int) (kd n1 n2 p1 p2 q1 q2 : Int) (nm vl : ByteArray) : ∀ (d i k : Nat) (acc : List S23), i + d = ys.length → d < k → acc.length ≤ i → change_Names.l0 k acc ys (ys.length : Int) (i : Int) a b s ds kd n1 n2 p1 p2 q1 q2 nm vl = some (srtS (acc ++ (ys.drop i).filter (nmd a b)))
  | d, i, 0, acc, hi, hk, ha => by omega
  | 0, i, k + 1, acc, hi, hk, ha => by
    simp only [change_Names.l0]
    rw [if_neg (by omega), List.drop_eq_nil_of_le (by omega), List.filter_nil, List.append_nil]
    unfold ident_Sort.f
    rw [if_pos (by omega)]
    rfl
  | d + 1, i, k + 1, acc, hi, hk, ha => by
    have hlt : i < ys.length := by omega
    have hw := wrapS hlt (by omega : ys.length < 8796093022208)
    simp only [change_Names.l0]
    rw [if_pos (by omega), if_pos (by omega), if_pos (by omega), rd_S ys i hlt, right_f, hw, List.drop_eq_getElem_cons hlt, List.filter_cons]
    generalize ys[i] = x
    simp only [Option.bind_some, nbeq]
    have ih := fun acc h => names_l0 ys hy a b s ds kd n1 n2 p1 p2 q1 q2 nm vl d (i + 1) k acc (by omega) (by omega) h
    by_cases h1 : isR x.f0 x.f1 = true
    · rw [if_pos h1]
      by_cases h2 : x.f0 = a ∧ x.f1 = b
      · rw [if_neg (by simp [h2]), ih acc (by omega), if_neg (by unfold nmd; simp [h2])]
      · rw [if_pos (by simp [h2]), if_pos (by omega), ih _ (by simp; omega), if_pos (by unfold nmd; simp [h1, h2])]
        rw [List.append_assoc]
        rfl
    · rw [if_neg h1, ih acc (by omega), if_neg (by unfold nmd; simp [h1])]
def three (n1 n2 p1 p2 q1 q2 : Int) : List S23 := [⟨n1, n2⟩, ⟨p1, p2⟩, ⟨q1, q2⟩]
def namesV (a b n1 n2 p1 p2 q1 q2 : Int) : List S23 := srtS ((three n1 n2 p1 p2 q1 q2).filter (nmd a b))
theorem names_f (a b s : Int) (ds : List Int) (kd n1 n2 p1 p2 q1 q2 : Int) (nm vl : ByteArray) : Ev (fun k => change_Names.f k a b s ds kd n1 n2 p1 p2 q1 q2 nm vl) (namesV a b n1 n2 p1 p2 q1 q2) :=
  ⟨4, fun k hk => by
    have := names_l0 (three n1 n2 p1 p2 q1 q2) (by simp [three]) a b s ds kd n1 n2 p1 p2 q1 q2 nm vl 3 0 k [] (by simp [three]) (by omega) (by simp)
    rw [List.nil_append, List.drop_zero] at this
    exact this⟩
theorem names_len (a b n1 n2 p1 p2 q1 q2 : Int) : (namesV a b n1 n2 p1 p2 q1 q2).length ≤ 3 := by
  have key : ∀ (l a : List S23), (l.foldl (fun a x => putS x a) a).length ≤ a.length + l.length := by
    have one : ∀ (x : S23) (l : List S23), (putS x l).length ≤ l.length + 1 := by
      intro x l
      induction l with
      | nil => simp [putS]
      | cons y r ih =>
        unfold putS
        split
        · simp
        · split
          · simp
          · simp; omega
    intro l
    induction l with
    | nil => intro a; simp
    | cons x l ih =>
      intro a
      have h1 := ih (putS x a)
      have h2 := one x a
      simp only [List.foldl_cons, List.length_cons]
      omega
  have h1 := key ((three n1 n2 p1 p2 q1 q2).filter (nmd a b)) []
  have h2 : ((three n1 n2 p1 p2 q1 q2).filter (nmd a b)).length ≤ 3 := List.length_filter_le _ _
  unfold namesV srtS
  simp only [List.length_nil] at h1
  omega

theorem slEq_l0 (xs ys : List Int) (hl : xs.length = ys.length) (hn : xs.length ≤ 17592186044416) : ∀ (d i k : Nat), i + d = xs.length → d < k →
    slices_Equal_int_int.l0 k xs ys (xs.length : Int) (i : Int) = some (decide (xs.drop i = ys.drop i)) := by
  intro d
  induction d with
  | zero =>
    intro i k h hk
    obtain ⟨k, rfl⟩ : ∃ m, k = m + 1 := ⟨k - 1, by omega⟩
    simp only [slices_Equal_int_int.l0]
    rw [if_neg (by omega), List.drop_eq_nil_of_le (by omega), List.drop_eq_nil_of_le (by omega)]; rfl
  | succ d ih =>
    intro i k h hk
    obtain ⟨k, rfl⟩ : ∃ m, k = m + 1 := ⟨k - 1, by omega⟩
    have hi : i < xs.length := by omega
    have hj : i < ys.length := by omega
    simp only [slices_Equal_int_int.l0]
    rw [if_pos (by omega), if_pos (by omega), if_pos (by omega), if_pos (by omega), rd_get xs i hi, rd_get ys i hj, List.drop_eq_getElem_cons hi, List.drop_eq_getElem_cons hj]
    by_cases e : xs[i] = ys[i]
    · rw [if_pos e, wrap_in (by omega) (by omega), step_nat, ih (i + 1) k (by omega) (by omega), e]
      exact congrArg some (by rw [decide_eq_decide]; simp only [List.cons.injEq, true_and])
    · rw [if_neg e]
      exact congrArg some (decide_eq_false (by simp only [List.cons.injEq, e, false_and, not_false_eq_true])).symm
theorem slEq (xs ys : List Int) (hn : xs.length ≤ 17592186044416) : Ev (fun k => slices_Equal_int_int.f k xs ys) (decide (xs = ys)) := by
  refine ⟨xs.length + 1, fun k hk => ?_⟩
  simp only [slices_Equal_int_int.f]
  split
  · rename_i e
    have := slEq_l0 xs ys (by omega) hn xs.length 0 k (by omega) (by omega); simpa using this
  · rename_i e
    have : xs ≠ ys := fun h => e (by rw [h])
    simp [this]
theorem same_both (a b s : Int) (ds : List Int) (kd n1 n2 p1 p2 q1 q2 : Int) (nm vl : ByteArray) (a' b' s' : Int) (ds' : List Int) (kd' n1' n2' p1' p2' q1' q2' : Int) (nm' vl' : ByteArray) (hn : ds.length ≤ 17592186043904) : ∃ v, Ev (fun k => change_Same.f k a b s ds kd n1 n2 p1 p2 q1 q2 nm vl a' b' s' ds' kd' n1' n2' p1' p2' q1' q2' nm' vl') v ∧ Ev (fun k => topiaryref05_Same.f k a b s ds kd n1 n2 p1 p2 q1 q2 nm vl a' b' s' ds' kd' n1' n2' p1' p2' q1' q2' nm' vl') v := by
  obtain ⟨K1, h1⟩ := slEq ds ds' (by omega)
  obtain ⟨K2, h2⟩ := rSame ds ds' (by omega)
  have g1 := h1 (K1 + K2) (by omega)
  have g2 := h2 (K1 + K2) (by omega)
  have e : ∃ v, topiaryref05_Same.f (K1 + K2) a b s ds kd n1 n2 p1 p2 q1 q2 nm vl a' b' s' ds' kd' n1' n2' p1' p2' q1' q2' nm' vl' = some v := by
    unfold topiaryref05_Same.f
    simp only at g2
    rw [g2]
    simp only [Option.bind_some]
    repeat' split
    all_goals exact ⟨_, rfl⟩
  obtain ⟨v, hv⟩ := e
  refine ⟨v, Ev.of (fun k => change_Same.mono _ _ _ _ _ _ _ _ _ _ _ _ _ _ _ _ _ _ _ _ _ _ _ _ _ _ k) (k := K1 + K2) ?_, Ev.of (fun k => topiaryref05_Same.mono _ _ _ _ _ _ _ _ _ _ _ _ _ _ _ _ _ _ _ _ _ _ _ _ _ _ k) hv⟩
  rw [← hv]
  unfold change_Same.f topiaryref05_Same.f
  simp only at g1 g2
  rw [g1, g2]
theorem same_self (a b s : Int) (ds : List Int) (kd n1 n2 p1 p2 q1 q2 : Int) (nm vl : ByteArray) (hn : ds.length ≤ 17592186043904) : Ev (fun k => change_Same.f k a b s ds kd n1 n2 p1 p2 q1 q2 nm vl a b s ds kd n1 n2 p1 p2 q1 q2 nm vl) true := by
  unfold change_Same.f
  simp only [beq_self_eq_true, Bool.and_self, if_true]
  refine Ev.bind (slEq ds ds (by omega)) ?_
  simp only [decide_true, if_true]
  exact Ev.now _
theorem rnames_l0 (ys : List S23) (hy : ys.length ≤ 100) (a b s : Int) (ds : List Int) (kd n1 n2 p1 p2 q1 q2 : Int) (nm vl : ByteArray) : ∀ (d i k : Nat) (acc : List S23), i + d = ys.length → d + 200 < k → Rises acc → acc.length ≤ i → topiaryref05_Names.l0 k ys acc (i : Int) a b s ds kd n1 n2 p1 p2 q1 q2 nm vl = some (((ys.drop i).filter (nmd a b)).foldl (fun a x => putS x a) acc)
  | d, i, 0, acc, hi, hk, hr, ha => by omega
  | 0, i, k + 1, acc, hi, hk, hr, ha => by
    simp only [topiaryref05_Names.l0]
    rw [if_neg (by omega), List.drop_eq_nil_of_le (by omega), List.filter_nil, List.foldl_nil]
  | d + 1, i, k + 1, acc, hi, hk, hr, ha => by
    have hlt : i < ys.length := by omega
    have hw := wrapS hlt (by omega : ys.length < 8796093022208)
    simp only [topiaryref05_Names.l0]
    rw [if_pos (by omega), if_pos (by omega), rd_S ys i hlt, refright_f, hw, List.drop_eq_getElem_cons hlt, List.filter_cons]
    generalize ys[i] = x
    simp only [Option.bind_some, nbeq]
    have ih := fun acc hr h => rnames_l0 ys hy a b s ds kd n1 n2 p1 p2 q1 q2 nm vl d (i + 1) k acc (by omega) (by omega) hr h
    have one : ∀ (l : List S23), (putS x l).length ≤ l.length + 1 := by
      intro l
      induction l with
      | nil => simp [putS]
      | cons y r ih =>
        unfold putS
        split
        · simp
        · split
          · simp
          · simp; omega
    by_cases h1 : isR x.f0 x.f1 = true
    · rw [if_pos h1]
      by_cases h2 : x.f0 = a ∧ x.f1 = b
      · rw [if_neg (by simp [h2]), ih acc hr (by omega), if_neg (by unfold nmd; simp [h2])]
      · have h3 := one acc
        rw [if_pos (by simp [h2]), put_f acc x hr (by omega) k (by omega), if_pos (by unfold nmd; simp [h1, h2])]
        simp only [Option.bind_some, List.foldl_cons]
        exact ih _ (rises_putS x acc hr) (by omega)
    · rw [if_neg h1, ih acc hr (by omega), if_neg (by unfold nmd; simp [h1])]
theorem rnames_f (a b s : Int) (ds : List Int) (kd n1 n2 p1 p2 q1 q2 : Int) (nm vl : ByteArray) : Ev (fun k => topiaryref05_Names.f k a b s ds kd n1 n2 p1 p2 q1 q2 nm vl) (namesV a b n1 n2 p1 p2 q1 q2) :=
  ⟨300, fun k hk => by
    have := rnames_l0 (three n1 n2 p1 p2 q1 q2) (by simp [three]) a b s ds kd n1 n2 p1 p2 q1 q2 nm vl 3 0 k [] (by simp [three]) (by omega) List.Pairwise.nil (by simp)
    exact this⟩

/-! the law -/
theorem law (a b s : Int) (ds : List Int) (kd n1 n2 p1 p2 q1 q2 : Int) (nm vl : ByteArray) (a' b' s' : Int) (ds' : List Int) (kd' n1' n2' p1' p2' q1' q2' : Int) (nm' vl' : ByteArray) (hn : ds.length ≤ 17592186043904) : Ev (fun k => topiarylaw05_ChangeSames.f k a b s ds kd n1 n2 p1 p2 q1 q2 nm vl a' b' s' ds' kd' n1' n2' p1' p2' q1' q2' nm' vl') true := by
  obtain ⟨v, hv1, hv2⟩ := same_both a b s ds kd n1 n2 p1 p2 q1 q2 nm vl a' b' s' ds' kd' n1' n2' p1' p2' q1' q2' nm' vl' hn
  unfold topiarylaw05_ChangeSames.f topiaryref05_Copy.f
  refine Ev.bind hv1 ?_
  refine Ev.bind hv2 ?_
  simp only [beq_self_eq_true, if_true, Option.bind_some, List.length_nil, List.nil_append]
  rw [if_pos (by omega)]
  simp only [Option.bind_some]
  refine Ev.bind (same_self a b s ds kd n1 n2 p1 p2 q1 q2 nm vl hn) ?_
  unfold change_Less.f
  simp only [if_true, less_f, rless_f, Option.bind_some, beq_self_eq_true]
  refine Ev.bind (names_f a b s ds kd n1 n2 p1 p2 q1 q2 nm vl) ?_
  refine Ev.bind (rnames_f a b s ds kd n1 n2 p1 p2 q1 q2 nm vl) ?_
  have hl := names_len a b n1 n2 p1 p2 q1 q2
  refine Ev.bind (show Ev (fun k => topiaryref01_Same.f k (namesV a b n1 n2 p1 p2 q1 q2) (namesV a b n1 n2 p1 p2 q1 q2)) true from ⟨10, fun k hk => same_f _ (by omega) k (by omega)⟩) ?_
  simp only [if_true]
  exact Ev.bind awake (Ev.now _)

end Go.Proofs.YtgoolgmcbnikkaaGreatDoor.PureChangeSames
