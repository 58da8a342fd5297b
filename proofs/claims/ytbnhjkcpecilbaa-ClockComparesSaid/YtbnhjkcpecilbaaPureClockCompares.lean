/- how two clocks stand to one another: the program and the reference tell the same, for all lists of numbers. No condition. -/
import Derived.Test.YtbnhjkcpecilbaaQClockComparesx3
namespace Go.Proofs.Ytbnhjkcpecilbaa.Pure
open Go.RowKit Go.Proofs.Ytbnhjkcpecilbaa.QClockCompares Go.Proofs.YtbnhjkcpecilbaaW.PrintWords Go.Proofs.YtbnhjkcpecilbaaW.PrintLast
open Classical in
open Classical in
open Classical in
open Classical in
open Classical in
open Classical in
set_option linter.unusedVariables false
set_option linter.unusedSimpArgs false
theorem wrap_in {n : Int} (h0 : -9223372036854775808 ≤ n) (h1 : n ≤ 9223372036854775807) : wrap64 n = n := by unfold wrap64; omega
theorem step_nat (i : Nat) : (i : Int) + 1 = ((i + 1 : Nat) : Int) := by omega
theorem rd_get (xs : List Int) (i : Nat) (h : i < xs.length) : rd xs (i : Int) = xs[i] := by simp [rd, List.getD_eq_getElem?_getD, h]
theorem mx_max (a b : Int) : mx a b = max a b := by unfold mx; omega

/-- the first number that is out of its range -/
def chkL : List Int → Int
  | [] => 0
  | x :: r => if x < 0 then 1 else if x > 1099511627776 then 1 else chkL r
def chk (xs : List Int) : Int := if (xs.length : Int) > 64 then 3 else chkL xs
theorem chkL_ok : ∀ (xs : List Int), chkL xs = 0 → ∀ x ∈ xs, 0 ≤ x ∧ x ≤ 1099511627776
  | [], _, x, hx => by simp at hx
  | y :: r, h, x, hx => by
    simp only [chkL] at h
    split at h
    · omega
    · split at h
      · omega
      · rcases List.mem_cons.1 hx with rfl | hx
        · omega
        · exact chkL_ok r h x hx
theorem chk_ok {xs : List Int} (h : chk xs = 0) : xs.length ≤ 64 ∧ ∀ x ∈ xs, 0 ≤ x ∧ x ≤ 1099511627776 := by
  unfold chk at h
  split at h
  · omega
  · exact ⟨by omega, chkL_ok xs h⟩

theorem pCheck_l0 (xs : List Int) (hn : xs.length ≤ 17592186043904) : ∀ (d i k : Nat), i + d = xs.length → d < k →
    clock_Check.l0 k xs (xs.length : Int) (i : Int) = some (chkL (xs.drop i)) := by
  intro d
  induction d with
  | zero =>
    intro i k h hk
    obtain ⟨k, rfl⟩ : ∃ m, k = m + 1 := ⟨k - 1, by omega⟩
    simp only [clock_Check.l0]
    rw [if_neg (by omega), List.drop_eq_nil_of_le (by omega)]; rfl
  | succ d ih =>
    intro i k h hk
    obtain ⟨k, rfl⟩ : ∃ m, k = m + 1 := ⟨k - 1, by omega⟩
    have hi : i < xs.length := by omega
    simp only [clock_Check.l0]
    rw [if_pos (by omega), if_pos (by omega), if_pos (by omega), rd_get xs i hi, List.drop_eq_getElem_cons hi]
    simp only [chkL]
    split
    · rfl
    · split
      · rfl
      · rw [wrap_in (by omega) (by omega), step_nat]; exact ih (i + 1) k (by omega) (by omega)
theorem pCheck (xs : List Int) (hn : xs.length ≤ 17592186043904) : Ev (fun k => clock_Check.f k xs) (chk xs) := by
  refine ⟨xs.length + 1, fun k hk => ?_⟩
  simp only [clock_Check.f, chk]
  split
  · rfl
  · have := pCheck_l0 xs hn xs.length 0 k (by omega) (by omega); simpa using this

theorem pAt (xs : List Int) (i : Int) : clock_At.f xs i = some (if 0 ≤ i ∧ i < xs.length then rd xs i else 0) := by
  simp only [clock_At.f]
  by_cases h0 : i < 0
  · rw [if_pos h0, if_neg (by omega)]
  · rw [if_neg h0]
    by_cases h1 : i ≥ (xs.length : Int)
    · rw [if_pos h1, if_neg (by omega)]
    · rw [if_neg h1, if_pos (by omega), if_pos (by omega), if_pos (by omega)]
/-- a replica's number -/
def at_ (xs : List Int) (i : Nat) : Int := xs.getD i 0
theorem pAt_nat (xs : List Int) (i : Nat) : clock_At.f xs (i : Int) = some (at_ xs i) := by
  rw [pAt]; congr 1
  by_cases h : i < xs.length
  · rw [if_pos (by omega)]; simp [rd, at_]
  · rw [if_neg (by omega)]; simp [at_, List.getD_eq_getElem?_getD, h]

theorem rSame_l0 (xs ys : List Int) (hl : xs.length = ys.length) (hn : xs.length ≤ 17592186044416) : ∀ (d i k : Nat), i + d = xs.length → d < k →
    topiaryref02_Same.l0 k xs ys (i : Int) = some (decide (xs.drop i = ys.drop i)) := by
  intro d
  induction d with
  | zero =>
    intro i k h hk
    obtain ⟨k, rfl⟩ : ∃ m, k = m + 1 := ⟨k - 1, by omega⟩
    simp only [topiaryref02_Same.l0]
    rw [if_neg (by omega), List.drop_eq_nil_of_le (by omega), List.drop_eq_nil_of_le (by omega)]; rfl
  | succ d ih =>
    intro i k h hk
    obtain ⟨k, rfl⟩ : ∃ m, k = m + 1 := ⟨k - 1, by omega⟩
    have hi : i < xs.length := by omega
    have hj : i < ys.length := by omega
    simp only [topiaryref02_Same.l0]
    rw [if_pos (by omega), if_pos (by omega), if_pos (by omega), rd_get xs i hi, rd_get ys i hj, List.drop_eq_getElem_cons hi, List.drop_eq_getElem_cons hj]
    by_cases e : xs[i] = ys[i]
    · rw [if_pos e, wrap_in (by omega) (by omega), step_nat, ih (i + 1) k (by omega) (by omega), e]
      exact congrArg some (by rw [decide_eq_decide]; simp only [List.cons.injEq, true_and])
    · rw [if_neg e]
      exact congrArg some (decide_eq_false (by simp only [List.cons.injEq, e, false_and, not_false_eq_true])).symm
theorem rSame (xs ys : List Int) (hn : xs.length ≤ 17592186044416) : Ev (fun k => topiaryref02_Same.f k xs ys) (decide (xs = ys)) := by
  refine ⟨xs.length + 1, fun k hk => ?_⟩
  simp only [topiaryref02_Same.f]
  split
  · rename_i e
    have := rSame_l0 xs ys (by omega) hn xs.length 0 k (by omega) (by omega); simpa using this
  · rename_i e
    have : xs ≠ ys := fun h => e (by rw [h])
    simp [this]

/-- t is the list without the noughts at its end -/
def IsTrim (t xs : List Int) : Prop := (∃ z, xs = t ++ List.replicate z 0) ∧ ∀ a r, t = r ++ [a] → a ≠ 0
theorem IsTrim.unique : ∀ {xs t u : List Int}, IsTrim t xs → IsTrim u xs → t = u := by
  have key : ∀ (xs t u : List Int), IsTrim t xs → IsTrim u xs → t.length ≤ u.length → t = u := by
    intro xs t u ⟨⟨z, h⟩, ht⟩ ⟨⟨y, g⟩, hu⟩ hl
    have e : u = t ++ List.replicate (z - y) 0 := by
      have hlen := congrArg List.length h
      have hlen' := congrArg List.length g
      simp at hlen hlen'
      have e1 : xs.take u.length = u := by rw [g]; simp
      have e2 : xs.take u.length = t ++ List.replicate (z - y) 0 := by
        rw [h, List.take_append, List.take_of_length_le hl, List.take_replicate]
        congr 2; omega
      rw [← e1, e2]
    cases hz : z - y with
    | zero => rw [hz] at e; simpa using e.symm
    | succ m =>
      rw [hz, List.replicate_succ', ← List.append_assoc] at e
      exact absurd rfl (hu 0 _ e)
  intro xs t u h g
  rcases Nat.le_total t.length u.length with hl | hl
  · exact key xs t u h g hl
  · exact (key xs u t g h hl).symm
theorem IsTrim.length_le {t xs : List Int} (h : IsTrim t xs) : t.length ≤ xs.length := by
  obtain ⟨⟨z, rfl⟩, _⟩ := h; simp
theorem IsTrim.pad {t xs : List Int} (h : IsTrim t xs) (n : Nat) : IsTrim t (xs ++ List.replicate n 0) := by
  obtain ⟨⟨z, rfl⟩, h2⟩ := h
  exact ⟨⟨z + n, by rw [List.append_assoc, List.replicate_append_replicate]⟩, h2⟩
theorem IsTrim.exists : ∀ xs : List Int, ∃ t, IsTrim t xs := by
  intro xs
  induction hn : xs.length using Nat.strongRecOn generalizing xs with
  | _ n ih =>
    rcases List.eq_nil_or_concat xs with rfl | ⟨r, a, rfl⟩
    · exact ⟨[], ⟨⟨0, rfl⟩, fun a r h => by simp at h⟩⟩
    · by_cases ha : a = 0
      · obtain ⟨t, ht⟩ := ih r.length (by simp at hn; omega) r rfl
        exact ⟨t, by have := ht.pad 1; simpa [ha] using this⟩
      · exact ⟨r ++ [a], ⟨⟨0, by simp⟩, fun b s h => by
          have := List.append_inj' h rfl
          have h2 := this.2; injection h2 with h2 _; rw [← h2]; exact ha⟩⟩
noncomputable def trim (xs : List Int) : List Int := (IsTrim.exists xs).choose
theorem trim_is (xs : List Int) : IsTrim (trim xs) xs := (IsTrim.exists xs).choose_spec
theorem trim_eq {t xs : List Int} (h : IsTrim t xs) : t = trim xs := h.unique (trim_is xs)

theorem pTrim_l0 (xs : List Int) (hn : xs.length ≤ 17592186044415) : ∀ (n k : Nat), n ≤ xs.length → n < k → (∀ j, n ≤ j → j < xs.length → at_ xs j = 0) →
    clock_Trim.l0 k xs (n : Int) = some (trim xs) := by
  intro n
  induction n with
  | zero =>
    intro k _ hk hz
    obtain ⟨k, rfl⟩ : ∃ m, k = m + 1 := ⟨k - 1, by omega⟩
    simp only [clock_Trim.l0]
    rw [if_neg (by omega)]
    simp only [Option.bind_some]
    rw [if_pos (by omega), if_pos (by omega), if_pos (by simp)]
    refine congrArg some (trim_eq ?_)
    show IsTrim [] xs
    refine ⟨⟨xs.length, ?_⟩, fun a r h => by simp at h⟩
    refine List.ext_getElem (by simp) fun j h1 h2 => ?_
    have := hz j (by omega) h1
    simpa [at_, List.getD_eq_getElem?_getD, h1] using this
  | succ n ih =>
    intro k hl hk hz
    obtain ⟨k, rfl⟩ : ∃ m, k = m + 1 := ⟨k - 1, by omega⟩
    have hi : n < xs.length := by omega
    have hw : wrap64 (((n + 1 : Nat) : Int) - 1) = (n : Int) := by rw [wrap_in (by omega) (by omega)]; omega
    simp only [clock_Trim.l0, hw]
    rw [if_pos (by omega), if_pos (by omega), if_pos (by omega), rd_get xs n hi]
    by_cases e : xs[n] = 0
    · rw [if_pos e]
      refine ih k (by omega) (by omega) fun j h1 h2 => ?_
      rcases Nat.lt_or_ge n j with h | h
      · exact hz j (by omega) h2
      · have : j = n := by omega
        subst this; simpa [at_, List.getD_eq_getElem?_getD, h2] using e
    · rw [if_neg e]
      simp only [Option.bind_some]
      rw [if_pos (by omega), if_pos (by omega), if_pos (by simp; omega)]
      congr 1
      refine trim_eq ⟨⟨xs.length - (n + 1), ?_⟩, fun a r h => ?_⟩
      · have e1 : xs.drop (n + 1) = List.replicate (xs.length - (n + 1)) 0 := by
          refine List.ext_getElem (by simp) fun j h1 h2 => ?_
          simp at h1
          have := hz (n + 1 + j) (by omega) (by omega)
          have h3 : n + 1 + j < xs.length := by omega
          simpa [at_, List.getD_eq_getElem?_getD, h3] using this
        rw [← e1, Int.toNat_natCast]; simp
      · simp only [Int.toNat_natCast, List.nil_append] at h
        rw [List.take_succ_eq_append_getElem hi] at h
        have := (List.append_inj' h rfl).2
        injection this with h2 _; rw [← h2]; exact e
theorem pTrim (xs : List Int) (hn : xs.length ≤ 17592186044415) : Ev (fun k => clock_Trim.f k xs) (trim xs) :=
  ⟨xs.length + 1, fun k hk => pTrim_l0 xs hn xs.length k (Nat.le_refl _) (by omega) (fun j h1 h2 => by omega)⟩

theorem pBoth (a b : List Int) (ha : a.length ≤ 17592186043904) (hb : b.length ≤ 17592186043904) : Ev (fun k => clock_both.f k a b) (if chk a = 0 then chk b else chk a) := by
  unfold clock_both.f
  refine Ev.bind (pCheck a ha) ?_
  split
  · exact Ev.bind (pCheck b hb) (Ev.now _)
  · exact Ev.now _
/-- of each replica the greater number, n of them -/
def maxN (a b : List Int) (n : Nat) : List Int := (List.range n).map fun i => max (at_ a i) (at_ b i)
theorem maxN_length (a b : List Int) (n : Nat) : (maxN a b n).length = n := by simp [maxN]
theorem maxN_succ (a b : List Int) (n : Nat) : maxN a b (n + 1) = maxN a b n ++ [max (at_ a n) (at_ b n)] := by simp [maxN, List.range_succ]
theorem maxN_zero (a b : List Int) (n : Nat) : maxN a b n ++ List.replicate 0 0 = maxN a b n := by simp
theorem pMerge_l0 (a b : List Int) (n : Nat) (hn : n ≤ 17592186044415) : ∀ (d i k : Nat), i + d = n → d + n + 1 < k →
    clock_Merge.l0 k a b (maxN a b i ++ List.replicate (n - i) 0) (n : Int) (i : Int) = some (trim (maxN a b n), 0) := by
  intro d
  induction d with
  | zero =>
    intro i k h hk
    obtain ⟨k, rfl⟩ : ∃ m, k = m + 1 := ⟨k - 1, by omega⟩
    obtain rfl : i = n := by omega
    simp only [clock_Merge.l0]
    rw [if_neg (by omega)]
    have ht := pTrim_l0 (maxN a b i) (by rw [maxN_length]; omega) (maxN a b i).length k (Nat.le_refl _) (by rw [maxN_length]; omega) (fun j h1 h2 => by omega)
    simp only [clock_Trim.f, Nat.sub_self, List.replicate_zero, List.append_nil]
    rw [ht]; rfl
  | succ d ih =>
    intro i k h hk
    obtain ⟨k, rfl⟩ : ∃ m, k = m + 1 := ⟨k - 1, by omega⟩
    simp only [clock_Merge.l0]
    rw [if_pos (by omega), pAt_nat, pAt_nat]
    simp only [Option.bind_some]
    rw [if_pos (by omega), if_pos (by simp [maxN_length]; omega), wrap_in (by omega) (by omega), step_nat, mx_max]
    have e : (maxN a b i ++ List.replicate (n - i) 0).set (i : Int).toNat (max (at_ a i) (at_ b i)) = maxN a b (i + 1) ++ List.replicate (n - (i + 1)) 0 := by
      rw [Int.toNat_natCast, List.set_append_right _ _ (by rw [maxN_length]; exact Nat.le_refl _), maxN_length, Nat.sub_self, show n - i = (n - (i + 1)) + 1 from by omega, List.replicate_succ, List.set_cons_zero, maxN_succ]
      simp
    rw [e]
    exact ih (i + 1) k (by omega) (by omega)
/-- what Merge tells -/
noncomputable def mrg (a b : List Int) : List Int × Int := if chk a = 0 then (if chk b = 0 then (trim (maxN a b (max a.length b.length)), 0) else ([], chk b)) else ([], chk a)
theorem pMerge (a b : List Int) (ha : a.length ≤ 17592186043904) (hb : b.length ≤ 17592186043904) : Ev (fun k => clock_Merge.f k a b) (mrg a b) := by
  have hm : mx (a.length : Int) (b.length : Int) = ((max a.length b.length : Nat) : Int) := by rw [mx_max]; omega
  unfold clock_Merge.f
  refine Ev.bind (pBoth a b ha hb) ?_
  unfold mrg
  by_cases h1 : chk a = 0
  · by_cases h2 : chk b = 0
    · simp only [if_pos h1, if_pos h2, if_true, hm]
      refine Ev.congr (f := fun k => clock_Merge.l0 k a b (maxN a b 0 ++ List.replicate (max a.length b.length - 0) 0) ((max a.length b.length : Nat) : Int) ((0 : Nat) : Int)) (fun k => ?_) ?_
      · rw [if_pos (by omega), if_pos (by omega)]
        simp [maxN]
      · exact ⟨2 * max a.length b.length + 2, fun k hk => pMerge_l0 a b (max a.length b.length) (by omega) (max a.length b.length) 0 k (by omega) (by omega)⟩
    · simp only [if_pos h1, if_neg h2]
      exact Ev.now _
  · simp only [if_neg h1]
    exact Ev.now _
theorem awake : Ev (fun k => topiarylaw02_awake.f k) true := Ev.of topiarylaw02_awake.mono (k := 20) (by decide +kernel)

theorem rCheck_l0 (xs : List Int) (hn : xs.length ≤ 17592186043904) : ∀ (d i k : Nat), i + d = xs.length → d < k →
    topiaryref02_Check.l0 k xs (i : Int) = some (chkL (xs.drop i)) := by
  intro d
  induction d with
  | zero =>
    intro i k h hk
    obtain ⟨k, rfl⟩ : ∃ m, k = m + 1 := ⟨k - 1, by omega⟩
    simp only [topiaryref02_Check.l0]
    rw [if_neg (by omega), List.drop_eq_nil_of_le (by omega)]; rfl
  | succ d ih =>
    intro i k h hk
    obtain ⟨k, rfl⟩ : ∃ m, k = m + 1 := ⟨k - 1, by omega⟩
    have hi : i < xs.length := by omega
    simp only [topiaryref02_Check.l0]
    rw [if_pos (by omega), if_pos (by omega), rd_get xs i hi, List.drop_eq_getElem_cons hi]
    simp only [chkL]
    split
    · rfl
    · split
      · rfl
      · rw [wrap_in (by omega) (by omega), step_nat]; exact ih (i + 1) k (by omega) (by omega)
theorem rCheck (xs : List Int) (hn : xs.length ≤ 17592186043904) : Ev (fun k => topiaryref02_Check.f k xs) (chk xs) := by
  refine ⟨xs.length + 1, fun k hk => ?_⟩
  simp only [topiaryref02_Check.f, chk]
  split
  · rfl
  · have := rCheck_l0 xs hn xs.length 0 k (by omega) (by omega); simpa using this

theorem rAt (xs : List Int) (i : Int) : topiaryref02_At.f xs i = some (if 0 ≤ i ∧ i < xs.length then rd xs i else 0) := by
  simp only [topiaryref02_At.f]
  by_cases h0 : i ≥ 0
  · rw [if_pos h0]
    by_cases h1 : i < (xs.length : Int)
    · rw [if_pos h1, if_pos (by omega), if_pos (by omega)]
    · rw [if_neg h1, if_neg (by omega)]
  · rw [if_neg h0, if_neg (by omega)]
theorem rAt_nat (xs : List Int) (i : Nat) : topiaryref02_At.f xs (i : Int) = some (at_ xs i) := by
  rw [rAt, ← pAt, pAt_nat]

/-- no number of a is above that of b -/
def Und (a b : List Int) : Prop := ∀ j, j < a.length → at_ a j ≤ at_ b j
open Classical in
theorem rUnder_l0 (a b : List Int) (hn : a.length ≤ 17592186043904) : ∀ (d i k : Nat), i + d = a.length → d < k →
    topiaryref02_Under.l0 k a b (i : Int) = some (decide (∀ j, i ≤ j → j < a.length → at_ a j ≤ at_ b j)) := by
  intro d
  induction d with
  | zero =>
    intro i k h hk
    obtain ⟨k, rfl⟩ : ∃ m, k = m + 1 := ⟨k - 1, by omega⟩
    simp only [topiaryref02_Under.l0]
    rw [if_neg (by omega), decide_eq_true (fun j h1 h2 => by omega)]
  | succ d ih =>
    intro i k h hk
    obtain ⟨k, rfl⟩ : ∃ m, k = m + 1 := ⟨k - 1, by omega⟩
    have hi : i < a.length := by omega
    have e : rd a (i : Int) = at_ a i := by simp [rd, at_]
    simp only [topiaryref02_Under.l0]
    rw [if_pos (by omega), if_pos (by omega), rAt_nat, e]
    simp only [Option.bind_some]
    by_cases hc : at_ a i > at_ b i
    · rw [if_pos hc, decide_eq_false (fun h => by have := h i (Nat.le_refl _) hi; omega)]
    · rw [if_neg hc, wrap_in (by omega) (by omega), step_nat, ih (i + 1) k (by omega) (by omega)]
      congr 1
      rw [Bool.eq_iff_iff, decide_eq_true_iff, decide_eq_true_iff]
      refine ⟨fun h j h1 h2 => ?_, fun h j h1 h2 => h j (by omega) h2⟩
      rcases Nat.lt_or_ge i j with g | g
      · exact h j g h2
      · obtain rfl : i = j := by omega
        omega
open Classical in
theorem rUnder (a b : List Int) (hn : a.length ≤ 17592186043904) : Ev (fun k => topiaryref02_Under.f k a b) (decide (Und a b)) := by
  refine ⟨a.length + 1, fun k hk => ?_⟩
  have := rUnder_l0 a b hn a.length 0 k (by omega) (by omega)
  simp only [topiaryref02_Under.f]
  rw [show (0 : Int) = ((0 : Nat) : Int) from rfl, this]
  congr 1
  rw [Bool.eq_iff_iff, decide_eq_true_iff, decide_eq_true_iff]
  exact ⟨fun h j hj => h j (by omega) hj, fun h j _ hj => h j hj⟩
theorem at_over (xs : List Int) (j : Nat) (h : xs.length ≤ j) : at_ xs j = 0 := by simp [at_, List.getD_eq_getElem?_getD, h]
theorem at_mem {xs : List Int} {j : Nat} (h : j < xs.length) : at_ xs j ∈ xs := by simp [at_, List.getD_eq_getElem?_getD, h]
theorem at_nonneg {xs : List Int} (h : chk xs = 0) (j : Nat) : 0 ≤ at_ xs j := by
  rcases Nat.lt_or_ge j xs.length with g | g
  · exact ((chk_ok h).2 _ (at_mem g)).1
  · rw [at_over xs j g]; exact Int.le_refl _
theorem Und.all {a b : List Int} (h : Und a b) (hb : chk b = 0) (j : Nat) : at_ a j ≤ at_ b j := by
  rcases Nat.lt_or_ge j a.length with g | g
  · exact h j g
  · rw [at_over a j g]; exact at_nonneg hb j

def LtN (a b : List Int) (n : Nat) : Prop := ∃ j, j < n ∧ at_ a j < at_ b j
theorem LtN.succ {a b : List Int} {n : Nat} : LtN a b (n + 1) ↔ LtN a b n ∨ at_ a n < at_ b n := by
  refine ⟨fun ⟨j, h1, h2⟩ => ?_, fun h => ?_⟩
  · rcases Nat.lt_or_ge j n with g | g
    · exact .inl ⟨j, g, h2⟩
    · obtain rfl : j = n := by omega
      exact .inr h2
  · rcases h with ⟨j, h1, h2⟩ | h
    · exact ⟨j, by omega, h2⟩
    · exact ⟨n, by omega, h⟩
theorem LtN.mono {a b : List Int} {n m : Nat} (h : LtN a b n) (hm : n ≤ m) : LtN a b m := by
  obtain ⟨j, h1, h2⟩ := h; exact ⟨j, by omega, h2⟩
open Classical in
noncomputable def cmpN (a b : List Int) (n : Nat) : Int := if LtN a b n then (if LtN b a n then 3 else 1) else (if LtN b a n then 2 else 0)
def Inv (a b : List Int) (how : Int) (i : Nat) : Prop := (how = 0 ∧ ¬ LtN a b i ∧ ¬ LtN b a i) ∨ (how = 1 ∧ LtN a b i ∧ ¬ LtN b a i) ∨ (how = 2 ∧ ¬ LtN a b i ∧ LtN b a i)
theorem pCompare_l0 (a b : List Int) (n : Nat) (hn : n ≤ 17592186043904) : ∀ (d i k : Nat) (how : Int), i + d = n → 4 * d < k → Inv a b how i →
    clock_Compare.l0 k a b how (n : Int) (i : Int) = some (cmpN a b n, 0) := by
  intro d
  induction d with
  | zero =>
    intro i k how h hk hI
    obtain ⟨k, rfl⟩ : ∃ m, k = m + 1 := ⟨k - 1, by omega⟩
    obtain rfl : i = n := by omega
    simp only [clock_Compare.l0]
    rw [if_neg (by omega)]
    congr 2
    unfold cmpN
    rcases hI with ⟨rfl, h1, h2⟩ | ⟨rfl, h1, h2⟩ | ⟨rfl, h1, h2⟩ <;> simp [h1, h2]
  | succ d ih =>
    intro i k how h hk hI
    obtain ⟨k, rfl⟩ : ∃ m, k = m + 4 := ⟨k - 4, by omega⟩
    rw [clock_Compare.l0, if_pos (by omega), pAt_nat, pAt_nat]
    simp only [Option.bind_some, clock_Compare.j1, clock_Compare.j2, clock_Compare.j3]
    rw [wrap_in (by omega) (by omega), step_nat]
    have z10 : ((1 : Int) == 0) = false := rfl
    have z20 : ((2 : Int) == 0) = false := rfl
    have z12 : ((1 : Int) == 2) = false := rfl
    have z02 : ((0 : Int) == 2) = false := rfl
    have z22 : ((2 : Int) == 2) = true := rfl
    have z00 : ((0 : Int) == 0) = true := rfl
    have y21 : ¬ ((2 : Int) = 1) := by omega
    have y01 : ¬ ((0 : Int) = 1) := by omega
    have hs1 : LtN a b (i + 1) ↔ LtN a b i ∨ at_ a i < at_ b i := LtN.succ
    have hs2 : LtN b a (i + 1) ↔ LtN b a i ∨ at_ b i < at_ a i := LtN.succ
    have done : LtN a b (i + 1) → LtN b a (i + 1) → (some (3, 0) : Option (Int × Int)) = some (cmpN a b n, 0) := fun g1 g2 => by
      unfold cmpN; rw [if_pos (g1.mono (by omega)), if_pos (g2.mono (by omega))]
    rcases Int.lt_trichotomy (at_ a i) (at_ b i) with hc | hc | hc
    · have hc' : ¬ at_ b i < at_ a i := by omega
      rcases hI with ⟨rfl, h1, h2⟩ | ⟨rfl, h1, h2⟩ | ⟨rfl, h1, h2⟩
      · simp only [hc, hc', gt_iff_lt, z10, z20, z12, z02, z22, z00, y21, y01, if_true, if_false, Bool.false_eq_true]
        refine ih (i + 1) _ 1 ?_ ?_ (.inr (.inl ⟨rfl, hs1.2 (.inr hc), fun g => by rcases hs2.1 g with g | g; exact h2 g; exact hc' g⟩)) <;> omega
      · simp only [hc, hc', gt_iff_lt, z10, z20, z12, z02, z22, z00, y21, y01, if_true, if_false, Bool.false_eq_true]
        refine ih (i + 1) _ 1 ?_ ?_ (.inr (.inl ⟨rfl, hs1.2 (.inr hc), fun g => by rcases hs2.1 g with g | g; exact h2 g; exact hc' g⟩)) <;> omega
      · simp only [hc, hc', gt_iff_lt, z10, z20, z12, z02, z22, z00, y21, y01, if_true, if_false, Bool.false_eq_true]
        exact done (hs1.2 (.inr hc)) (hs2.2 (.inl h2))
    · have hc1 : ¬ at_ b i < at_ a i := by omega
      have hc2 : ¬ at_ a i < at_ b i := by omega
      have hI' : Inv a b how (i + 1) := by
        unfold Inv at hI ⊢
        rw [hs1, hs2]
        simpa [hc1, hc2] using hI
      simp [hc1, hc2]
      refine ih (i + 1) _ how ?_ ?_ hI' <;> omega
    · have hc' : ¬ at_ a i < at_ b i := by omega
      rcases hI with ⟨rfl, h1, h2⟩ | ⟨rfl, h1, h2⟩ | ⟨rfl, h1, h2⟩
      · simp only [hc, hc', gt_iff_lt, z10, z20, z12, z02, z22, z00, y21, y01, if_true, if_false, Bool.false_eq_true]
        refine ih (i + 1) _ 2 ?_ ?_ (.inr (.inr ⟨rfl, fun g => by rcases hs1.1 g with g | g; exact h1 g; exact hc' g, hs2.2 (.inr hc)⟩)) <;> omega
      · simp only [hc, hc', gt_iff_lt, z10, z20, z12, z02, z22, z00, y21, y01, if_true, if_false, Bool.false_eq_true]
        exact done (hs1.2 (.inl h1)) (hs2.2 (.inr hc))
      · simp only [hc, hc', gt_iff_lt, z10, z20, z12, z02, z22, z00, y21, y01, if_true, if_false, Bool.false_eq_true]
        refine ih (i + 1) _ 2 ?_ ?_ (.inr (.inr ⟨rfl, fun g => by rcases hs1.1 g with g | g; exact h1 g; exact hc' g, hs2.2 (.inr hc)⟩)) <;> omega
theorem LtN_und {a b : List Int} (ha : chk a = 0) (n : Nat) (h : b.length ≤ n) : LtN a b n ↔ ¬ Und b a := by
  refine ⟨fun ⟨j, h1, h2⟩ g => ?_, fun g => ?_⟩
  · have := g.all ha j; omega
  · refine Classical.byContradiction fun hn => g fun j hj => ?_
    rcases Int.lt_or_le (at_ a j) (at_ b j) with hc | hc
    · exact absurd ⟨j, by omega, hc⟩ hn
    · exact hc
/-- what Compare tells -/
noncomputable def cmp (a b : List Int) : Int × Int := if chk a = 0 then (if chk b = 0 then (cmpN a b (max a.length b.length), 0) else (0, chk b)) else (0, chk a)
theorem pCompare (a b : List Int) (ha : a.length ≤ 17592186043904) (hb : b.length ≤ 17592186043904) : Ev (fun k => clock_Compare.f k a b) (cmp a b) := by
  have hm : mx (a.length : Int) (b.length : Int) = ((max a.length b.length : Nat) : Int) := by rw [mx_max]; omega
  unfold clock_Compare.f
  refine Ev.bind (pBoth a b ha hb) ?_
  unfold cmp
  by_cases h1 : chk a = 0
  · by_cases h2 : chk b = 0
    · simp only [if_pos h1, if_pos h2, if_true, hm]
      exact ⟨4 * max a.length b.length + 1, fun k hk => pCompare_l0 a b (max a.length b.length) (by omega) (max a.length b.length) 0 k 0 (by omega) (by omega) (.inl ⟨rfl, fun ⟨j, h, _⟩ => by omega, fun ⟨j, h, _⟩ => by omega⟩)⟩
    · simp only [if_pos h1, if_neg h2]
      exact Ev.now _
  · simp only [if_neg h1]
    exact Ev.now _
theorem rTwo (a b : List Int) (ha : a.length ≤ 17592186043904) (hb : b.length ≤ 17592186043904) : Ev (fun k => topiaryref02_Two.f k a b) (if chk a = 0 then chk b else chk a) := by
  unfold topiaryref02_Two.f
  refine Ev.bind (rCheck a ha) ?_
  split
  · exact Ev.bind (rCheck b hb) (Ev.now _)
  · exact Ev.bind (rCheck a ha) (Ev.now _)
theorem rCompare_j0 (a b : List Int) (x : Bool) (ha : a.length ≤ 17592186043904) (hb : b.length ≤ 17592186043904) (h1 : chk a = 0) (h2 : chk b = 0)
    (hx : x = true ↔ (Und a b ∧ Und b a)) : Ev (fun k => topiaryref02_Compare.j0 k a b x) (cmpN a b (max a.length b.length), 0) := by
  have g1 := LtN_und h1 (b := b) (max a.length b.length) (by omega)
  have g2 := LtN_und h2 (b := a) (max a.length b.length) (by omega)
  refine Ev.step (f := fun k => if x = true then some (0, 0) else (topiaryref02_Under.f k a b).bind fun t => if t = true then some (1, 0) else (topiaryref02_Under.f k b a).bind fun t => if t = true then some (2, 0) else some (3, 0)) (fun k => by rw [topiaryref02_Compare.j0]) ?_
  by_cases c1 : Und a b
  · by_cases c2 : Und b a
    · have e : cmpN a b (max a.length b.length) = 0 := by unfold cmpN; rw [if_neg (by rw [g1]; simp [c2]), if_neg (by rw [g2]; simp [c1])]
      rw [e]
      simp only [hx.2 ⟨c1, c2⟩, if_true]
      exact Ev.now _
    · have e : cmpN a b (max a.length b.length) = 1 := by unfold cmpN; rw [if_pos (g1.2 c2), if_neg (by rw [g2]; simp [c1])]
      rw [e]
      have hf : ¬ (x = true) := fun h => c2 (hx.1 h).2
      simp only [if_neg hf]
      refine Ev.bind (rUnder a b ha) ?_
      simp only [c1, decide_true, if_true]
      exact Ev.now _
  · have hf : ¬ (x = true) := fun h => c1 (hx.1 h).1
    simp only [if_neg hf]
    refine Ev.bind (rUnder a b ha) ?_
    simp only [c1, decide_false, Bool.false_eq_true, if_false]
    refine Ev.bind (rUnder b a hb) ?_
    by_cases c2 : Und b a
    · have e : cmpN a b (max a.length b.length) = 2 := by unfold cmpN; rw [if_neg (by rw [g1]; simp [c2]), if_pos (g2.2 c1)]
      rw [e]
      simp only [c2, decide_true, if_true]
      exact Ev.now _
    · have e : cmpN a b (max a.length b.length) = 3 := by unfold cmpN; rw [if_pos (g1.2 c2), if_pos (g2.2 c1)]
      rw [e]
      simp only [c2, decide_false, Bool.false_eq_true, if_false]
      exact Ev.now _
theorem rCompare (a b : List Int) (ha : a.length ≤ 17592186043904) (hb : b.length ≤ 17592186043904) : Ev (fun k => topiaryref02_Compare.f k a b) (cmp a b) := by
  unfold topiaryref02_Compare.f
  refine Ev.bind (rTwo a b ha hb) ?_
  unfold cmp
  by_cases h1 : chk a = 0
  · by_cases h2 : chk b = 0
    · simp only [if_pos h1, if_pos h2, if_true]
      refine Ev.bind (rUnder a b ha) ?_
      by_cases c1 : Und a b
      · simp only [c1, decide_true, if_true]
        refine Ev.bind (rUnder b a hb) (rCompare_j0 a b _ ha hb h1 h2 ?_)
        simp [c1]
      · simp only [c1, decide_false]
        exact rCompare_j0 a b _ ha hb h1 h2 (by simp [c1])
    · simp only [if_pos h1, if_neg h2]
      have := rTwo a b ha hb
      simp only [if_pos h1] at this
      exact Ev.bind this (Ev.now _)
  · simp only [if_neg h1]
    have := rTwo a b ha hb
    simp only [if_neg h1] at this
    exact Ev.bind this (Ev.now _)

theorem ClockCompares : topiarylaw02_ClockCompares.Pure := by
  intro a b a1 a2 a3 b1 b2 b3
  have ha : a.length ≤ 17592186043904 := by omega
  have hb : b.length ≤ 17592186043904 := by omega
  refine Ev.rounds ?_
  unfold topiarylaw02_ClockCompares.f
  refine Ev.bind (pCompare a b ha hb) (Ev.bind (rCompare a b ha hb) ?_)
  simp only [if_true]
  exact Ev.bind awake (Ev.now _)

end Go.Proofs.Ytbnhjkcpecilbaa.Pure
