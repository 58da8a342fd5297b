/- what one clock has and the other one lacks, one after the other: the program's iterator and the reference's list go alike, for all lists of numbers and every place where the first go stops. No condition. -/
import Derived.Test.YtbnhjkcpecilbaaQClockGoesx4
namespace Go.Proofs.Ytbnhjkcpecilbaa.Pure
open Go.RowKit Go.Proofs.Ytbnhjkcpecilbaa.QClockGoes Go.Proofs.YtbnhjkcpecilbaaW.PrintWords Go.Proofs.YtbnhjkcpecilbaaW.PrintLast
set_option linter.unusedVariables false
set_option linter.unusedSimpArgs false
theorem wrap_in {n : Int} (h0 : -9223372036854775808 ≤ n) (h1 : n ≤ 9223372036854775807) : wrap64 n = n := by unfold wrap64; omega
theorem step_nat (i : Nat) : (i : Int) + 1 = ((i + 1 : Nat) : Int) := by omega
theorem rd_get (xs : List Int) (i : Nat) (h : i < xs.length) : rd xs (i : Int) = xs[i] := by simp [rd, List.getD_eq_getElem?_getD, h]
theorem mx_max (a b : Int) : mx a b = max a b := by unfold mx; omega

/-- the first number that is out of its range -/
def chkL : List Int → Int
  | [] => 0
  | x :: r => if x < 0 then 1 else if x > 1099511627776 then 1 else chkL r
def chk (xs : List Int) : Int := if (xs.length : Int) > 64 then 3 else chkL xs
theorem chkL_ok : ∀ (xs : List Int), chkL xs = 0 → ∀ x ∈ xs, 0 ≤ x ∧ x ≤ 1099511627776
  | [], _, x, hx => by simp at hx
  | y :: r, h, x, hx => by
    simp only [chkL] at h
    split at h
    · omega
    · split at h
      · omega
      · rcases List.mem_cons.1 hx with rfl | hx
        · omega
        · exact chkL_ok r h x hx
theorem chk_ok {xs : List Int} (h : chk xs = 0) : xs.length ≤ 64 ∧ ∀ x ∈ xs, 0 ≤ x ∧ x ≤ 1099511627776 := by
  unfold chk at h
  split at h
  · omega
  · exact ⟨by omega, chkL_ok xs h⟩

theorem pCheck_l0 (xs : List Int) (hn : xs.length ≤ 17592186043904) : ∀ (d i k : Nat), i + d = xs.length → d < k →
    clock_Check.l0 k xs (xs.length : Int) (i : Int) = some (chkL (xs.drop i)) := by
  intro d
  induction d with
  | zero =>
    intro i k h hk
    obtain ⟨k, rfl⟩ : ∃ m, k = m + 1 := ⟨k - 1, by omega⟩
    simp only [clock_Check.l0]
    rw [if_neg (by omega), List.drop_eq_nil_of_le (by omega)]; rfl
  | succ d ih =>
    intro i k h hk
    obtain ⟨k, rfl⟩ : ∃ m, k = m + 1 := ⟨k - 1, by omega⟩
    have hi : i < xs.length := by omega
    simp only [clock_Check.l0]
    rw [if_pos (by omega), if_pos (by omega), if_pos (by omega), rd_get xs i hi, List.drop_eq_getElem_cons hi]
    simp only [chkL]
    split
    · rfl
    · split
      · rfl
      · rw [wrap_in (by omega) (by omega), step_nat]; exact ih (i + 1) k (by omega) (by omega)
theorem pCheck (xs : List Int) (hn : xs.length ≤ 17592186043904) : Ev (fun k => clock_Check.f k xs) (chk xs) := by
  refine ⟨xs.length + 1, fun k hk => ?_⟩
  simp only [clock_Check.f, chk]
  split
  · rfl
  · have := pCheck_l0 xs hn xs.length 0 k (by omega) (by omega); simpa using this

theorem pAt (xs : List Int) (i : Int) : clock_At.f xs i = some (if 0 ≤ i ∧ i < xs.length then rd xs i else 0) := by
  simp only [clock_At.f]
  by_cases h0 : i < 0
  · rw [if_pos h0, if_neg (by omega)]
  · rw [if_neg h0]
    by_cases h1 : i ≥ (xs.length : Int)
    · rw [if_pos h1, if_neg (by omega)]
    · rw [if_neg h1, if_pos (by omega), if_pos (by omega), if_pos (by omega)]
/-- a replica's number -/
def at_ (xs : List Int) (i : Nat) : Int := xs.getD i 0
theorem pAt_nat (xs : List Int) (i : Nat) : clock_At.f xs (i : Int) = some (at_ xs i) := by
  rw [pAt]; congr 1
  by_cases h : i < xs.length
  · rw [if_pos (by omega)]; simp [rd, at_]
  · rw [if_neg (by omega)]; simp [at_, List.getD_eq_getElem?_getD, h]

theorem rSame_l0 (xs ys : List Int) (hl : xs.length = ys.length) (hn : xs.length ≤ 17592186044416) : ∀ (d i k : Nat), i + d = xs.length → d < k →
    topiaryref02_Same.l0 k xs ys (i : Int) = some (decide (xs.drop i = ys.drop i)) := by
  intro d
  induction d with
  | zero =>
    intro i k h hk
    obtain ⟨k, rfl⟩ : ∃ m, k = m + 1 := ⟨k - 1, by omega⟩
    simp only [topiaryref02_Same.l0]
    rw [if_neg (by omega), List.drop_eq_nil_of_le (by omega), List.drop_eq_nil_of_le (by omega)]; rfl
  | succ d ih =>
    intro i k h hk
    obtain ⟨k, rfl⟩ : ∃ m, k = m + 1 := ⟨k - 1, by omega⟩
    have hi : i < xs.length := by omega
    have hj : i < ys.length := by omega
    simp only [topiaryref02_Same.l0]
    rw [if_pos (by omega), if_pos (by omega), if_pos (by omega), rd_get xs i hi, rd_get ys i hj, List.drop_eq_getElem_cons hi, List.drop_eq_getElem_cons hj]
    by_cases e : xs[i] = ys[i]
    · rw [if_pos e, wrap_in (by omega) (by omega), step_nat, ih (i + 1) k (by omega) (by omega), e]
      exact congrArg some (by rw [decide_eq_decide]; simp only [List.cons.injEq, true_and])
    · rw [if_neg e]
      exact congrArg some (decide_eq_false (by simp only [List.cons.injEq, e, false_and, not_false_eq_true])).symm
theorem rSame (xs ys : List Int) (hn : xs.length ≤ 17592186044416) : Ev (fun k => topiaryref02_Same.f k xs ys) (decide (xs = ys)) := by
  refine ⟨xs.length + 1, fun k hk => ?_⟩
  simp only [topiaryref02_Same.f]
  split
  · rename_i e
    have := rSame_l0 xs ys (by omega) hn xs.length 0 k (by omega) (by omega); simpa using this
  · rename_i e
    have : xs ≠ ys := fun h => e (by rw [h])
    simp [this]

/-- t is the list without the noughts at its end -/
def IsTrim (t xs : List Int) : Prop := (∃ z, xs = t ++ List.replicate z 0) ∧ ∀ a r, t = r ++ [a] → a ≠ 0
theorem IsTrim.unique : ∀ {xs t u : List Int}, IsTrim t xs → IsTrim u xs → t = u := by
  have key : ∀ (xs t u : List Int), IsTrim t xs → IsTrim u xs → t.length ≤ u.length → t = u := by
    intro xs t u ⟨⟨z, h⟩, ht⟩ ⟨⟨y, g⟩, hu⟩ hl
    have e : u = t ++ List.replicate (z - y) 0 := by
      have hlen := congrArg List.length h
      have hlen' := congrArg List.length g
      simp at hlen hlen'
      have e1 : xs.take u.length = u := by rw [g]; simp
      have e2 : xs.take u.length = t ++ List.replicate (z - y) 0 := by
        rw [h, List.take_append, List.take_of_length_le hl, List.take_replicate]
        congr 2; omega
      rw [← e1, e2]
    cases hz : z - y with
    | zero => rw [hz] at e; simpa using e.symm
    | succ m =>
      rw [hz, List.replicate_succ', ← List.append_assoc] at e
      exact absurd rfl (hu 0 _ e)
  intro xs t u h g
  rcases Nat.le_total t.length u.length with hl | hl
  · exact key xs t u h g hl
  · exact (key xs u t g h hl).symm
theorem IsTrim.length_le {t xs : List Int} (h : IsTrim t xs) : t.length ≤ xs.length := by
  obtain ⟨⟨z, rfl⟩, _⟩ := h; simp
theorem IsTrim.pad {t xs : List Int} (h : IsTrim t xs) (n : Nat) : IsTrim t (xs ++ List.replicate n 0) := by
  obtain ⟨⟨z, rfl⟩, h2⟩ := h
  exact ⟨⟨z + n, by rw [List.append_assoc, List.replicate_append_replicate]⟩, h2⟩
theorem IsTrim.exists : ∀ xs : List Int, ∃ t, IsTrim t xs := by
  intro xs
  induction hn : xs.length using Nat.strongRecOn generalizing xs with
  | _ n ih =>
    rcases List.eq_nil_or_concat xs with rfl | ⟨r, a, rfl⟩
    · exact ⟨[], ⟨⟨0, rfl⟩, fun a r h => by simp at h⟩⟩
    · by_cases ha : a = 0
      · obtain ⟨t, ht⟩ := ih r.length (by simp at hn; omega) r rfl
        exact ⟨t, by have := ht.pad 1; simpa [ha] using this⟩
      · exact ⟨r ++ [a], ⟨⟨0, by simp⟩, fun b s h => by
          have := List.append_inj' h rfl
          have h2 := this.2; injection h2 with h2 _; rw [← h2]; exact ha⟩⟩
noncomputable def trim (xs : List Int) : List Int := (IsTrim.exists xs).choose
theorem trim_is (xs : List Int) : IsTrim (trim xs) xs := (IsTrim.exists xs).choose_spec
theorem trim_eq {t xs : List Int} (h : IsTrim t xs) : t = trim xs := h.unique (trim_is xs)

theorem pTrim_l0 (xs : List Int) (hn : xs.length ≤ 17592186044415) : ∀ (n k : Nat), n ≤ xs.length → n < k → (∀ j, n ≤ j → j < xs.length → at_ xs j = 0) →
    clock_Trim.l0 k xs (n : Int) = some (trim xs) := by
  intro n
  induction n with
  | zero =>
    intro k _ hk hz
    obtain ⟨k, rfl⟩ : ∃ m, k = m + 1 := ⟨k - 1, by omega⟩
    simp only [clock_Trim.l0]
    rw [if_neg (by omega)]
    simp only [Option.bind_some]
    rw [if_pos (by omega), if_pos (by omega), if_pos (by simp)]
    refine congrArg some (trim_eq ?_)
    show IsTrim [] xs
    refine ⟨⟨xs.length, ?_⟩, fun a r h => by simp at h⟩
    refine List.ext_getElem (by simp) fun j h1 h2 => ?_
    have := hz j (by omega) h1
    simpa [at_, List.getD_eq_getElem?_getD, h1] using this
  | succ n ih =>
    intro k hl hk hz
    obtain ⟨k, rfl⟩ : ∃ m, k = m + 1 := ⟨k - 1, by omega⟩
    have hi : n < xs.length := by omega
    have hw : wrap64 (((n + 1 : Nat) : Int) - 1) = (n : Int) := by rw [wrap_in (by omega) (by omega)]; omega
    simp only [clock_Trim.l0, hw]
    rw [if_pos (by omega), if_pos (by omega), if_pos (by omega), rd_get xs n hi]
    by_cases e : xs[n] = 0
    · rw [if_pos e]
      refine ih k (by omega) (by omega) fun j h1 h2 => ?_
      rcases Nat.lt_or_ge n j with h | h
      · exact hz j (by omega) h2
      · have : j = n := by omega
        subst this; simpa [at_, List.getD_eq_getElem?_getD, h2] using e
    · rw [if_neg e]
      simp only [Option.bind_some]
      rw [if_pos (by omega), if_pos (by omega), if_pos (by simp; omega)]
      congr 1
      refine trim_eq ⟨⟨xs.length - (n + 1), ?_⟩, fun a r h => ?_⟩
      · have e1 : xs.drop (n + 1) = List.replicate (xs.length - (n + 1)) 0 := by
          refine List.ext_getElem (by simp) fun j h1 h2 => ?_
          simp at h1
          have := hz (n + 1 + j) (by omega) (by omega)
          have h3 : n + 1 + j < xs.length := by omega
          simpa [at_, List.getD_eq_getElem?_getD, h3] using this
        rw [← e1, Int.toNat_natCast]; simp
      · simp only [Int.toNat_natCast, List.nil_append] at h
        rw [List.take_succ_eq_append_getElem hi] at h
        have := (List.append_inj' h rfl).2
        injection this with h2 _; rw [← h2]; exact e
theorem pTrim (xs : List Int) (hn : xs.length ≤ 17592186044415) : Ev (fun k => clock_Trim.f k xs) (trim xs) :=
  ⟨xs.length + 1, fun k hk => pTrim_l0 xs hn xs.length k (Nat.le_refl _) (by omega) (fun j h1 h2 => by omega)⟩

theorem pBoth (a b : List Int) (ha : a.length ≤ 17592186043904) (hb : b.length ≤ 17592186043904) : Ev (fun k => clock_both.f k a b) (if chk a = 0 then chk b else chk a) := by
  unfold clock_both.f
  refine Ev.bind (pCheck a ha) ?_
  split
  · exact Ev.bind (pCheck b hb) (Ev.now _)
  · exact Ev.now _
/-- of each replica the greater number, n of them -/
def maxN (a b : List Int) (n : Nat) : List Int := (List.range n).map fun i => max (at_ a i) (at_ b i)
theorem maxN_length (a b : List Int) (n : Nat) : (maxN a b n).length = n := by simp [maxN]
theorem maxN_succ (a b : List Int) (n : Nat) : maxN a b (n + 1) = maxN a b n ++ [max (at_ a n) (at_ b n)] := by simp [maxN, List.range_succ]
theorem maxN_zero (a b : List Int) (n : Nat) : maxN a b n ++ List.replicate 0 0 = maxN a b n := by simp
theorem pMerge_l0 (a b : List Int) (n : Nat) (hn : n ≤ 17592186044415) : ∀ (d i k : Nat), i + d = n → d + n + 1 < k →
    clock_Merge.l0 k a b (maxN a b i ++ List.replicate (n - i) 0) (n : Int) (i : Int) = some (trim (maxN a b n), 0) := by
  intro d
  induction d with
  | zero =>
    intro i k h hk
    obtain ⟨k, rfl⟩ : ∃ m, k = m + 1 := ⟨k - 1, by omega⟩
    obtain rfl : i = n := by omega
    simp only [clock_Merge.l0]
    rw [if_neg (by omega)]
    have ht := pTrim_l0 (maxN a b i) (by rw [maxN_length]; omega) (maxN a b i).length k (Nat.le_refl _) (by rw [maxN_length]; omega) (fun j h1 h2 => by omega)
    simp only [clock_Trim.f, Nat.sub_self, List.replicate_zero, List.append_nil]
    rw [ht]; rfl
  | succ d ih =>
    intro i k h hk
    obtain ⟨k, rfl⟩ : ∃ m, k = m + 1 := ⟨k - 1, by omega⟩
    simp only [clock_Merge.l0]
    rw [if_pos (by omega), pAt_nat, pAt_nat]
    simp only [Option.bind_some]
    rw [if_pos (by omega), if_pos (by simp [maxN_length]; omega), wrap_in (by omega) (by omega), step_nat, mx_max]
    have e : (maxN a b i ++ List.replicate (n - i) 0).set (i : Int).toNat (max (at_ a i) (at_ b i)) = maxN a b (i + 1) ++ List.replicate (n - (i + 1)) 0 := by
      rw [Int.toNat_natCast, List.set_append_right _ _ (by rw [maxN_length]; exact Nat.le_refl _), maxN_length, Nat.sub_self, show n - i = (n - (i + 1)) + 1 from by omega, List.replicate_succ, List.set_cons_zero, maxN_succ]
      simp
    rw [e]
    exact ih (i + 1) k (by omega) (by omega)
/-- what Merge tells -/
noncomputable def mrg (a b : List Int) : List Int × Int := if chk a = 0 then (if chk b = 0 then (trim (maxN a b (max a.length b.length)), 0) else ([], chk b)) else ([], chk a)
theorem pMerge (a b : List Int) (ha : a.length ≤ 17592186043904) (hb : b.length ≤ 17592186043904) : Ev (fun k => clock_Merge.f k a b) (mrg a b) := by
  have hm : mx (a.length : Int) (b.length : Int) = ((max a.length b.length : Nat) : Int) := by rw [mx_max]; omega
  unfold clock_Merge.f
  refine Ev.bind (pBoth a b ha hb) ?_
  unfold mrg
  by_cases h1 : chk a = 0
  · by_cases h2 : chk b = 0
    · simp only [if_pos h1, if_pos h2, if_true, hm]
      refine Ev.congr (f := fun k => clock_Merge.l0 k a b (maxN a b 0 ++ List.replicate (max a.length b.length - 0) 0) ((max a.length b.length : Nat) : Int) ((0 : Nat) : Int)) (fun k => ?_) ?_
      · rw [if_pos (by omega), if_pos (by omega)]
        simp [maxN]
      · exact ⟨2 * max a.length b.length + 2, fun k hk => pMerge_l0 a b (max a.length b.length) (by omega) (max a.length b.length) 0 k (by omega) (by omega)⟩
    · simp only [if_pos h1, if_neg h2]
      exact Ev.now _
  · simp only [if_neg h1]
    exact Ev.now _
theorem awake : Ev (fun k => topiarylaw02_awake.f k) true := Ev.of topiarylaw02_awake.mono (k := 20) (by decide +kernel)

theorem rCheck_l0 (xs : List Int) (hn : xs.length ≤ 17592186043904) : ∀ (d i k : Nat), i + d = xs.length → d < k →
    topiaryref02_Check.l0 k xs (i : Int) = some (chkL (xs.drop i)) := by
  intro d
  induction d with
  | zero =>
    intro i k h hk
    obtain ⟨k, rfl⟩ : ∃ m, k = m + 1 := ⟨k - 1, by omega⟩
    simp only [topiaryref02_Check.l0]
    rw [if_neg (by omega), List.drop_eq_nil_of_le (by omega)]; rfl
  | succ d ih =>
    intro i k h hk
    obtain ⟨k, rfl⟩ : ∃ m, k = m + 1 := ⟨k - 1, by omega⟩
    have hi : i < xs.length := by omega
    simp only [topiaryref02_Check.l0]
    rw [if_pos (by omega), if_pos (by omega), rd_get xs i hi, List.drop_eq_getElem_cons hi]
    simp only [chkL]
    split
    · rfl
    · split
      · rfl
      · rw [wrap_in (by omega) (by omega), step_nat]; exact ih (i + 1) k (by omega) (by omega)
theorem rCheck (xs : List Int) (hn : xs.length ≤ 17592186043904) : Ev (fun k => topiaryref02_Check.f k xs) (chk xs) := by
  refine ⟨xs.length + 1, fun k hk => ?_⟩
  simp only [topiaryref02_Check.f, chk]
  split
  · rfl
  · have := rCheck_l0 xs hn xs.length 0 k (by omega) (by omega); simpa using this

theorem rAt (xs : List Int) (i : Int) : topiaryref02_At.f xs i = some (if 0 ≤ i ∧ i < xs.length then rd xs i else 0) := by
  simp only [topiaryref02_At.f]
  by_cases h0 : i ≥ 0
  · rw [if_pos h0]
    by_cases h1 : i < (xs.length : Int)
    · rw [if_pos h1, if_pos (by omega), if_pos (by omega)]
    · rw [if_neg h1, if_neg (by omega)]
  · rw [if_neg h0, if_neg (by omega)]
theorem rAt_nat (xs : List Int) (i : Nat) : topiaryref02_At.f xs (i : Int) = some (at_ xs i) := by
  rw [rAt, ← pAt, pAt_nat]

theorem gat_over (xs : List Int) (j : Nat) (h : xs.length ≤ j) : at_ xs j = 0 := by simp [at_, List.getD_eq_getElem?_getD, h]
theorem gat_range {xs : List Int} (h : chk xs = 0) (j : Nat) : 0 ≤ at_ xs j ∧ at_ xs j ≤ 1099511627776 := by
  rcases Nat.lt_or_ge j xs.length with g | g
  · exact (chk_ok h).2 _ (by simp [at_, List.getD_eq_getElem?_getD, g])
  · rw [gat_over xs j g]; omega
/-- what a has and b lacks, of the first n replicas -/
def gapsN (a b : List Int) : Nat → List S41
  | 0 => []
  | n + 1 => gapsN a b n ++ (if at_ b n < at_ a n then [⟨(n : Int), at_ b n + 1, at_ a n⟩] else [])
theorem gapsN_le (a b : List Int) : ∀ n, (gapsN a b n).length ≤ n
  | 0 => by simp [gapsN]
  | n + 1 => by have := gapsN_le a b n; simp only [gapsN, List.length_append]; split <;> simp <;> omega
theorem rd_at (xs : List Int) (i : Nat) : rd xs (i : Int) = at_ xs i := by simp [rd, at_]
theorem pEach_l0 (a b : List Int) (ka : chk a = 0) (kb : chk b = 0) : ∀ (d i k : Nat), i + d = a.length → d < k →
    clock_Each.l0 k a b (a.length : Int) (i : Int) (gapsN a b i) = some (gapsN a b a.length) := by
  intro d
  have hl := (chk_ok ka).1
  induction d with
  | zero =>
    intro i k h hk
    obtain ⟨k, rfl⟩ : ∃ m, k = m + 1 := ⟨k - 1, by omega⟩
    obtain rfl : i = a.length := by omega
    simp only [clock_Each.l0]
    rw [if_neg (by omega)]
  | succ d ih =>
    intro i k h hk
    obtain ⟨k, rfl⟩ : ∃ m, k = m + 1 := ⟨k - 1, by omega⟩
    have hb := gat_range kb i
    have hle := gapsN_le a b i
    have hs := ih (i + 1) k (by omega) (by omega)
    simp only [gapsN] at hs
    simp only [clock_Each.l0]
    rw [if_pos (by omega), if_pos (by omega), if_pos (by omega), pAt_nat, rd_at]
    simp only [Option.bind_some]
    rw [wrap_in (n := (i : Int) + 1) (by omega) (by omega), wrap_in (n := at_ b i + 1) (by omega) (by omega), step_nat, if_pos (by omega : (gapsN a b i).length < 5864062014805)]
    by_cases hc : at_ b i < at_ a i
    · rw [if_pos hc]; rw [if_pos hc] at hs; exact hs
    · rw [if_neg hc]; rw [if_neg hc, List.append_nil] at hs; exact hs
/-- what Gaps tells -/
def gapsAll (a b : List Int) : List S41 × Int := if chk a = 0 then (if chk b = 0 then (gapsN a b a.length, 0) else ([], chk b)) else ([], chk a)
theorem pEach (a b : List Int) (ha : a.length ≤ 17592186043904) (hb : b.length ≤ 17592186043904) : Ev (fun k => clock_Each.f k a b) (gapsAll a b).1 := by
  have hboth := pBoth a b ha hb
  unfold clock_Each.f
  refine Ev.bind hboth ?_
  unfold gapsAll
  by_cases h1 : chk a = 0
  · by_cases h2 : chk b = 0
    · simp only [if_pos h1, if_pos h2, if_true]
      exact ⟨a.length + 1, fun k hk => pEach_l0 a b h1 h2 a.length 0 k (by omega) (by omega)⟩
    · simp only [if_pos h1, if_neg h2]
      exact Ev.now _
  · simp only [if_neg h1]
    exact Ev.now _

theorem gTwo (a b : List Int) (ha : a.length ≤ 17592186043904) (hb : b.length ≤ 17592186043904) : Ev (fun k => topiaryref02_Two.f k a b) (if chk a = 0 then chk b else chk a) := by
  unfold topiaryref02_Two.f
  refine Ev.bind (rCheck a ha) ?_
  split
  · exact Ev.bind (rCheck b hb) (Ev.now _)
  · exact Ev.bind (rCheck a ha) (Ev.now _)
theorem rGaps_l0 (a b : List Int) (ka : chk a = 0) (kb : chk b = 0) : ∀ (d i k : Nat), i + d = a.length → d < k →
    topiaryref02_Gaps.l0 k a b (gapsN a b i) (i : Int) = some (gapsN a b a.length, 0) := by
  intro d
  have hl := (chk_ok ka).1
  induction d with
  | zero =>
    intro i k h hk
    obtain ⟨k, rfl⟩ : ∃ m, k = m + 1 := ⟨k - 1, by omega⟩
    obtain rfl : i = a.length := by omega
    simp only [topiaryref02_Gaps.l0]
    rw [if_neg (by omega)]
  | succ d ih =>
    intro i k h hk
    obtain ⟨k, rfl⟩ : ∃ m, k = m + 1 := ⟨k - 1, by omega⟩
    have hb := gat_range kb i
    have hle := gapsN_le a b i
    have hs := ih (i + 1) k (by omega) (by omega)
    simp only [gapsN] at hs
    simp only [topiaryref02_Gaps.l0]
    rw [if_pos (by omega), if_pos (by omega), rAt_nat, rd_at]
    simp only [Option.bind_some]
    rw [wrap_in (n := (i : Int) + 1) (by omega) (by omega), wrap_in (n := at_ b i + 1) (by omega) (by omega), step_nat, if_pos (by omega : (gapsN a b i).length < 5864062014805)]
    by_cases hc : at_ b i < at_ a i
    · rw [if_pos hc]; rw [if_pos hc] at hs; exact hs
    · rw [if_neg hc]; rw [if_neg hc, List.append_nil] at hs; exact hs
theorem rGaps (a b : List Int) (ha : a.length ≤ 17592186043904) (hb : b.length ≤ 17592186043904) : Ev (fun k => topiaryref02_Gaps.f k a b) (gapsAll a b) := by
  have htwo := gTwo a b ha hb
  unfold topiaryref02_Gaps.f
  refine Ev.bind htwo ?_
  unfold gapsAll
  by_cases h1 : chk a = 0
  · by_cases h2 : chk b = 0
    · simp only [if_pos h1, if_pos h2, if_true]
      exact ⟨a.length + 1, fun k hk => rGaps_l0 a b h1 h2 a.length 0 k (by omega) (by omega)⟩
    · simp only [if_pos h1, if_neg h2] at htwo ⊢
      exact Ev.bind htwo (Ev.now _)
  · simp only [if_neg h1] at htwo ⊢
    exact Ev.bind htwo (Ev.now _)

theorem gapsAll_len (a b : List Int) : (gapsAll a b).1.length ≤ 64 := by
  unfold gapsAll
  split
  · rename_i h
    split
    · have := gapsN_le a b a.length; have := (chk_ok h).1; simp only; omega
    · simp
  · simp
theorem ClockGoes : topiarylaw02_ClockGoes.Pure := by
  intro a b s a1 a2 a3 b1 b2 b3 s1
  have ha : a.length ≤ 17592186043904 := by omega
  have hb : b.length ≤ 17592186043904 := by omega
  refine Ev.rounds ?_
  unfold topiarylaw02_ClockGoes.f
  refine Ev.bind (pEach a b ha hb) (Ev.bind (rGaps a b ha hb) ?_)
  have hl : (gapsAll a b).1.length ≤ 5864062014000 := by have := gapsAll_len a b; omega
  simp only [a2, b2, hl, and_self, if_true]
  exact awake

end Go.Proofs.Ytbnhjkcpecilbaa.Pure
