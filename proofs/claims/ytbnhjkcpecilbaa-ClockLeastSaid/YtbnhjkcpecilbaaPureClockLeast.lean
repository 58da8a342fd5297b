/- the merge is the least clock that neither of both is above, and the order of clocks that are merged says nothing, for all lists of numbers. No condition. -/
import Derived.Test.YtbnhjkcpecilbaaQClockLeastx2
namespace Go.Proofs.Ytbnhjkcpecilbaa.Pure
open Go.RowKit Go.Proofs.Ytbnhjkcpecilbaa.QClockLeast Go.Proofs.YtbnhjkcpecilbaaW.PrintWords Go.Proofs.YtbnhjkcpecilbaaW.PrintLast
open Classical in
open Classical in
open Classical in
open Classical in
set_option linter.unusedVariables false
set_option linter.unusedSimpArgs false
theorem wrap_in {n : Int} (h0 : -9223372036854775808 ≤ n) (h1 : n ≤ 9223372036854775807) : wrap64 n = n := by unfold wrap64; omega
theorem step_nat (i : Nat) : (i : Int) + 1 = ((i + 1 : Nat) : Int) := by omega
theorem rd_get (xs : List Int) (i : Nat) (h : i < xs.length) : rd xs (i : Int) = xs[i] := by simp [rd, List.getD_eq_getElem?_getD, h]
theorem mx_max (a b : Int) : mx a b = max a b := by unfold mx; omega

/-- the first number that is out of its range -/
def chkL : List Int → Int
  | [] => 0
  | x :: r => if x < 0 then 1 else if x > 1099511627776 then 1 else chkL r
def chk (xs : List Int) : Int := if (xs.length : Int) > 64 then 3 else chkL xs
theorem chkL_ok : ∀ (xs : List Int), chkL xs = 0 → ∀ x ∈ xs, 0 ≤ x ∧ x ≤ 1099511627776
  | [], _, x, hx => by simp at hx
  | y :: r, h, x, hx => by
    simp only [chkL] at h
    split at h
    · omega
    · split at h
      · omega
      · rcases List.mem_cons.1 hx with rfl | hx
        · omega
        · exact chkL_ok r h x hx
theorem chk_ok {xs : List Int} (h : chk xs = 0) : xs.length ≤ 64 ∧ ∀ x ∈ xs, 0 ≤ x ∧ x ≤ 1099511627776 := by
  unfold chk at h
  split at h
  · omega
  · exact ⟨by omega, chkL_ok xs h⟩

theorem pCheck_l0 (xs : List Int) (hn : xs.length ≤ 17592186043904) : ∀ (d i k : Nat), i + d = xs.length → d < k →
    clock_Check.l0 k xs (xs.length : Int) (i : Int) = some (chkL (xs.drop i)) := by
  intro d
  induction d with
  | zero =>
    intro i k h hk
    obtain ⟨k, rfl⟩ : ∃ m, k = m + 1 := ⟨k - 1, by omega⟩
    simp only [clock_Check.l0]
    rw [if_neg (by omega), List.drop_eq_nil_of_le (by omega)]; rfl
  | succ d ih =>
    intro i k h hk
    obtain ⟨k, rfl⟩ : ∃ m, k = m + 1 := ⟨k - 1, by omega⟩
    have hi : i < xs.length := by omega
    simp only [clock_Check.l0]
    rw [if_pos (by omega), if_pos (by omega), if_pos (by omega), rd_get xs i hi, List.drop_eq_getElem_cons hi]
    simp only [chkL]
    split
    · rfl
    · split
      · rfl
      · rw [wrap_in (by omega) (by omega), step_nat]; exact ih (i + 1) k (by omega) (by omega)
theorem pCheck (xs : List Int) (hn : xs.length ≤ 17592186043904) : Ev (fun k => clock_Check.f k xs) (chk xs) := by
  refine ⟨xs.length + 1, fun k hk => ?_⟩
  simp only [clock_Check.f, chk]
  split
  · rfl
  · have := pCheck_l0 xs hn xs.length 0 k (by omega) (by omega); simpa using this

theorem pAt (xs : List Int) (i : Int) : clock_At.f xs i = some (if 0 ≤ i ∧ i < xs.length then rd xs i else 0) := by
  simp only [clock_At.f]
  by_cases h0 : i < 0
  · rw [if_pos h0, if_neg (by omega)]
  · rw [if_neg h0]
    by_cases h1 : i ≥ (xs.length : Int)
    · rw [if_pos h1, if_neg (by omega)]
    · rw [if_neg h1, if_pos (by omega), if_pos (by omega), if_pos (by omega)]
/-- a replica's number -/
def at_ (xs : List Int) (i : Nat) : Int := xs.getD i 0
theorem pAt_nat (xs : List Int) (i : Nat) : clock_At.f xs (i : Int) = some (at_ xs i) := by
  rw [pAt]; congr 1
  by_cases h : i < xs.length
  · rw [if_pos (by omega)]; simp [rd, at_]
  · rw [if_neg (by omega)]; simp [at_, List.getD_eq_getElem?_getD, h]

theorem rSame_l0 (xs ys : List Int) (hl : xs.length = ys.length) (hn : xs.length ≤ 17592186044416) : ∀ (d i k : Nat), i + d = xs.length → d < k →
    topiaryref02_Same.l0 k xs ys (i : Int) = some (decide (xs.drop i = ys.drop i)) := by
  intro d
  induction d with
  | zero =>
    intro i k h hk
    obtain ⟨k, rfl⟩ : ∃ m, k = m + 1 := ⟨k - 1, by omega⟩
    simp only [topiaryref02_Same.l0]
    rw [if_neg (by omega), List.drop_eq_nil_of_le (by omega), List.drop_eq_nil_of_le (by omega)]; rfl
  | succ d ih =>
    intro i k h hk
    obtain ⟨k, rfl⟩ : ∃ m, k = m + 1 := ⟨k - 1, by omega⟩
    have hi : i < xs.length := by omega
    have hj : i < ys.length := by omega
    simp only [topiaryref02_Same.l0]
    rw [if_pos (by omega), if_pos (by omega), if_pos (by omega), rd_get xs i hi, rd_get ys i hj, List.drop_eq_getElem_cons hi, List.drop_eq_getElem_cons hj]
    by_cases e : xs[i] = ys[i]
    · rw [if_pos e, wrap_in (by omega) (by omega), step_nat, ih (i + 1) k (by omega) (by omega), e]
      exact congrArg some (by rw [decide_eq_decide]; simp only [List.cons.injEq, true_and])
    · rw [if_neg e]
      exact congrArg some (decide_eq_false (by simp only [List.cons.injEq, e, false_and, not_false_eq_true])).symm
theorem rSame (xs ys : List Int) (hn : xs.length ≤ 17592186044416) : Ev (fun k => topiaryref02_Same.f k xs ys) (decide (xs = ys)) := by
  refine ⟨xs.length + 1, fun k hk => ?_⟩
  simp only [topiaryref02_Same.f]
  split
  · rename_i e
    have := rSame_l0 xs ys (by omega) hn xs.length 0 k (by omega) (by omega); simpa using this
  · rename_i e
    have : xs ≠ ys := fun h => e (by rw [h])
    simp [this]

/-- t is the list without the noughts at its end -/
def IsTrim (t xs : List Int) : Prop := (∃ z, xs = t ++ List.replicate z 0) ∧ ∀ a r, t = r ++ [a] → a ≠ 0
theorem IsTrim.unique : ∀ {xs t u : List Int}, IsTrim t xs → IsTrim u xs → t = u := by
  have key : ∀ (xs t u : List Int), IsTrim t xs → IsTrim u xs → t.length ≤ u.length → t = u := by
    intro xs t u ⟨⟨z, h⟩, ht⟩ ⟨⟨y, g⟩, hu⟩ hl
    have e : u = t ++ List.replicate (z - y) 0 := by
      have hlen := congrArg List.length h
      have hlen' := congrArg List.length g
      simp at hlen hlen'
      have e1 : xs.take u.length = u := by rw [g]; simp
      have e2 : xs.take u.length = t ++ List.replicate (z - y) 0 := by
        rw [h, List.take_append, List.take_of_length_le hl, List.take_replicate]
        congr 2; omega
      rw [← e1, e2]
    cases hz : z - y with
    | zero => rw [hz] at e; simpa using e.symm
    | succ m =>
      rw [hz, List.replicate_succ', ← List.append_assoc] at e
      exact absurd rfl (hu 0 _ e)
  intro xs t u h g
  rcases Nat.le_total t.length u.length with hl | hl
  · exact key xs t u h g hl
  · exact (key xs u t g h hl).symm
theorem IsTrim.length_le {t xs : List Int} (h : IsTrim t xs) : t.length ≤ xs.length := by
  obtain ⟨⟨z, rfl⟩, _⟩ := h; simp
theorem IsTrim.pad {t xs : List Int} (h : IsTrim t xs) (n : Nat) : IsTrim t (xs ++ List.replicate n 0) := by
  obtain ⟨⟨z, rfl⟩, h2⟩ := h
  exact ⟨⟨z + n, by rw [List.append_assoc, List.replicate_append_replicate]⟩, h2⟩
theorem IsTrim.exists : ∀ xs : List Int, ∃ t, IsTrim t xs := by
  intro xs
  induction hn : xs.length using Nat.strongRecOn generalizing xs with
  | _ n ih =>
    rcases List.eq_nil_or_concat xs with rfl | ⟨r, a, rfl⟩
    · exact ⟨[], ⟨⟨0, rfl⟩, fun a r h => by simp at h⟩⟩
    · by_cases ha : a = 0
      · obtain ⟨t, ht⟩ := ih r.length (by simp at hn; omega) r rfl
        exact ⟨t, by have := ht.pad 1; simpa [ha] using this⟩
      · exact ⟨r ++ [a], ⟨⟨0, by simp⟩, fun b s h => by
          have := List.append_inj' h rfl
          have h2 := this.2; injection h2 with h2 _; rw [← h2]; exact ha⟩⟩
noncomputable def trim (xs : List Int) : List Int := (IsTrim.exists xs).choose
theorem trim_is (xs : List Int) : IsTrim (trim xs) xs := (IsTrim.exists xs).choose_spec
theorem trim_eq {t xs : List Int} (h : IsTrim t xs) : t = trim xs := h.unique (trim_is xs)

theorem pTrim_l0 (xs : List Int) (hn : xs.length ≤ 17592186044415) : ∀ (n k : Nat), n ≤ xs.length → n < k → (∀ j, n ≤ j → j < xs.length → at_ xs j = 0) →
    clock_Trim.l0 k xs (n : Int) = some (trim xs) := by
  intro n
  induction n with
  | zero =>
    intro k _ hk hz
    obtain ⟨k, rfl⟩ : ∃ m, k = m + 1 := ⟨k - 1, by omega⟩
    simp only [clock_Trim.l0]
    rw [if_neg (by omega)]
    simp only [Option.bind_some]
    rw [if_pos (by omega), if_pos (by omega), if_pos (by simp)]
    refine congrArg some (trim_eq ?_)
    show IsTrim [] xs
    refine ⟨⟨xs.length, ?_⟩, fun a r h => by simp at h⟩
    refine List.ext_getElem (by simp) fun j h1 h2 => ?_
    have := hz j (by omega) h1
    simpa [at_, List.getD_eq_getElem?_getD, h1] using this
  | succ n ih =>
    intro k hl hk hz
    obtain ⟨k, rfl⟩ : ∃ m, k = m + 1 := ⟨k - 1, by omega⟩
    have hi : n < xs.length := by omega
    have hw : wrap64 (((n + 1 : Nat) : Int) - 1) = (n : Int) := by rw [wrap_in (by omega) (by omega)]; omega
    simp only [clock_Trim.l0, hw]
    rw [if_pos (by omega), if_pos (by omega), if_pos (by omega), rd_get xs n hi]
    by_cases e : xs[n] = 0
    · rw [if_pos e]
      refine ih k (by omega) (by omega) fun j h1 h2 => ?_
      rcases Nat.lt_or_ge n j with h | h
      · exact hz j (by omega) h2
      · have : j = n := by omega
        subst this; simpa [at_, List.getD_eq_getElem?_getD, h2] using e
    · rw [if_neg e]
      simp only [Option.bind_some]
      rw [if_pos (by omega), if_pos (by omega), if_pos (by simp; omega)]
      congr 1
      refine trim_eq ⟨⟨xs.length - (n + 1), ?_⟩, fun a r h => ?_⟩
      · have e1 : xs.drop (n + 1) = List.replicate (xs.length - (n + 1)) 0 := by
          refine List.ext_getElem (by simp) fun j h1 h2 => ?_
          simp at h1
          have := hz (n + 1 + j) (by omega) (by omega)
          have h3 : n + 1 + j < xs.length := by omega
          simpa [at_, List.getD_eq_getElem?_getD, h3] using this
        rw [← e1, Int.toNat_natCast]; simp
      · simp only [Int.toNat_natCast, List.nil_append] at h
        rw [List.take_succ_eq_append_getElem hi] at h
        have := (List.append_inj' h rfl).2
        injection this with h2 _; rw [← h2]; exact e
theorem pTrim (xs : List Int) (hn : xs.length ≤ 17592186044415) : Ev (fun k => clock_Trim.f k xs) (trim xs) :=
  ⟨xs.length + 1, fun k hk => pTrim_l0 xs hn xs.length k (Nat.le_refl _) (by omega) (fun j h1 h2 => by omega)⟩

theorem pBoth (a b : List Int) (ha : a.length ≤ 17592186043904) (hb : b.length ≤ 17592186043904) : Ev (fun k => clock_both.f k a b) (if chk a = 0 then chk b else chk a) := by
  unfold clock_both.f
  refine Ev.bind (pCheck a ha) ?_
  split
  · exact Ev.bind (pCheck b hb) (Ev.now _)
  · exact Ev.now _
/-- of each replica the greater number, n of them -/
def maxN (a b : List Int) (n : Nat) : List Int := (List.range n).map fun i => max (at_ a i) (at_ b i)
theorem maxN_length (a b : List Int) (n : Nat) : (maxN a b n).length = n := by simp [maxN]
theorem maxN_succ (a b : List Int) (n : Nat) : maxN a b (n + 1) = maxN a b n ++ [max (at_ a n) (at_ b n)] := by simp [maxN, List.range_succ]
theorem maxN_zero (a b : List Int) (n : Nat) : maxN a b n ++ List.replicate 0 0 = maxN a b n := by simp
theorem pMerge_l0 (a b : List Int) (n : Nat) (hn : n ≤ 17592186044415) : ∀ (d i k : Nat), i + d = n → d + n + 1 < k →
    clock_Merge.l0 k a b (maxN a b i ++ List.replicate (n - i) 0) (n : Int) (i : Int) = some (trim (maxN a b n), 0) := by
  intro d
  induction d with
  | zero =>
    intro i k h hk
    obtain ⟨k, rfl⟩ : ∃ m, k = m + 1 := ⟨k - 1, by omega⟩
    obtain rfl : i = n := by omega
    simp only [clock_Merge.l0]
    rw [if_neg (by omega)]
    have ht := pTrim_l0 (maxN a b i) (by rw [maxN_length]; omega) (maxN a b i).length k (Nat.le_refl _) (by rw [maxN_length]; omega) (fun j h1 h2 => by omega)
    simp only [clock_Trim.f, Nat.sub_self, List.replicate_zero, List.append_nil]
    rw [ht]; rfl
  | succ d ih =>
    intro i k h hk
    obtain ⟨k, rfl⟩ : ∃ m, k = m + 1 := ⟨k - 1, by omega⟩
    simp only [clock_Merge.l0]
    rw [if_pos (by omega), pAt_nat, pAt_nat]
    simp only [Option.bind_some]
    rw [if_pos (by omega), if_pos (by simp [maxN_length]; omega), wrap_in (by omega) (by omega), step_nat, mx_max]
    have e : (maxN a b i ++ List.replicate (n - i) 0).set (i : Int).toNat (max (at_ a i) (at_ b i)) = maxN a b (i + 1) ++ List.replicate (n - (i + 1)) 0 := by
      rw [Int.toNat_natCast, List.set_append_right _ _ (by rw [maxN_length]; exact Nat.le_refl _), maxN_length, Nat.sub_self, show n - i = (n - (i + 1)) + 1 from by omega, List.replicate_succ, List.set_cons_zero, maxN_succ]
      simp
    rw [e]
    exact ih (i + 1) k (by omega) (by omega)
/-- what Merge tells -/
noncomputable def mrg (a b : List Int) : List Int × Int := if chk a = 0 then (if chk b = 0 then (trim (maxN a b (max a.length b.length)), 0) else ([], chk b)) else ([], chk a)
theorem pMerge (a b : List Int) (ha : a.length ≤ 17592186043904) (hb : b.length ≤ 17592186043904) : Ev (fun k => clock_Merge.f k a b) (mrg a b) := by
  have hm : mx (a.length : Int) (b.length : Int) = ((max a.length b.length : Nat) : Int) := by rw [mx_max]; omega
  unfold clock_Merge.f
  refine Ev.bind (pBoth a b ha hb) ?_
  unfold mrg
  by_cases h1 : chk a = 0
  · by_cases h2 : chk b = 0
    · simp only [if_pos h1, if_pos h2, if_true, hm]
      refine Ev.congr (f := fun k => clock_Merge.l0 k a b (maxN a b 0 ++ List.replicate (max a.length b.length - 0) 0) ((max a.length b.length : Nat) : Int) ((0 : Nat) : Int)) (fun k => ?_) ?_
      · rw [if_pos (by omega), if_pos (by omega)]
        simp [maxN]
      · exact ⟨2 * max a.length b.length + 2, fun k hk => pMerge_l0 a b (max a.length b.length) (by omega) (max a.length b.length) 0 k (by omega) (by omega)⟩
    · simp only [if_pos h1, if_neg h2]
      exact Ev.now _
  · simp only [if_neg h1]
    exact Ev.now _
theorem awake : Ev (fun k => topiarylaw02_awake.f k) true := Ev.of topiarylaw02_awake.mono (k := 20) (by decide +kernel)

theorem rAt (xs : List Int) (i : Int) : topiaryref02_At.f xs i = some (if 0 ≤ i ∧ i < xs.length then rd xs i else 0) := by
  simp only [topiaryref02_At.f]
  by_cases h0 : i ≥ 0
  · rw [if_pos h0]
    by_cases h1 : i < (xs.length : Int)
    · rw [if_pos h1, if_pos (by omega), if_pos (by omega)]
    · rw [if_neg h1, if_neg (by omega)]
  · rw [if_neg h0, if_neg (by omega)]
theorem rAt_nat (xs : List Int) (i : Nat) : topiaryref02_At.f xs (i : Int) = some (at_ xs i) := by
  rw [rAt, ← pAt, pAt_nat]

/-- no number of a is above that of b -/
def Und (a b : List Int) : Prop := ∀ j, j < a.length → at_ a j ≤ at_ b j
open Classical in
theorem rUnder_l0 (a b : List Int) (hn : a.length ≤ 17592186043904) : ∀ (d i k : Nat), i + d = a.length → d < k →
    topiaryref02_Under.l0 k a b (i : Int) = some (decide (∀ j, i ≤ j → j < a.length → at_ a j ≤ at_ b j)) := by
  intro d
  induction d with
  | zero =>
    intro i k h hk
    obtain ⟨k, rfl⟩ : ∃ m, k = m + 1 := ⟨k - 1, by omega⟩
    simp only [topiaryref02_Under.l0]
    rw [if_neg (by omega), decide_eq_true (fun j h1 h2 => by omega)]
  | succ d ih =>
    intro i k h hk
    obtain ⟨k, rfl⟩ : ∃ m, k = m + 1 := ⟨k - 1, by omega⟩
    have hi : i < a.length := by omega
    have e : rd a (i : Int) = at_ a i := by simp [rd, at_]
    simp only [topiaryref02_Under.l0]
    rw [if_pos (by omega), if_pos (by omega), rAt_nat, e]
    simp only [Option.bind_some]
    by_cases hc : at_ a i > at_ b i
    · rw [if_pos hc, decide_eq_false (fun h => by have := h i (Nat.le_refl _) hi; omega)]
    · rw [if_neg hc, wrap_in (by omega) (by omega), step_nat, ih (i + 1) k (by omega) (by omega)]
      congr 1
      rw [Bool.eq_iff_iff, decide_eq_true_iff, decide_eq_true_iff]
      refine ⟨fun h j h1 h2 => ?_, fun h j h1 h2 => h j (by omega) h2⟩
      rcases Nat.lt_or_ge i j with g | g
      · exact h j g h2
      · obtain rfl : i = j := by omega
        omega
open Classical in
theorem rUnder (a b : List Int) (hn : a.length ≤ 17592186043904) : Ev (fun k => topiaryref02_Under.f k a b) (decide (Und a b)) := by
  refine ⟨a.length + 1, fun k hk => ?_⟩
  have := rUnder_l0 a b hn a.length 0 k (by omega) (by omega)
  simp only [topiaryref02_Under.f]
  rw [show (0 : Int) = ((0 : Nat) : Int) from rfl, this]
  congr 1
  rw [Bool.eq_iff_iff, decide_eq_true_iff, decide_eq_true_iff]
  exact ⟨fun h j hj => h j (by omega) hj, fun h j _ hj => h j hj⟩
theorem at_over (xs : List Int) (j : Nat) (h : xs.length ≤ j) : at_ xs j = 0 := by simp [at_, List.getD_eq_getElem?_getD, h]
theorem at_mem {xs : List Int} {j : Nat} (h : j < xs.length) : at_ xs j ∈ xs := by simp [at_, List.getD_eq_getElem?_getD, h]
theorem at_nonneg {xs : List Int} (h : chk xs = 0) (j : Nat) : 0 ≤ at_ xs j := by
  rcases Nat.lt_or_ge j xs.length with g | g
  · exact ((chk_ok h).2 _ (at_mem g)).1
  · rw [at_over xs j g]; exact Int.le_refl _
theorem Und.all {a b : List Int} (h : Und a b) (hb : chk b = 0) (j : Nat) : at_ a j ≤ at_ b j := by
  rcases Nat.lt_or_ge j a.length with g | g
  · exact h j g
  · rw [at_over a j g]; exact at_nonneg hb j

theorem at_trim (xs : List Int) (j : Nat) : at_ (trim xs) j = at_ xs j := by
  obtain ⟨⟨z, h⟩, _⟩ := trim_is xs
  generalize trim xs = t at *
  subst h
  rcases Nat.lt_or_ge j t.length with g | g
  · simp [at_, List.getD_eq_getElem?_getD, List.getElem?_append_left g]
  · rw [at_over t j g]
    simp only [at_, List.getD_eq_getElem?_getD, List.getElem?_append_right g, List.getElem?_replicate]
    split <;> rfl
theorem trim_ext {xs ys : List Int} (h : ∀ j, at_ xs j = at_ ys j) : trim xs = trim ys := by
  have key : ∀ (xs ys : List Int), (∀ j, at_ xs j = at_ ys j) → (trim xs).length ≤ (trim ys).length → trim xs = trim ys := by
    intro xs ys h hl
    have hat : ∀ j, at_ (trim xs) j = at_ (trim ys) j := fun j => by rw [at_trim, at_trim, h]
    have h2 := (trim_is ys).2
    generalize trim xs = t at *
    generalize trim ys = u at *
    have hlen : t.length = u.length := by
      rcases Nat.lt_or_ge t.length u.length with g | g
      · rcases List.eq_nil_or_concat u with rfl | ⟨r, a, rfl⟩
        · simp at g
        · have := hat r.length
          rw [at_over t _ (by simp at g; omega)] at this
          have e : at_ (r ++ [a]) r.length = a := by simp [at_, List.getD_eq_getElem?_getD]
          rw [List.concat_eq_append, e] at this
          exact absurd this.symm (h2 a r (by simp))
      · omega
    refine List.ext_getElem hlen fun j h1 h3 => ?_
    have := hat j
    simpa [at_, List.getD_eq_getElem?_getD, h1, h3] using this
  rcases Nat.le_total (trim xs).length (trim ys).length with g | g
  · exact key xs ys h g
  · exact (key ys xs (fun j => (h j).symm) g).symm
theorem at_maxN (a b : List Int) (n j : Nat) : at_ (maxN a b n) j = if j < n then max (at_ a j) (at_ b j) else 0 := by
  by_cases h : j < n
  · rw [if_pos h]; simp [at_, maxN, List.getD_eq_getElem?_getD, h]
  · rw [if_neg h, at_over _ _ (by rw [maxN_length]; omega)]
theorem at_mrg (a b : List Int) (j : Nat) : at_ (trim (maxN a b (max a.length b.length))) j = max (at_ a j) (at_ b j) := by
  rw [at_trim, at_maxN]
  split
  · rfl
  · rw [at_over a j (by omega), at_over b j (by omega)]; rfl
theorem chk_of {xs : List Int} (hl : xs.length ≤ 64) (h : ∀ j, 0 ≤ at_ xs j ∧ at_ xs j ≤ 1099511627776) : chk xs = 0 := by
  have key : ∀ l : List Int, (∀ x ∈ l, 0 ≤ x ∧ x ≤ 1099511627776) → chkL l = 0 := by
    intro l
    induction l with
    | nil => intro _; rfl
    | cons y r ih =>
      intro hm
      have := hm y (by simp)
      simp only [chkL]
      rw [if_neg (by omega), if_neg (by omega)]
      exact ih fun x hx => hm x (by simp [hx])
  unfold chk
  rw [if_neg (by omega)]
  refine key xs fun x hx => ?_
  obtain ⟨j, hj, rfl⟩ := List.getElem_of_mem hx
  have := h j
  simpa [at_, List.getD_eq_getElem?_getD, hj] using this
theorem at_range {xs : List Int} (h : chk xs = 0) (j : Nat) : 0 ≤ at_ xs j ∧ at_ xs j ≤ 1099511627776 := by
  rcases Nat.lt_or_ge j xs.length with g | g
  · exact (chk_ok h).2 _ (at_mem g)
  · rw [at_over xs j g]; omega
theorem mrg_ok {a b : List Int} (ha : chk a = 0) (hb : chk b = 0) : mrg a b = (trim (maxN a b (max a.length b.length)), 0) := by
  unfold mrg; rw [if_pos ha, if_pos hb]
theorem mrg_code (a b : List Int) : (mrg a b).2 = 0 ↔ chk a = 0 ∧ chk b = 0 := by
  unfold mrg
  by_cases ha : chk a = 0
  · by_cases hb : chk b = 0 <;> simp [ha, hb]
  · simp [ha]
theorem chk_mrg {a b : List Int} (ha : chk a = 0) (hb : chk b = 0) : chk (trim (maxN a b (max a.length b.length))) = 0 := by
  refine chk_of ?_ fun j => ?_
  · have := (trim_is (maxN a b (max a.length b.length))).length_le
    rw [maxN_length] at this
    have h1 := (chk_ok ha).1
    have h2 := (chk_ok hb).1
    omega
  · rw [at_mrg]
    have h1 := at_range ha j
    have h2 := at_range hb j
    omega
theorem Und.of {a b : List Int} (h : ∀ j, at_ a j ≤ at_ b j) : Und a b := fun j _ => h j
theorem least_j1 (a b c ab : List Int) (ha : a.length ≤ 17592186043904) (hb : b.length ≤ 17592186043904) (hab : ab.length ≤ 17592186043904)
    (h : Und a c → Und b c → Und ab c) : Ev (fun k => topiarylaw02_ClockLeast.j1 k a b c ab false) true := by
  refine Ev.step (f := fun k => (topiaryref02_Under.f k a c).bind fun t175 => (if t175 = true then ((topiaryref02_Under.f k b c).bind fun t176 => (if t176 = true then ((topiaryref02_Under.f k ab c).bind fun t177 => (if t177 = true then ((topiarylaw02_awake.f k).bind fun t178 => (some t178)) else (some false))) else ((topiarylaw02_awake.f k).bind fun t179 => (some t179)))) else ((topiarylaw02_awake.f k).bind fun t180 => (some t180)))) (fun k => by simp [topiarylaw02_ClockLeast.j1]) ?_
  refine Ev.bind (rUnder a c ha) ?_
  by_cases c1 : Und a c
  · simp only [c1, decide_true, if_true]
    refine Ev.bind (rUnder b c hb) ?_
    by_cases c2 : Und b c
    · simp only [c2, decide_true, if_true]
      refine Ev.bind (rUnder ab c hab) ?_
      simp only [h c1 c2, decide_true, if_true]
      exact Ev.bind awake (Ev.now _)
    · simp only [c2, decide_false]
      exact Ev.bind awake (Ev.now _)
  · simp only [c1, decide_false]
    exact Ev.bind awake (Ev.now _)
theorem least_j0_bad (a b c ab ba bc : List Int) (e f : Int) (h : (e = 0) ↔ (f = 0)) : Ev (fun k => topiarylaw02_ClockLeast.j0 k a b c ab e ba f bc true) true := by
  refine Ev.step (f := fun k => (topiarylaw02_awake.f k).bind fun t162 => (some t162)) (fun k => ?_) (Ev.bind awake (Ev.now _))
  rw [topiarylaw02_ClockLeast.j0, if_pos rfl, if_pos]
  by_cases he : e = 0
  · rw [he, h.1 he]; rfl
  · have hf : ¬ f = 0 := fun g => he (h.2 g)
    rw [beq_eq_false_iff_ne.2 he, beq_eq_false_iff_ne.2 hf]; rfl
theorem ClockLeast : topiarylaw02_ClockLeast.Pure := by
  intro a b c a1 a2 a3 b1 b2 b3 c1 c2 c3
  have ha : a.length ≤ 17592186043904 := by omega
  have hb : b.length ≤ 17592186043904 := by omega
  have hc : c.length ≤ 17592186043904 := by omega
  refine Ev.rounds ?_
  unfold topiarylaw02_ClockLeast.f
  refine Ev.bind (pMerge a b ha hb) (Ev.bind (pMerge b a hb ha) (Ev.bind (pMerge b c hb hc) ?_))
  have e1 := mrg_code a b
  have e2 := mrg_code b a
  have e3 := mrg_code b c
  have e12 : (mrg a b).2 = 0 ↔ (mrg b a).2 = 0 := by rw [e1, e2]; exact And.comm
  by_cases h1 : (mrg a b).2 = 0
  · have h2 := e12.1 h1
    simp only [if_pos h1, if_pos h2]
    by_cases h3 : (mrg b c).2 = 0
    · obtain ⟨ka, kb⟩ := e1.1 h1
      obtain ⟨_, kc⟩ := e3.1 h3
      have kab := chk_mrg ka kb
      have kbc := chk_mrg kb kc
      simp only [h3, mrg_ok ka kb, mrg_ok kb ka, mrg_ok kb kc]
      have hba : trim (maxN b a (max b.length a.length)) = trim (maxN a b (max a.length b.length)) := by
        refine trim_ext fun j => ?_
        rw [← at_trim, at_mrg, ← at_trim (maxN a b _), at_mrg, Int.max_comm]
      rw [hba]
      have hlab : (trim (maxN a b (max a.length b.length))).length ≤ 64 := (chk_ok kab).1
      have hlbc : (trim (maxN b c (max b.length c.length))).length ≤ 64 := (chk_ok kbc).1
      have atab := at_mrg a b
      have atbc := at_mrg b c
      generalize trim (maxN a b (max a.length b.length)) = ab at *
      generalize trim (maxN b c (max b.length c.length)) = bc at *
      have hlr : (mrg ab c).1 = (mrg a bc).1 := by
        rw [mrg_ok kab kc, mrg_ok ka kbc]
        refine trim_ext fun j => ?_
        rw [← at_trim, at_mrg, ← at_trim (maxN a bc _), at_mrg, atab, atbc, Int.max_assoc]
      have hll : (mrg ab c).1.length ≤ 64 := by rw [mrg_ok kab kc]; exact (chk_ok (chk_mrg kab kc)).1
      have ua : Und a ab := Und.of fun j => by rw [atab]; omega
      have ub : Und b ab := Und.of fun j => by rw [atab]; omega
      refine Ev.step (f := fun k => (clock_Merge.f k ab c).bind fun bt163 => ((clock_Merge.f k a bc).bind fun bt167 => (if bt163.2 = 0 then (if bt167.2 = 0 then ((topiaryref02_Same.f k ab ab).bind fun t171 => (if t171 = true then ((topiaryref02_Same.f k bt163.1 bt167.1).bind fun t172 => (if t172 = true then ((topiaryref02_Under.f k a ab).bind fun t173 => (if t173 = true then ((topiaryref02_Under.f k b ab).bind fun t174 => (topiarylaw02_ClockLeast.j1 k a b c ab (!t174))) else (topiarylaw02_ClockLeast.j1 k a b c ab true))) else (topiarylaw02_ClockLeast.j1 k a b c ab true))) else (topiarylaw02_ClockLeast.j1 k a b c ab true))) else (topiarylaw02_ClockLeast.j1 k a b c ab true)) else (topiarylaw02_ClockLeast.j1 k a b c ab true)))) (fun k => by simp [topiarylaw02_ClockLeast.j0]) ?_
      refine Ev.bind (pMerge ab c (by omega) hc) (Ev.bind (pMerge a bc ha (by omega)) ?_)
      have q1 := (mrg_code ab c).2 ⟨kab, kc⟩
      have q2 := (mrg_code a bc).2 ⟨ka, kbc⟩
      simp only [q1, q2, ← hlr, eq_self, if_true]
      refine Ev.bind (rSame _ _ (by omega)) ?_
      simp only [decide_true, if_true]
      refine Ev.bind (rSame _ _ (by omega)) ?_
      simp only [decide_true, if_true]
      refine Ev.bind (rUnder a ab ha) ?_
      simp only [ua, decide_true, if_true]
      refine Ev.bind (rUnder b ab hb) ?_
      simp only [ub, decide_true, Bool.not_true]
      refine least_j1 a b c ab ha hb (by omega) fun g1 g2 => Und.of fun j => ?_
      have := g1.all kc j
      have := g2.all kc j
      rw [atab]; omega
    · have : ((mrg b c).2 != 0) = true := by simpa using h3
      simp only [this]
      exact least_j0_bad _ _ _ _ _ _ _ _ e12
  · simp only [if_neg h1]
    exact least_j0_bad _ _ _ _ _ _ _ _ e12

end Go.Proofs.Ytbnhjkcpecilbaa.Pure
