/- one change more of a replica: the program and the reference tell the same list and the same error, for every list of numbers and every replica. No condition. -/
import Derived.Test.YtbnhjkcpecilbaaQClockTicksx3
namespace Go.Proofs.Ytbnhjkcpecilbaa.Pure
open Go.RowKit Go.Proofs.Ytbnhjkcpecilbaa.QClockTicks Go.Proofs.YtbnhjkcpecilbaaW.PrintWords Go.Proofs.YtbnhjkcpecilbaaW.PrintLast
set_option linter.unusedVariables false
set_option linter.unusedSimpArgs false
theorem wrap_in {n : Int} (h0 : -9223372036854775808 ≤ n) (h1 : n ≤ 9223372036854775807) : wrap64 n = n := by unfold wrap64; omega
theorem step_nat (i : Nat) : (i : Int) + 1 = ((i + 1 : Nat) : Int) := by omega
theorem rd_get (xs : List Int) (i : Nat) (h : i < xs.length) : rd xs (i : Int) = xs[i] := by simp [rd, List.getD_eq_getElem?_getD, h]
theorem mx_max (a b : Int) : mx a b = max a b := by unfold mx; omega

/-- the first number that is out of its range -/
def chkL : List Int → Int
  | [] => 0
  | x :: r => if x < 0 then 1 else if x > 1099511627776 then 1 else chkL r
def chk (xs : List Int) : Int := if (xs.length : Int) > 64 then 3 else chkL xs
theorem chkL_ok : ∀ (xs : List Int), chkL xs = 0 → ∀ x ∈ xs, 0 ≤ x ∧ x ≤ 1099511627776
  | [], _, x, hx => by simp at hx
  | y :: r, h, x, hx => by
    simp only [chkL] at h
    split at h
    · omega
    · split at h
      · omega
      · rcases List.mem_cons.1 hx with rfl | hx
        · omega
        · exact chkL_ok r h x hx
theorem chk_ok {xs : List Int} (h : chk xs = 0) : xs.length ≤ 64 ∧ ∀ x ∈ xs, 0 ≤ x ∧ x ≤ 1099511627776 := by
  unfold chk at h
  split at h
  · omega
  · exact ⟨by omega, chkL_ok xs h⟩

theorem pCheck_l0 (xs : List Int) (hn : xs.length ≤ 17592186043904) : ∀ (d i k : Nat), i + d = xs.length → d < k →
    clock_Check.l0 k xs (xs.length : Int) (i : Int) = some (chkL (xs.drop i)) := by
  intro d
  induction d with
  | zero =>
    intro i k h hk
    obtain ⟨k, rfl⟩ : ∃ m, k = m + 1 := ⟨k - 1, by omega⟩
    simp only [clock_Check.l0]
    rw [if_neg (by omega), List.drop_eq_nil_of_le (by omega)]; rfl
  | succ d ih =>
    intro i k h hk
    obtain ⟨k, rfl⟩ : ∃ m, k = m + 1 := ⟨k - 1, by omega⟩
    have hi : i < xs.length := by omega
    simp only [clock_Check.l0]
    rw [if_pos (by omega), if_pos (by omega), if_pos (by omega), rd_get xs i hi, List.drop_eq_getElem_cons hi]
    simp only [chkL]
    split
    · rfl
    · split
      · rfl
      · rw [wrap_in (by omega) (by omega), step_nat]; exact ih (i + 1) k (by omega) (by omega)
theorem pCheck (xs : List Int) (hn : xs.length ≤ 17592186043904) : Ev (fun k => clock_Check.f k xs) (chk xs) := by
  refine ⟨xs.length + 1, fun k hk => ?_⟩
  simp only [clock_Check.f, chk]
  split
  · rfl
  · have := pCheck_l0 xs hn xs.length 0 k (by omega) (by omega); simpa using this

theorem pAt (xs : List Int) (i : Int) : clock_At.f xs i = some (if 0 ≤ i ∧ i < xs.length then rd xs i else 0) := by
  simp only [clock_At.f]
  by_cases h0 : i < 0
  · rw [if_pos h0, if_neg (by omega)]
  · rw [if_neg h0]
    by_cases h1 : i ≥ (xs.length : Int)
    · rw [if_pos h1, if_neg (by omega)]
    · rw [if_neg h1, if_pos (by omega), if_pos (by omega), if_pos (by omega)]
/-- a replica's number -/
def at_ (xs : List Int) (i : Nat) : Int := xs.getD i 0
theorem pAt_nat (xs : List Int) (i : Nat) : clock_At.f xs (i : Int) = some (at_ xs i) := by
  rw [pAt]; congr 1
  by_cases h : i < xs.length
  · rw [if_pos (by omega)]; simp [rd, at_]
  · rw [if_neg (by omega)]; simp [at_, List.getD_eq_getElem?_getD, h]

theorem rSame_l0 (xs ys : List Int) (hl : xs.length = ys.length) (hn : xs.length ≤ 17592186044416) : ∀ (d i k : Nat), i + d = xs.length → d < k →
    topiaryref02_Same.l0 k xs ys (i : Int) = some (decide (xs.drop i = ys.drop i)) := by
  intro d
  induction d with
  | zero =>
    intro i k h hk
    obtain ⟨k, rfl⟩ : ∃ m, k = m + 1 := ⟨k - 1, by omega⟩
    simp only [topiaryref02_Same.l0]
    rw [if_neg (by omega), List.drop_eq_nil_of_le (by omega), List.drop_eq_nil_of_le (by omega)]; rfl
  | succ d ih =>
    intro i k h hk
    obtain ⟨k, rfl⟩ : ∃ m, k = m + 1 := ⟨k - 1, by omega⟩
    have hi : i < xs.length := by omega
    have hj : i < ys.length := by omega
    simp only [topiaryref02_Same.l0]
    rw [if_pos (by omega), if_pos (by omega), if_pos (by omega), rd_get xs i hi, rd_get ys i hj, List.drop_eq_getElem_cons hi, List.drop_eq_getElem_cons hj]
    by_cases e : xs[i] = ys[i]
    · rw [if_pos e, wrap_in (by omega) (by omega), step_nat, ih (i + 1) k (by omega) (by omega), e]
      exact congrArg some (by rw [decide_eq_decide]; simp only [List.cons.injEq, true_and])
    · rw [if_neg e]
      exact congrArg some (decide_eq_false (by simp only [List.cons.injEq, e, false_and, not_false_eq_true])).symm
theorem rSame (xs ys : List Int) (hn : xs.length ≤ 17592186044416) : Ev (fun k => topiaryref02_Same.f k xs ys) (decide (xs = ys)) := by
  refine ⟨xs.length + 1, fun k hk => ?_⟩
  simp only [topiaryref02_Same.f]
  split
  · rename_i e
    have := rSame_l0 xs ys (by omega) hn xs.length 0 k (by omega) (by omega); simpa using this
  · rename_i e
    have : xs ≠ ys := fun h => e (by rw [h])
    simp [this]

/-- t is the list without the noughts at its end -/
def IsTrim (t xs : List Int) : Prop := (∃ z, xs = t ++ List.replicate z 0) ∧ ∀ a r, t = r ++ [a] → a ≠ 0
theorem IsTrim.unique : ∀ {xs t u : List Int}, IsTrim t xs → IsTrim u xs → t = u := by
  have key : ∀ (xs t u : List Int), IsTrim t xs → IsTrim u xs → t.length ≤ u.length → t = u := by
    intro xs t u ⟨⟨z, h⟩, ht⟩ ⟨⟨y, g⟩, hu⟩ hl
    have e : u = t ++ List.replicate (z - y) 0 := by
      have hlen := congrArg List.length h
      have hlen' := congrArg List.length g
      simp at hlen hlen'
      have e1 : xs.take u.length = u := by rw [g]; simp
      have e2 : xs.take u.length = t ++ List.replicate (z - y) 0 := by
        rw [h, List.take_append, List.take_of_length_le hl, List.take_replicate]
        congr 2; omega
      rw [← e1, e2]
    cases hz : z - y with
    | zero => rw [hz] at e; simpa using e.symm
    | succ m =>
      rw [hz, List.replicate_succ', ← List.append_assoc] at e
      exact absurd rfl (hu 0 _ e)
  intro xs t u h g
  rcases Nat.le_total t.length u.length with hl | hl
  · exact key xs t u h g hl
  · exact (key xs u t g h hl).symm
theorem IsTrim.length_le {t xs : List Int} (h : IsTrim t xs) : t.length ≤ xs.length := by
  obtain ⟨⟨z, rfl⟩, _⟩ := h; simp
theorem IsTrim.pad {t xs : List Int} (h : IsTrim t xs) (n : Nat) : IsTrim t (xs ++ List.replicate n 0) := by
  obtain ⟨⟨z, rfl⟩, h2⟩ := h
  exact ⟨⟨z + n, by rw [List.append_assoc, List.replicate_append_replicate]⟩, h2⟩
theorem IsTrim.exists : ∀ xs : List Int, ∃ t, IsTrim t xs := by
  intro xs
  induction hn : xs.length using Nat.strongRecOn generalizing xs with
  | _ n ih =>
    rcases List.eq_nil_or_concat xs with rfl | ⟨r, a, rfl⟩
    · exact ⟨[], ⟨⟨0, rfl⟩, fun a r h => by simp at h⟩⟩
    · by_cases ha : a = 0
      · obtain ⟨t, ht⟩ := ih r.length (by simp at hn; omega) r rfl
        exact ⟨t, by have := ht.pad 1; simpa [ha] using this⟩
      · exact ⟨r ++ [a], ⟨⟨0, by simp⟩, fun b s h => by
          have := List.append_inj' h rfl
          have h2 := this.2; injection h2 with h2 _; rw [← h2]; exact ha⟩⟩
noncomputable def trim (xs : List Int) : List Int := (IsTrim.exists xs).choose
theorem trim_is (xs : List Int) : IsTrim (trim xs) xs := (IsTrim.exists xs).choose_spec
theorem trim_eq {t xs : List Int} (h : IsTrim t xs) : t = trim xs := h.unique (trim_is xs)

theorem pTrim_l0 (xs : List Int) (hn : xs.length ≤ 17592186044415) : ∀ (n k : Nat), n ≤ xs.length → n < k → (∀ j, n ≤ j → j < xs.length → at_ xs j = 0) →
    clock_Trim.l0 k xs (n : Int) = some (trim xs) := by
  intro n
  induction n with
  | zero =>
    intro k _ hk hz
    obtain ⟨k, rfl⟩ : ∃ m, k = m + 1 := ⟨k - 1, by omega⟩
    simp only [clock_Trim.l0]
    rw [if_neg (by omega)]
    simp only [Option.bind_some]
    rw [if_pos (by omega), if_pos (by omega), if_pos (by simp)]
    refine congrArg some (trim_eq ?_)
    show IsTrim [] xs
    refine ⟨⟨xs.length, ?_⟩, fun a r h => by simp at h⟩
    refine List.ext_getElem (by simp) fun j h1 h2 => ?_
    have := hz j (by omega) h1
    simpa [at_, List.getD_eq_getElem?_getD, h1] using this
  | succ n ih =>
    intro k hl hk hz
    obtain ⟨k, rfl⟩ : ∃ m, k = m + 1 := ⟨k - 1, by omega⟩
    have hi : n < xs.length := by omega
    have hw : wrap64 (((n + 1 : Nat) : Int) - 1) = (n : Int) := by rw [wrap_in (by omega) (by omega)]; omega
    simp only [clock_Trim.l0, hw]
    rw [if_pos (by omega), if_pos (by omega), if_pos (by omega), rd_get xs n hi]
    by_cases e : xs[n] = 0
    · rw [if_pos e]
      refine ih k (by omega) (by omega) fun j h1 h2 => ?_
      rcases Nat.lt_or_ge n j with h | h
      · exact hz j (by omega) h2
      · have : j = n := by omega
        subst this; simpa [at_, List.getD_eq_getElem?_getD, h2] using e
    · rw [if_neg e]
      simp only [Option.bind_some]
      rw [if_pos (by omega), if_pos (by omega), if_pos (by simp; omega)]
      congr 1
      refine trim_eq ⟨⟨xs.length - (n + 1), ?_⟩, fun a r h => ?_⟩
      · have e1 : xs.drop (n + 1) = List.replicate (xs.length - (n + 1)) 0 := by
          refine List.ext_getElem (by simp) fun j h1 h2 => ?_
          simp at h1
          have := hz (n + 1 + j) (by omega) (by omega)
          have h3 : n + 1 + j < xs.length := by omega
          simpa [at_, List.getD_eq_getElem?_getD, h3] using this
        rw [← e1, Int.toNat_natCast]; simp
      · simp only [Int.toNat_natCast, List.nil_append] at h
        rw [List.take_succ_eq_append_getElem hi] at h
        have := (List.append_inj' h rfl).2
        injection this with h2 _; rw [← h2]; exact e
theorem pTrim (xs : List Int) (hn : xs.length ≤ 17592186044415) : Ev (fun k => clock_Trim.f k xs) (trim xs) :=
  ⟨xs.length + 1, fun k hk => pTrim_l0 xs hn xs.length k (Nat.le_refl _) (by omega) (fun j h1 h2 => by omega)⟩

theorem pBoth (a b : List Int) (ha : a.length ≤ 17592186043904) (hb : b.length ≤ 17592186043904) : Ev (fun k => clock_both.f k a b) (if chk a = 0 then chk b else chk a) := by
  unfold clock_both.f
  refine Ev.bind (pCheck a ha) ?_
  split
  · exact Ev.bind (pCheck b hb) (Ev.now _)
  · exact Ev.now _
/-- of each replica the greater number, n of them -/
def maxN (a b : List Int) (n : Nat) : List Int := (List.range n).map fun i => max (at_ a i) (at_ b i)
theorem maxN_length (a b : List Int) (n : Nat) : (maxN a b n).length = n := by simp [maxN]
theorem maxN_succ (a b : List Int) (n : Nat) : maxN a b (n + 1) = maxN a b n ++ [max (at_ a n) (at_ b n)] := by simp [maxN, List.range_succ]
theorem maxN_zero (a b : List Int) (n : Nat) : maxN a b n ++ List.replicate 0 0 = maxN a b n := by simp
theorem pMerge_l0 (a b : List Int) (n : Nat) (hn : n ≤ 17592186044415) : ∀ (d i k : Nat), i + d = n → d + n + 1 < k →
    clock_Merge.l0 k a b (maxN a b i ++ List.replicate (n - i) 0) (n : Int) (i : Int) = some (trim (maxN a b n), 0) := by
  intro d
  induction d with
  | zero =>
    intro i k h hk
    obtain ⟨k, rfl⟩ : ∃ m, k = m + 1 := ⟨k - 1, by omega⟩
    obtain rfl : i = n := by omega
    simp only [clock_Merge.l0]
    rw [if_neg (by omega)]
    have ht := pTrim_l0 (maxN a b i) (by rw [maxN_length]; omega) (maxN a b i).length k (Nat.le_refl _) (by rw [maxN_length]; omega) (fun j h1 h2 => by omega)
    simp only [clock_Trim.f, Nat.sub_self, List.replicate_zero, List.append_nil]
    rw [ht]; rfl
  | succ d ih =>
    intro i k h hk
    obtain ⟨k, rfl⟩ : ∃ m, k = m + 1 := ⟨k - 1, by omega⟩
    simp only [clock_Merge.l0]
    rw [if_pos (by omega), pAt_nat, pAt_nat]
    simp only [Option.bind_some]
    rw [if_pos (by omega), if_pos (by simp [maxN_length]; omega), wrap_in (by omega) (by omega), step_nat, mx_max]
    have e : (maxN a b i ++ List.replicate (n - i) 0).set (i : Int).toNat (max (at_ a i) (at_ b i)) = maxN a b (i + 1) ++ List.replicate (n - (i + 1)) 0 := by
      rw [Int.toNat_natCast, List.set_append_right _ _ (by rw [maxN_length]; exact Nat.le_refl _), maxN_length, Nat.sub_self, show n - i = (n - (i + 1)) + 1 from by omega, List.replicate_succ, List.set_cons_zero, maxN_succ]
      simp
    rw [e]
    exact ih (i + 1) k (by omega) (by omega)
/-- what Merge tells -/
noncomputable def mrg (a b : List Int) : List Int × Int := if chk a = 0 then (if chk b = 0 then (trim (maxN a b (max a.length b.length)), 0) else ([], chk b)) else ([], chk a)
theorem pMerge (a b : List Int) (ha : a.length ≤ 17592186043904) (hb : b.length ≤ 17592186043904) : Ev (fun k => clock_Merge.f k a b) (mrg a b) := by
  have hm : mx (a.length : Int) (b.length : Int) = ((max a.length b.length : Nat) : Int) := by rw [mx_max]; omega
  unfold clock_Merge.f
  refine Ev.bind (pBoth a b ha hb) ?_
  unfold mrg
  by_cases h1 : chk a = 0
  · by_cases h2 : chk b = 0
    · simp only [if_pos h1, if_pos h2, if_true, hm]
      refine Ev.congr (f := fun k => clock_Merge.l0 k a b (maxN a b 0 ++ List.replicate (max a.length b.length - 0) 0) ((max a.length b.length : Nat) : Int) ((0 : Nat) : Int)) (fun k => ?_) ?_
      · rw [if_pos (by omega), if_pos (by omega)]
        simp [maxN]
      · exact ⟨2 * max a.length b.length + 2, fun k hk => pMerge_l0 a b (max a.length b.length) (by omega) (max a.length b.length) 0 k (by omega) (by omega)⟩
    · simp only [if_pos h1, if_neg h2]
      exact Ev.now _
  · simp only [if_neg h1]
    exact Ev.now _
theorem awake : Ev (fun k => topiarylaw02_awake.f k) true := Ev.of topiarylaw02_awake.mono (k := 20) (by decide +kernel)

theorem rCheck_l0 (xs : List Int) (hn : xs.length ≤ 17592186043904) : ∀ (d i k : Nat), i + d = xs.length → d < k →
    topiaryref02_Check.l0 k xs (i : Int) = some (chkL (xs.drop i)) := by
  intro d
  induction d with
  | zero =>
    intro i k h hk
    obtain ⟨k, rfl⟩ : ∃ m, k = m + 1 := ⟨k - 1, by omega⟩
    simp only [topiaryref02_Check.l0]
    rw [if_neg (by omega), List.drop_eq_nil_of_le (by omega)]; rfl
  | succ d ih =>
    intro i k h hk
    obtain ⟨k, rfl⟩ : ∃ m, k = m + 1 := ⟨k - 1, by omega⟩
    have hi : i < xs.length := by omega
    simp only [topiaryref02_Check.l0]
    rw [if_pos (by omega), if_pos (by omega), rd_get xs i hi, List.drop_eq_getElem_cons hi]
    simp only [chkL]
    split
    · rfl
    · split
      · rfl
      · rw [wrap_in (by omega) (by omega), step_nat]; exact ih (i + 1) k (by omega) (by omega)
theorem rCheck (xs : List Int) (hn : xs.length ≤ 17592186043904) : Ev (fun k => topiaryref02_Check.f k xs) (chk xs) := by
  refine ⟨xs.length + 1, fun k hk => ?_⟩
  simp only [topiaryref02_Check.f, chk]
  split
  · rfl
  · have := rCheck_l0 xs hn xs.length 0 k (by omega) (by omega); simpa using this

theorem rAt (xs : List Int) (i : Int) : topiaryref02_At.f xs i = some (if 0 ≤ i ∧ i < xs.length then rd xs i else 0) := by
  simp only [topiaryref02_At.f]
  by_cases h0 : i ≥ 0
  · rw [if_pos h0]
    by_cases h1 : i < (xs.length : Int)
    · rw [if_pos h1, if_pos (by omega), if_pos (by omega)]
    · rw [if_neg h1, if_neg (by omega)]
  · rw [if_neg h0, if_neg (by omega)]
theorem rAt_nat (xs : List Int) (i : Nat) : topiaryref02_At.f xs (i : Int) = some (at_ xs i) := by
  rw [rAt, ← pAt, pAt_nat]

theorem rTrim_both (xs : List Int) (hn : xs.length ≤ 17592186043904) : ∀ (d k : Nat),
    (∀ (i z : Nat) (out : List Int), 2 * (xs.length - i) + z = d → i ≤ xs.length → d < k → IsTrim out (xs.take i) → out.length + z = i → topiaryref02_Trim.l0 k xs out (z : Int) (i : Int) = some (trim xs)) ∧
    (∀ (i z : Nat) (out : List Int), 2 * (xs.length - i) + z = d + 1 → i < xs.length → d < k → at_ xs i ≠ 0 → out ++ List.replicate z 0 = xs.take i → topiaryref02_Trim.l1 k xs out (z : Int) (i : Int) = some (trim xs)) := by
  intro d
  induction d using Nat.strongRecOn with
  | _ d ih =>
    intro k
    refine ⟨fun i z out hd hi hk ht hz => ?_, fun i z out hd hi hk h0 hz => ?_⟩
    · obtain ⟨k, rfl⟩ : ∃ m, k = m + 1 := ⟨k - 1, by omega⟩
      simp only [topiaryref02_Trim.l0]
      by_cases hl : i < xs.length
      · rw [if_pos (by omega), if_pos (by omega), rd_get xs i hl]
        by_cases e : xs[i] = 0
        · rw [if_pos e, wrap_in (by omega) (by omega), wrap_in (by omega) (by omega), step_nat, step_nat]
          refine (ih (d - 1) (by omega) k).1 (i + 1) (z + 1) out (by omega) (by omega) (by omega) ?_ (by omega)
          rw [List.take_succ_eq_append_getElem hl, e]
          exact ht.pad 1
        · rw [if_neg e]
          refine (ih (d - 1) (by omega) k).2 i z out (by omega) hl (by omega) (by simpa [at_, List.getD_eq_getElem?_getD, hl] using e) ?_
          obtain ⟨⟨y, hy⟩, _⟩ := ht
          have := congrArg List.length hy
          simp at this
          rw [hy, show z = y from by omega]
      · rw [if_neg (by omega)]
        rw [List.take_of_length_le (by omega)] at ht
        rw [trim_eq ht]
    · obtain ⟨k, rfl⟩ : ∃ m, k = m + 1 := ⟨k - 1, by omega⟩
      have hlen := congrArg List.length hz
      simp at hlen
      simp only [topiaryref02_Trim.l1]
      cases z with
      | succ z =>
        rw [if_pos (by omega), if_pos (by omega), wrap_in (by omega) (by omega), show ((z + 1 : Nat) : Int) - 1 = (z : Int) from by omega]
        refine (ih (d - 1) (by omega) k).2 i z (out ++ [0]) (by omega) hi (by omega) h0 ?_
        rw [← hz, List.replicate_succ]; simp
      | zero =>
        rw [if_neg (by omega), if_pos (by omega), if_pos (by omega), if_pos (by omega), wrap_in (by omega) (by omega), step_nat, rd_get xs i hi]
        have ho : out = xs.take i := by simpa using hz
        refine (ih (d - 1) (by omega) k).1 (i + 1) 0 (out ++ [xs[i]]) (by omega) (by omega) (by omega) ?_ (by simp at hlen ⊢; omega)
        rw [List.take_succ_eq_append_getElem hi, ho]
        refine ⟨⟨0, by simp⟩, fun a r h => ?_⟩
        have := (List.append_inj' h rfl).2
        injection this with h2 _; rw [← h2]
        simpa [at_, List.getD_eq_getElem?_getD, hi] using h0
theorem rTrim (xs : List Int) (hn : xs.length ≤ 17592186043904) : Ev (fun k => topiaryref02_Trim.f k xs) (trim xs) :=
  ⟨2 * xs.length + 1, fun k hk => (rTrim_both xs hn (2 * xs.length) k).1 0 0 [] (by omega) (by omega) (by omega) ⟨⟨0, by simp⟩, fun a r h => by simp at h⟩ (by simp)⟩

theorem at_over (xs : List Int) (j : Nat) (h : xs.length ≤ j) : at_ xs j = 0 := by simp [at_, List.getD_eq_getElem?_getD, h]
theorem at_trim (xs : List Int) (j : Nat) : at_ (trim xs) j = at_ xs j := by
  obtain ⟨⟨z, h⟩, _⟩ := trim_is xs
  generalize trim xs = t at *
  subst h
  rcases Nat.lt_or_ge j t.length with g | g
  · simp [at_, List.getD_eq_getElem?_getD, List.getElem?_append_left g]
  · rw [at_over t j g]
    simp only [at_, List.getD_eq_getElem?_getD, List.getElem?_append_right g, List.getElem?_replicate]
    split <;> rfl
theorem trim_ext {xs ys : List Int} (h : ∀ j, at_ xs j = at_ ys j) : trim xs = trim ys := by
  have key : ∀ (xs ys : List Int), (∀ j, at_ xs j = at_ ys j) → (trim xs).length ≤ (trim ys).length → trim xs = trim ys := by
    intro xs ys h hl
    have hat : ∀ j, at_ (trim xs) j = at_ (trim ys) j := fun j => by rw [at_trim, at_trim, h]
    have h2 := (trim_is ys).2
    generalize trim xs = t at *
    generalize trim ys = u at *
    have hlen : t.length = u.length := by
      rcases Nat.lt_or_ge t.length u.length with g | g
      · rcases List.eq_nil_or_concat u with rfl | ⟨r, a, rfl⟩
        · simp at g
        · have := hat r.length
          rw [at_over t _ (by simp at g; omega)] at this
          have e : at_ (r ++ [a]) r.length = a := by simp [at_, List.getD_eq_getElem?_getD]
          rw [List.concat_eq_append, e] at this
          exact absurd this.symm (h2 a r (by simp))
      · omega
    refine List.ext_getElem hlen fun j h1 h3 => ?_
    have := hat j
    simpa [at_, List.getD_eq_getElem?_getD, h1, h3] using this
  rcases Nat.le_total (trim xs).length (trim ys).length with g | g
  · exact key xs ys h g
  · exact (key ys xs (fun j => (h j).symm) g).symm

theorem at_set (xs : List Int) (i j : Nat) (v : Int) : at_ (xs.set i v) j = if i = j ∧ j < xs.length then v else at_ xs j := by
  simp only [at_, List.getD_eq_getElem?_getD, List.getElem?_set]
  by_cases h : i = j
  · subst h
    by_cases h2 : i < xs.length <;> simp [h2]
  · simp [h]
theorem at_pad (xs : List Int) (n j : Nat) : at_ (xs ++ List.replicate n 0) j = at_ xs j := by
  rcases Nat.lt_or_ge j xs.length with g | g
  · simp [at_, List.getD_eq_getElem?_getD, List.getElem?_append_left g]
  · rw [at_over xs j g]
    simp only [at_, List.getD_eq_getElem?_getD, List.getElem?_append_right g, List.getElem?_replicate]
    split <;> rfl
/-- a clock with the number of the replica r one more, n numbers of it -/
def tickN (c : List Int) (r n : Nat) : List Int := (List.range n).map fun i => if i = r then at_ c i + 1 else at_ c i
theorem tickN_length (c : List Int) (r n : Nat) : (tickN c r n).length = n := by simp [tickN]
theorem tickN_succ (c : List Int) (r n : Nat) : tickN c r (n + 1) = tickN c r n ++ [if n = r then at_ c n + 1 else at_ c n] := by simp [tickN, List.range_succ]
theorem at_tickN (c : List Int) (r n j : Nat) : at_ (tickN c r n) j = if j < n then (if j = r then at_ c j + 1 else at_ c j) else 0 := by
  by_cases h : j < n
  · rw [if_pos h]; simp [at_, tickN, List.getD_eq_getElem?_getD, h]
  · rw [if_neg h, at_over _ _ (by rw [tickN_length]; omega)]
theorem at_range {xs : List Int} (h : chk xs = 0) (j : Nat) : 0 ≤ at_ xs j ∧ at_ xs j ≤ 1099511627776 := by
  rcases Nat.lt_or_ge j xs.length with g | g
  · exact (chk_ok h).2 _ (by simp [at_, List.getD_eq_getElem?_getD, g])
  · rw [at_over xs j g]; omega
/-- what Tick tells of a right clock and a replica -/
noncomputable def tck (c : List Int) (r : Nat) : List Int × Int := if at_ c r = 1099511627776 then ([], 6) else (trim (tickN c r 64), 0)
theorem pTick_j0 (c : List Int) (r : Nat) (hc : chk c = 0) (hr : r < 64) : Ev (fun k => clock_Tick.j0 k c (r : Int) false) (tck c r) := by
  have hl := (chk_ok hc).1
  have hat := at_range hc r
  have hw : wrap64 ((r : Int) + 1) = ((r + 1 : Nat) : Int) := by rw [wrap_in (by omega) (by omega)]; omega
  have hm : mx (c.length : Int) ((r + 1 : Nat) : Int) = ((max c.length (r + 1) : Nat) : Int) := by rw [mx_max]; omega
  refine Ev.step (f := fun k => if at_ c r = 1099511627776 then some (([] : List Int), 6) else (clock_Trim.f k ((c ++ List.replicate (max c.length (r + 1) - c.length) 0).set r (at_ c r + 1))).bind fun t => some (t, 0)) (fun k => ?_) ?_
  · rw [clock_Tick.j0, if_neg (by simp), pAt_nat]
    simp only [Option.bind_some, hw, hm]
    by_cases hf : at_ c r = 1099511627776
    · rw [if_pos hf, if_pos hf]
    · have e : c.take (min c.length (List.replicate (max c.length (r + 1)) (0 : Int)).length) ++ (List.replicate (max c.length (r + 1)) (0 : Int)).drop (min c.length (List.replicate (max c.length (r + 1)) (0 : Int)).length) = c ++ List.replicate (max c.length (r + 1) - c.length) 0 := by
        rw [List.length_replicate, Nat.min_eq_left (by omega), List.take_length, List.drop_replicate]
      rw [if_neg hf, if_neg hf, if_pos (by omega), if_pos (by omega), Int.toNat_natCast, e, if_pos (by omega), if_pos (by simp; omega)]
      have e2 : rd (c ++ List.replicate (max c.length (r + 1) - c.length) 0) (r : Int) = at_ c r := by
        have := at_pad c (max c.length (r + 1) - c.length) r
        simpa [rd, at_] using this
      rw [e2, wrap_in (by omega) (by omega), Int.toNat_natCast]
  · unfold tck
    by_cases hf : at_ c r = 1099511627776
    · simp only [if_pos hf]; exact Ev.now _
    · simp only [if_neg hf]
      have e : trim ((c ++ List.replicate (max c.length (r + 1) - c.length) 0).set r (at_ c r + 1)) = trim (tickN c r 64) := by
        refine trim_ext fun j => ?_
        rw [at_set, at_pad, at_tickN]
        simp only [List.length_append, List.length_replicate]
        by_cases h1 : r = j
        · subst h1
          rw [if_pos ⟨rfl, by omega⟩, if_pos hr, if_pos rfl]
        · rw [if_neg (by omega)]
          by_cases h2 : j < 64
          · rw [if_pos h2, if_neg (fun h => h1 h.symm)]
          · rw [if_neg h2, at_over c j (by omega)]
      rw [← e]
      exact Ev.bind (pTrim _ (by simp; omega)) (Ev.now _)
theorem rTick_l0 (c : List Int) (r : Nat) (hc : chk c = 0) : ∀ (d i k : Nat), i + d = 64 → d + 200 < k →
    topiaryref02_Tick.l0 k c (r : Int) (tickN c r i) (i : Int) = some (trim (tickN c r 64), 0) := by
  intro d
  induction d with
  | zero =>
    intro i k h hk
    obtain ⟨k, rfl⟩ : ∃ m, k = m + 1 := ⟨k - 1, by omega⟩
    obtain rfl : i = 64 := by omega
    simp only [topiaryref02_Tick.l0]
    rw [if_neg (by omega)]
    have ht := (rTrim_both (tickN c r 64) (by rw [tickN_length]; omega) (2 * (tickN c r 64).length) k).1 0 0 [] (by omega) (by omega) (by rw [tickN_length]; omega) ⟨⟨0, by simp⟩, fun a r h => by simp at h⟩ (by simp)
    simp only [topiaryref02_Trim.f]
    have ht' : topiaryref02_Trim.l0 k (tickN c r 64) [] 0 0 = some (trim (tickN c r 64)) := ht
    rw [ht']; rfl
  | succ d ih =>
    intro i k h hk
    obtain ⟨k, rfl⟩ : ∃ m, k = m + 1 := ⟨k - 1, by omega⟩
    have hat := at_range hc i
    have hl := tickN_length c r i
    have hs := ih (i + 1) k (by omega) (by omega)
    rw [tickN_succ] at hs
    simp only [topiaryref02_Tick.l0]
    rw [if_pos (by omega), rAt_nat]
    simp only [Option.bind_some]
    rw [wrap_in (n := at_ c i + 1) (by omega) (by omega), wrap_in (n := (i : Int) + 1) (by omega) (by omega), step_nat]
    by_cases e : i = r
    · rw [if_pos (by omega), if_pos (by omega)]
      rw [if_pos e] at hs; exact hs
    · rw [if_neg (by omega), if_pos (by omega)]
      rw [if_neg e] at hs; exact hs
theorem rTick_j0 (c : List Int) (r : Nat) (hc : chk c = 0) (hr : r < 64) : Ev (fun k => topiaryref02_Tick.j0 k c (r : Int) false) (tck c r) := by
  refine Ev.step (f := fun k => if at_ c r = 1099511627776 then some (([] : List Int), 6) else topiaryref02_Tick.l0 k c (r : Int) [] 0) (fun k => ?_) ?_
  · rw [topiaryref02_Tick.j0, if_neg (by simp), rAt_nat]; rfl
  · unfold tck
    by_cases hf : at_ c r = 1099511627776
    · simp only [if_pos hf]; exact Ev.now _
    · simp only [if_neg hf]
      exact ⟨300, fun k hk => rTick_l0 c r hc 64 0 k (by omega) (by omega)⟩
/-- what Tick tells -/
noncomputable def tickAll (c : List Int) (a : Int) : List Int × Int := if chk c = 0 then (if a < 0 ∨ a ≥ 64 then ([], 1) else tck c a.toNat) else ([], chk c)
theorem pTick (c : List Int) (a : Int) (hn : c.length ≤ 17592186043904) : Ev (fun k => clock_Tick.f k c a) (tickAll c a) := by
  unfold clock_Tick.f tickAll
  refine Ev.bind (pCheck c hn) ?_
  by_cases hc : chk c = 0
  · simp only [if_pos hc]
    by_cases h1 : a < 0
    · simp only [if_pos h1, if_pos (Or.inl h1)]
      exact Ev.step (f := fun _ => some (([] : List Int), 1)) (fun k => by rw [clock_Tick.j0, if_pos rfl]) (Ev.now _)
    · simp only [if_neg h1]
      by_cases h2 : a ≥ 64
      · simp only [decide_eq_true h2, if_pos (Or.inr h2)]
        exact Ev.step (f := fun _ => some (([] : List Int), 1)) (fun k => by rw [clock_Tick.j0, if_pos rfl]) (Ev.now _)
      · simp only [decide_eq_false h2, if_neg (show ¬ (a < 0 ∨ a ≥ 64) by omega)]
        have := pTick_j0 c a.toNat hc (by omega)
        rw [show ((a.toNat : Nat) : Int) = a by omega] at this
        exact this
  · simp only [if_neg hc]; exact Ev.now _
theorem rTick (c : List Int) (a : Int) (hn : c.length ≤ 17592186043904) : Ev (fun k => topiaryref02_Tick.f k c a) (tickAll c a) := by
  unfold topiaryref02_Tick.f tickAll
  refine Ev.bind (rCheck c hn) ?_
  by_cases hc : chk c = 0
  · simp only [if_pos hc]
    by_cases h1 : a < 0
    · simp only [if_pos h1, if_pos (Or.inl h1)]
      exact Ev.step (f := fun _ => some (([] : List Int), 1)) (fun k => by rw [topiaryref02_Tick.j0, if_pos rfl]) (Ev.now _)
    · simp only [if_neg h1]
      by_cases h2 : a ≥ 64
      · simp only [decide_eq_true h2, if_pos (Or.inr h2)]
        exact Ev.step (f := fun _ => some (([] : List Int), 1)) (fun k => by rw [topiaryref02_Tick.j0, if_pos rfl]) (Ev.now _)
      · simp only [decide_eq_false h2, if_neg (show ¬ (a < 0 ∨ a ≥ 64) by omega)]
        have := rTick_j0 c a.toNat hc (by omega)
        rw [show ((a.toNat : Nat) : Int) = a by omega] at this
        exact this
  · simp only [if_neg hc]
    exact Ev.bind (rCheck c hn) (Ev.now _)
theorem tickAll_len (c : List Int) (a : Int) : (tickAll c a).1.length ≤ 64 := by
  unfold tickAll
  split
  · split
    · simp
    · unfold tck
      split
      · simp
      · have := (trim_is (tickN c a.toNat 64)).length_le
        rw [tickN_length] at this; exact this
  · simp
theorem ClockTicks : topiarylaw02_ClockTicks.Pure := by
  intro c a a1 a2 a3 a4
  have hn : c.length ≤ 17592186043904 := by omega
  refine Ev.rounds ?_
  unfold topiarylaw02_ClockTicks.f
  refine Ev.bind (pTick c a hn) (Ev.bind (rTick c a hn) ?_)
  simp only [if_true]
  refine Ev.bind (rSame _ _ (by have := tickAll_len c a; omega)) ?_
  simp only [decide_true, if_true]
  exact Ev.bind awake (Ev.now _)

end Go.Proofs.Ytbnhjkcpecilbaa.Pure
