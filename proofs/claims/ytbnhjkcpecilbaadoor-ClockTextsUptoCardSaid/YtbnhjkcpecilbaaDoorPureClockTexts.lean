/- a clock's text, and the clock of any text: the program and the reference tell the same, for all lists of numbers and all texts of at most 1048576 bytes. No condition. -/
import Derived.Test.YtbnhjkcpecilbaaDoorQClockTextsx4
namespace Go.Proofs.YtbnhjkcpecilbaaDoor.Pure
open Go.RowKit Go.Proofs.YtbnhjkcpecilbaaDoor.QClockTexts Go.Proofs.YtbnhjkcpecilbaaDoorW.PrintWords Go.Proofs.YtbnhjkcpecilbaaDoorW.PrintLast
set_option linter.unusedVariables false
set_option linter.unusedSimpArgs false
theorem wrap_in {n : Int} (h0 : -9223372036854775808 ≤ n) (h1 : n ≤ 9223372036854775807) : wrap64 n = n := by unfold wrap64; omega
theorem step_nat (i : Nat) : (i : Int) + 1 = ((i + 1 : Nat) : Int) := by omega
theorem rd_get (xs : List Int) (i : Nat) (h : i < xs.length) : rd xs (i : Int) = xs[i] := by simp [rd, List.getD_eq_getElem?_getD, h]
theorem mx_max (a b : Int) : mx a b = max a b := by unfold mx; omega

/-- the first number that is out of its range -/
def chkL : List Int → Int
  | [] => 0
  | x :: r => if x < 0 then 1 else if x > 1099511627776 then 1 else chkL r
def chk (xs : List Int) : Int := if (xs.length : Int) > 64 then 3 else chkL xs
theorem chkL_ok : ∀ (xs : List Int), chkL xs = 0 → ∀ x ∈ xs, 0 ≤ x ∧ x ≤ 1099511627776
  | [], _, x, hx => by simp at hx
  | y :: r, h, x, hx => by
    simp only [chkL] at h
    split at h
    · omega
    · split at h
      · omega
      · rcases List.mem_cons.1 hx with rfl | hx
        · omega
        · exact chkL_ok r h x hx
theorem chk_ok {xs : List Int} (h : chk xs = 0) : xs.length ≤ 64 ∧ ∀ x ∈ xs, 0 ≤ x ∧ x ≤ 1099511627776 := by
  unfold chk at h
  split at h
  · omega
  · exact ⟨by omega, chkL_ok xs h⟩

theorem pCheck_l0 (xs : List Int) (hn : xs.length ≤ 17592186043904) : ∀ (d i k : Nat), i + d = xs.length → d < k →
    clock_Check.l0 k xs (xs.length : Int) (i : Int) = some (chkL (xs.drop i)) := by
  intro d
  induction d with
  | zero =>
    intro i k h hk
    obtain ⟨k, rfl⟩ : ∃ m, k = m + 1 := ⟨k - 1, by omega⟩
    simp only [clock_Check.l0]
    rw [if_neg (by omega), List.drop_eq_nil_of_le (by omega)]; rfl
  | succ d ih =>
    intro i k h hk
    obtain ⟨k, rfl⟩ : ∃ m, k = m + 1 := ⟨k - 1, by omega⟩
    have hi : i < xs.length := by omega
    simp only [clock_Check.l0]
    rw [if_pos (by omega), if_pos (by omega), if_pos (by omega), rd_get xs i hi, List.drop_eq_getElem_cons hi]
    simp only [chkL]
    split
    · rfl
    · split
      · rfl
      · rw [wrap_in (by omega) (by omega), step_nat]; exact ih (i + 1) k (by omega) (by omega)
theorem pCheck (xs : List Int) (hn : xs.length ≤ 17592186043904) : Ev (fun k => clock_Check.f k xs) (chk xs) := by
  refine ⟨xs.length + 1, fun k hk => ?_⟩
  simp only [clock_Check.f, chk]
  split
  · rfl
  · have := pCheck_l0 xs hn xs.length 0 k (by omega) (by omega); simpa using this

theorem pAt (xs : List Int) (i : Int) : clock_At.f xs i = some (if 0 ≤ i ∧ i < xs.length then rd xs i else 0) := by
  simp only [clock_At.f]
  by_cases h0 : i < 0
  · rw [if_pos h0, if_neg (by omega)]
  · rw [if_neg h0]
    by_cases h1 : i ≥ (xs.length : Int)
    · rw [if_pos h1, if_neg (by omega)]
    · rw [if_neg h1, if_pos (by omega), if_pos (by omega), if_pos (by omega)]
/-- a replica's number -/
def at_ (xs : List Int) (i : Nat) : Int := xs.getD i 0
theorem pAt_nat (xs : List Int) (i : Nat) : clock_At.f xs (i : Int) = some (at_ xs i) := by
  rw [pAt]; congr 1
  by_cases h : i < xs.length
  · rw [if_pos (by omega)]; simp [rd, at_]
  · rw [if_neg (by omega)]; simp [at_, List.getD_eq_getElem?_getD, h]

theorem rSame_l0 (xs ys : List Int) (hl : xs.length = ys.length) (hn : xs.length ≤ 17592186044416) : ∀ (d i k : Nat), i + d = xs.length → d < k →
    topiaryref02_Same.l0 k xs ys (i : Int) = some (decide (xs.drop i = ys.drop i)) := by
  intro d
  induction d with
  | zero =>
    intro i k h hk
    obtain ⟨k, rfl⟩ : ∃ m, k = m + 1 := ⟨k - 1, by omega⟩
    simp only [topiaryref02_Same.l0]
    rw [if_neg (by omega), List.drop_eq_nil_of_le (by omega), List.drop_eq_nil_of_le (by omega)]; rfl
  | succ d ih =>
    intro i k h hk
    obtain ⟨k, rfl⟩ : ∃ m, k = m + 1 := ⟨k - 1, by omega⟩
    have hi : i < xs.length := by omega
    have hj : i < ys.length := by omega
    simp only [topiaryref02_Same.l0]
    rw [if_pos (by omega), if_pos (by omega), if_pos (by omega), rd_get xs i hi, rd_get ys i hj, List.drop_eq_getElem_cons hi, List.drop_eq_getElem_cons hj]
    by_cases e : xs[i] = ys[i]
    · rw [if_pos e, wrap_in (by omega) (by omega), step_nat, ih (i + 1) k (by omega) (by omega), e]
      exact congrArg some (by rw [decide_eq_decide]; simp only [List.cons.injEq, true_and])
    · rw [if_neg e]
      exact congrArg some (decide_eq_false (by simp only [List.cons.injEq, e, false_and, not_false_eq_true])).symm
theorem rSame (xs ys : List Int) (hn : xs.length ≤ 17592186044416) : Ev (fun k => topiaryref02_Same.f k xs ys) (decide (xs = ys)) := by
  refine ⟨xs.length + 1, fun k hk => ?_⟩
  simp only [topiaryref02_Same.f]
  split
  · rename_i e
    have := rSame_l0 xs ys (by omega) hn xs.length 0 k (by omega) (by omega); simpa using this
  · rename_i e
    have : xs ≠ ys := fun h => e (by rw [h])
    simp [this]

/-- t is the list without the noughts at its end -/
def IsTrim (t xs : List Int) : Prop := (∃ z, xs = t ++ List.replicate z 0) ∧ ∀ a r, t = r ++ [a] → a ≠ 0
theorem IsTrim.unique : ∀ {xs t u : List Int}, IsTrim t xs → IsTrim u xs → t = u := by
  have key : ∀ (xs t u : List Int), IsTrim t xs → IsTrim u xs → t.length ≤ u.length → t = u := by
    intro xs t u ⟨⟨z, h⟩, ht⟩ ⟨⟨y, g⟩, hu⟩ hl
    have e : u = t ++ List.replicate (z - y) 0 := by
      have hlen := congrArg List.length h
      have hlen' := congrArg List.length g
      simp at hlen hlen'
      have e1 : xs.take u.length = u := by rw [g]; simp
      have e2 : xs.take u.length = t ++ List.replicate (z - y) 0 := by
        rw [h, List.take_append, List.take_of_length_le hl, List.take_replicate]
        congr 2; omega
      rw [← e1, e2]
    cases hz : z - y with
    | zero => rw [hz] at e; simpa using e.symm
    | succ m =>
      rw [hz, List.replicate_succ', ← List.append_assoc] at e
      exact absurd rfl (hu 0 _ e)
  intro xs t u h g
  rcases Nat.le_total t.length u.length with hl | hl
  · exact key xs t u h g hl
  · exact (key xs u t g h hl).symm
theorem IsTrim.length_le {t xs : List Int} (h : IsTrim t xs) : t.length ≤ xs.length := by
  obtain ⟨⟨z, rfl⟩, _⟩ := h; simp
theorem IsTrim.pad {t xs : List Int} (h : IsTrim t xs) (n : Nat) : IsTrim t (xs ++ List.replicate n 0) := by
  obtain ⟨⟨z, rfl⟩, h2⟩ := h
  exact ⟨⟨z + n, by rw [List.append_assoc, List.replicate_append_replicate]⟩, h2⟩
theorem IsTrim.exists : ∀ xs : List Int, ∃ t, IsTrim t xs := by
  intro xs
  induction hn : xs.length using Nat.strongRecOn generalizing xs with
  | _ n ih =>
    rcases List.eq_nil_or_concat xs with rfl | ⟨r, a, rfl⟩
    · exact ⟨[], ⟨⟨0, rfl⟩, fun a r h => by simp at h⟩⟩
    · by_cases ha : a = 0
      · obtain ⟨t, ht⟩ := ih r.length (by simp at hn; omega) r rfl
        exact ⟨t, by have := ht.pad 1; simpa [ha] using this⟩
      · exact ⟨r ++ [a], ⟨⟨0, by simp⟩, fun b s h => by
          have := List.append_inj' h rfl
          have h2 := this.2; injection h2 with h2 _; rw [← h2]; exact ha⟩⟩
noncomputable def trim (xs : List Int) : List Int := (IsTrim.exists xs).choose
theorem trim_is (xs : List Int) : IsTrim (trim xs) xs := (IsTrim.exists xs).choose_spec
theorem trim_eq {t xs : List Int} (h : IsTrim t xs) : t = trim xs := h.unique (trim_is xs)

theorem pTrim_l0 (xs : List Int) (hn : xs.length ≤ 17592186044415) : ∀ (n k : Nat), n ≤ xs.length → n < k → (∀ j, n ≤ j → j < xs.length → at_ xs j = 0) →
    clock_Trim.l0 k xs (n : Int) = some (trim xs) := by
  intro n
  induction n with
  | zero =>
    intro k _ hk hz
    obtain ⟨k, rfl⟩ : ∃ m, k = m + 1 := ⟨k - 1, by omega⟩
    simp only [clock_Trim.l0]
    rw [if_neg (by omega)]
    simp only [Option.bind_some]
    rw [if_pos (by omega), if_pos (by omega), if_pos (by simp)]
    refine congrArg some (trim_eq ?_)
    show IsTrim [] xs
    refine ⟨⟨xs.length, ?_⟩, fun a r h => by simp at h⟩
    refine List.ext_getElem (by simp) fun j h1 h2 => ?_
    have := hz j (by omega) h1
    simpa [at_, List.getD_eq_getElem?_getD, h1] using this
  | succ n ih =>
    intro k hl hk hz
    obtain ⟨k, rfl⟩ : ∃ m, k = m + 1 := ⟨k - 1, by omega⟩
    have hi : n < xs.length := by omega
    have hw : wrap64 (((n + 1 : Nat) : Int) - 1) = (n : Int) := by rw [wrap_in (by omega) (by omega)]; omega
    simp only [clock_Trim.l0, hw]
    rw [if_pos (by omega), if_pos (by omega), if_pos (by omega), rd_get xs n hi]
    by_cases e : xs[n] = 0
    · rw [if_pos e]
      refine ih k (by omega) (by omega) fun j h1 h2 => ?_
      rcases Nat.lt_or_ge n j with h | h
      · exact hz j (by omega) h2
      · have : j = n := by omega
        subst this; simpa [at_, List.getD_eq_getElem?_getD, h2] using e
    · rw [if_neg e]
      simp only [Option.bind_some]
      rw [if_pos (by omega), if_pos (by omega), if_pos (by simp; omega)]
      congr 1
      refine trim_eq ⟨⟨xs.length - (n + 1), ?_⟩, fun a r h => ?_⟩
      · have e1 : xs.drop (n + 1) = List.replicate (xs.length - (n + 1)) 0 := by
          refine List.ext_getElem (by simp) fun j h1 h2 => ?_
          simp at h1
          have := hz (n + 1 + j) (by omega) (by omega)
          have h3 : n + 1 + j < xs.length := by omega
          simpa [at_, List.getD_eq_getElem?_getD, h3] using this
        rw [← e1, Int.toNat_natCast]; simp
      · simp only [Int.toNat_natCast, List.nil_append] at h
        rw [List.take_succ_eq_append_getElem hi] at h
        have := (List.append_inj' h rfl).2
        injection this with h2 _; rw [← h2]; exact e
theorem pTrim (xs : List Int) (hn : xs.length ≤ 17592186044415) : Ev (fun k => clock_Trim.f k xs) (trim xs) :=
  ⟨xs.length + 1, fun k hk => pTrim_l0 xs hn xs.length k (Nat.le_refl _) (by omega) (fun j h1 h2 => by omega)⟩

theorem pBoth (a b : List Int) (ha : a.length ≤ 17592186043904) (hb : b.length ≤ 17592186043904) : Ev (fun k => clock_both.f k a b) (if chk a = 0 then chk b else chk a) := by
  unfold clock_both.f
  refine Ev.bind (pCheck a ha) ?_
  split
  · exact Ev.bind (pCheck b hb) (Ev.now _)
  · exact Ev.now _
/-- of each replica the greater number, n of them -/
def maxN (a b : List Int) (n : Nat) : List Int := (List.range n).map fun i => max (at_ a i) (at_ b i)
theorem maxN_length (a b : List Int) (n : Nat) : (maxN a b n).length = n := by simp [maxN]
theorem maxN_succ (a b : List Int) (n : Nat) : maxN a b (n + 1) = maxN a b n ++ [max (at_ a n) (at_ b n)] := by simp [maxN, List.range_succ]
theorem maxN_zero (a b : List Int) (n : Nat) : maxN a b n ++ List.replicate 0 0 = maxN a b n := by simp
theorem pMerge_l0 (a b : List Int) (n : Nat) (hn : n ≤ 17592186044415) : ∀ (d i k : Nat), i + d = n → d + n + 1 < k →
    clock_Merge.l0 k a b (maxN a b i ++ List.replicate (n - i) 0) (n : Int) (i : Int) = some (trim (maxN a b n), 0) := by
  intro d
  induction d with
  | zero =>
    intro i k h hk
    obtain ⟨k, rfl⟩ : ∃ m, k = m + 1 := ⟨k - 1, by omega⟩
    obtain rfl : i = n := by omega
    simp only [clock_Merge.l0]
    rw [if_neg (by omega)]
    have ht := pTrim_l0 (maxN a b i) (by rw [maxN_length]; omega) (maxN a b i).length k (Nat.le_refl _) (by rw [maxN_length]; omega) (fun j h1 h2 => by omega)
    simp only [clock_Trim.f, Nat.sub_self, List.replicate_zero, List.append_nil]
    rw [ht]; rfl
  | succ d ih =>
    intro i k h hk
    obtain ⟨k, rfl⟩ : ∃ m, k = m + 1 := ⟨k - 1, by omega⟩
    simp only [clock_Merge.l0]
    rw [if_pos (by omega), pAt_nat, pAt_nat]
    simp only [Option.bind_some]
    rw [if_pos (by omega), if_pos (by simp [maxN_length]; omega), wrap_in (by omega) (by omega), step_nat, mx_max]
    have e : (maxN a b i ++ List.replicate (n - i) 0).set (i : Int).toNat (max (at_ a i) (at_ b i)) = maxN a b (i + 1) ++ List.replicate (n - (i + 1)) 0 := by
      rw [Int.toNat_natCast, List.set_append_right _ _ (by rw [maxN_length]; exact Nat.le_refl _), maxN_length, Nat.sub_self, show n - i = (n - (i + 1)) + 1 from by omega, List.replicate_succ, List.set_cons_zero, maxN_succ]
      simp
    rw [e]
    exact ih (i + 1) k (by omega) (by omega)
/-- what Merge tells -/
noncomputable def mrg (a b : List Int) : List Int × Int := if chk a = 0 then (if chk b = 0 then (trim (maxN a b (max a.length b.length)), 0) else ([], chk b)) else ([], chk a)
theorem pMerge (a b : List Int) (ha : a.length ≤ 17592186043904) (hb : b.length ≤ 17592186043904) : Ev (fun k => clock_Merge.f k a b) (mrg a b) := by
  have hm : mx (a.length : Int) (b.length : Int) = ((max a.length b.length : Nat) : Int) := by rw [mx_max]; omega
  unfold clock_Merge.f
  refine Ev.bind (pBoth a b ha hb) ?_
  unfold mrg
  by_cases h1 : chk a = 0
  · by_cases h2 : chk b = 0
    · simp only [if_pos h1, if_pos h2, if_true, hm]
      refine Ev.congr (f := fun k => clock_Merge.l0 k a b (maxN a b 0 ++ List.replicate (max a.length b.length - 0) 0) ((max a.length b.length : Nat) : Int) ((0 : Nat) : Int)) (fun k => ?_) ?_
      · rw [if_pos (by omega), if_pos (by omega)]
        simp [maxN]
      · exact ⟨2 * max a.length b.length + 2, fun k hk => pMerge_l0 a b (max a.length b.length) (by omega) (max a.length b.length) 0 k (by omega) (by omega)⟩
    · simp only [if_pos h1, if_neg h2]
      exact Ev.now _
  · simp only [if_neg h1]
    exact Ev.now _
theorem awake : Ev (fun k => topiarylaw02_awake.f k) true := Ev.of topiarylaw02_awake.mono (k := 20) (by decide +kernel)

theorem rCheck_l0 (xs : List Int) (hn : xs.length ≤ 17592186043904) : ∀ (d i k : Nat), i + d = xs.length → d < k →
    topiaryref02_Check.l0 k xs (i : Int) = some (chkL (xs.drop i)) := by
  intro d
  induction d with
  | zero =>
    intro i k h hk
    obtain ⟨k, rfl⟩ : ∃ m, k = m + 1 := ⟨k - 1, by omega⟩
    simp only [topiaryref02_Check.l0]
    rw [if_neg (by omega), List.drop_eq_nil_of_le (by omega)]; rfl
  | succ d ih =>
    intro i k h hk
    obtain ⟨k, rfl⟩ : ∃ m, k = m + 1 := ⟨k - 1, by omega⟩
    have hi : i < xs.length := by omega
    simp only [topiaryref02_Check.l0]
    rw [if_pos (by omega), if_pos (by omega), rd_get xs i hi, List.drop_eq_getElem_cons hi]
    simp only [chkL]
    split
    · rfl
    · split
      · rfl
      · rw [wrap_in (by omega) (by omega), step_nat]; exact ih (i + 1) k (by omega) (by omega)
theorem rCheck (xs : List Int) (hn : xs.length ≤ 17592186043904) : Ev (fun k => topiaryref02_Check.f k xs) (chk xs) := by
  refine ⟨xs.length + 1, fun k hk => ?_⟩
  simp only [topiaryref02_Check.f, chk]
  split
  · rfl
  · have := rCheck_l0 xs hn xs.length 0 k (by omega) (by omega); simpa using this

theorem rTrim_both (xs : List Int) (hn : xs.length ≤ 17592186043904) : ∀ (d k : Nat),
    (∀ (i z : Nat) (out : List Int), 2 * (xs.length - i) + z = d → i ≤ xs.length → d < k → IsTrim out (xs.take i) → out.length + z = i → topiaryref02_Trim.l0 k xs out (z : Int) (i : Int) = some (trim xs)) ∧
    (∀ (i z : Nat) (out : List Int), 2 * (xs.length - i) + z = d + 1 → i < xs.length → d < k → at_ xs i ≠ 0 → out ++ List.replicate z 0 = xs.take i → topiaryref02_Trim.l1 k xs out (z : Int) (i : Int) = some (trim xs)) := by
  intro d
  induction d using Nat.strongRecOn with
  | _ d ih =>
    intro k
    refine ⟨fun i z out hd hi hk ht hz => ?_, fun i z out hd hi hk h0 hz => ?_⟩
    · obtain ⟨k, rfl⟩ : ∃ m, k = m + 1 := ⟨k - 1, by omega⟩
      simp only [topiaryref02_Trim.l0]
      by_cases hl : i < xs.length
      · rw [if_pos (by omega), if_pos (by omega), rd_get xs i hl]
        by_cases e : xs[i] = 0
        · rw [if_pos e, wrap_in (by omega) (by omega), wrap_in (by omega) (by omega), step_nat, step_nat]
          refine (ih (d - 1) (by omega) k).1 (i + 1) (z + 1) out (by omega) (by omega) (by omega) ?_ (by omega)
          rw [List.take_succ_eq_append_getElem hl, e]
          exact ht.pad 1
        · rw [if_neg e]
          refine (ih (d - 1) (by omega) k).2 i z out (by omega) hl (by omega) (by simpa [at_, List.getD_eq_getElem?_getD, hl] using e) ?_
          obtain ⟨⟨y, hy⟩, _⟩ := ht
          have := congrArg List.length hy
          simp at this
          rw [hy, show z = y from by omega]
      · rw [if_neg (by omega)]
        rw [List.take_of_length_le (by omega)] at ht
        rw [trim_eq ht]
    · obtain ⟨k, rfl⟩ : ∃ m, k = m + 1 := ⟨k - 1, by omega⟩
      have hlen := congrArg List.length hz
      simp at hlen
      simp only [topiaryref02_Trim.l1]
      cases z with
      | succ z =>
        rw [if_pos (by omega), if_pos (by omega), wrap_in (by omega) (by omega), show ((z + 1 : Nat) : Int) - 1 = (z : Int) from by omega]
        refine (ih (d - 1) (by omega) k).2 i z (out ++ [0]) (by omega) hi (by omega) h0 ?_
        rw [← hz, List.replicate_succ]; simp
      | zero =>
        rw [if_neg (by omega), if_pos (by omega), if_pos (by omega), if_pos (by omega), wrap_in (by omega) (by omega), step_nat, rd_get xs i hi]
        have ho : out = xs.take i := by simpa using hz
        refine (ih (d - 1) (by omega) k).1 (i + 1) 0 (out ++ [xs[i]]) (by omega) (by omega) (by omega) ?_ (by simp at hlen ⊢; omega)
        rw [List.take_succ_eq_append_getElem hi, ho]
        refine ⟨⟨0, by simp⟩, fun a r h => ?_⟩
        have := (List.append_inj' h rfl).2
        injection this with h2 _; rw [← h2]
        simpa [at_, List.getD_eq_getElem?_getD, hi] using h0
theorem rTrim (xs : List Int) (hn : xs.length ≤ 17592186043904) : Ev (fun k => topiaryref02_Trim.f k xs) (trim xs) :=
  ⟨2 * xs.length + 1, fun k hk => (rTrim_both xs hn (2 * xs.length) k).1 0 0 [] (by omega) (by omega) (by omega) ⟨⟨0, by simp⟩, fun a r h => by simp at h⟩ (by simp)⟩

/-! numerals, as lists of bytes -/
def isD (x : UInt8) : Bool := decide (48 ≤ x.toNat) && decide (x.toNat ≤ 57)
/-- The number that goes on from n by these digits, if all are digits. -/
def res : Nat → List UInt8 → Option Nat
  | n, [] => some n
  | n, x :: l => if isD x = true then res (10 * n + (x.toNat - 48)) l else none
theorem res_append : ∀ (l m : List UInt8) (n : Nat), res n (l ++ m) = (res n l).bind fun k => res k m
  | [], m, n => rfl
  | x :: l, m, n => by
    simp only [List.cons_append, res]
    split
    · exact res_append l m _
    · rfl
theorem toNat_of {n : Nat} (h : n < 10) : (UInt8.ofNat (48 + n)).toNat = 48 + n := by
  rw [UInt8.toNat_ofNat']; omega
theorem isD_of {n : Nat} (h : n < 10) : isD (UInt8.ofNat (48 + n)) = true := by
  unfold isD; rw [toNat_of h]; simp; omega
theorem of_isD {x : UInt8} (h : isD x = true) : UInt8.ofNat (48 + (x.toNat - 48)) = x ∧ x.toNat - 48 < 10 := by
  unfold isD at h
  simp only [Bool.and_eq_true, decide_eq_true_eq] at h
  refine ⟨?_, by omega⟩
  rw [show 48 + (x.toNat - 48) = x.toNat from by omega]
  exact UInt8.ofNat_toNat
/-- The one form of a numeral: not empty, no nought ahead. -/
def canon (l : List UInt8) : Prop := l ≠ [] ∧ (l.length = 1 ∨ l.head? ≠ some 48)
theorem dec_small {u : Nat} (h : u < 10) : Lib.decDigits u = [UInt8.ofNat (48 + u)] := by rw [Lib.decDigits, dif_pos h]
theorem dec_big {u : Nat} (h : ¬ u < 10) : Lib.decDigits u = Lib.decDigits (u / 10) ++ [UInt8.ofNat (48 + u % 10)] := by rw [Lib.decDigits, dif_neg h]
theorem dec_res : ∀ (u : Nat), res 0 (Lib.decDigits u) = some u := by
  intro u
  induction u using Nat.strongRecOn with
  | _ u ih =>
    by_cases h : u < 10
    · rw [dec_small h]
      simp only [res, isD_of h, if_true, toNat_of h]
      congr 1; omega
    · rw [dec_big h, res_append, ih (u / 10) (by omega)]
      simp only [Option.bind_some, res, isD_of (show u % 10 < 10 by omega), if_true, toNat_of (show u % 10 < 10 by omega)]
      congr 1; omega
theorem dec_ne (u : Nat) : Lib.decDigits u ≠ [] := by
  by_cases h : u < 10
  · rw [dec_small h]; simp
  · rw [dec_big h]; simp
theorem dec_head : ∀ (u : Nat), 1 ≤ u → (Lib.decDigits u).head? ≠ some 48 := by
  intro u
  induction u using Nat.strongRecOn with
  | _ u ih =>
    intro h1
    by_cases h : u < 10
    · rw [dec_small h]
      simp only [List.head?_cons, ne_eq, Option.some.injEq]
      intro he
      have := congrArg UInt8.toNat he
      rw [toNat_of h] at this
      simp at this
      omega
    · rw [dec_big h]
      have hi := ih (u / 10) (by omega) (by omega)
      rcases hd : Lib.decDigits (u / 10) with _ | ⟨y, m⟩
      · exact absurd hd (dec_ne _)
      · rw [hd] at hi; simpa using hi
theorem dec_canon (u : Nat) : canon (Lib.decDigits u) := by
  refine ⟨dec_ne u, ?_⟩
  by_cases h : u < 10
  · left; rw [dec_small h]; rfl
  · right; exact dec_head u (by omega)
theorem dec_length : ∀ (n u : Nat), 1 ≤ n → u < 10 ^ n → (Lib.decDigits u).length ≤ n := by
  intro n
  induction n with
  | zero => intro u h; omega
  | succ n ih =>
    intro u _ hu
    by_cases h : u < 10
    · rw [dec_small h]; simp
    · rw [dec_big h]
      have hn : 1 ≤ n := by
        rcases n with _ | n
        · simp at hu; omega
        · omega
      have := ih (u / 10) hn (by rw [Nat.pow_succ] at hu; omega)
      simp; omega
theorem res_le : ∀ (l : List UInt8) (n v : Nat), res n l = some v → n ≤ v
  | [], n, v, h => by simp only [res, Option.some.injEq] at h; omega
  | x :: l, n, v, h => by
    simp only [res] at h
    split at h
    · have := res_le l _ v h; omega
    · cases h
/-- A numeral in its one form is the numeral of its number. -/
theorem dec_of_res : ∀ (k : Nat) (l : List UInt8) (v : Nat), l.length = k → canon l → res 0 l = some v → Lib.decDigits v = l := by
  intro k
  induction k with
  | zero => intro l v hl hc; exact absurd (List.eq_nil_of_length_eq_zero hl) hc.1
  | succ k ih =>
    intro l v hl hc hv
    obtain ⟨m, x, rfl⟩ : ∃ m x, l = m ++ [x] := ⟨l.dropLast, l.getLast hc.1, (List.dropLast_concat_getLast hc.1).symm⟩
    rw [res_append] at hv
    obtain ⟨q, hq, hz⟩ := Option.bind_eq_some_iff.mp hv
    clear hv
    simp only [res] at hz
    split at hz
    · rename_i hx
      have hv := Option.some.inj hz
      obtain ⟨hx1, hx2⟩ := of_isD hx
      have hml : m.length = k := by simpa using hl
      rcases m with _ | ⟨y, m⟩
      · simp only [res, Option.some.injEq] at hq
        subst hq
        subst hv
        rw [dec_small (by omega)]
        simp only [Nat.mul_zero, Nat.zero_add, List.nil_append, hx1]
      · have hh : (y :: m).head? ≠ some 48 := by
          rcases hc.2 with h | h
          · simp at h
          · simpa using h
        have hi := ih (y :: m) q hml ⟨by simp, .inr hh⟩ hq
        have hq1 : 1 ≤ q := by
          rcases Nat.eq_zero_or_pos q with h0 | h0
          · subst h0
            rw [dec_small (by omega)] at hi
            simp only [List.cons.injEq] at hi
            obtain ⟨hy, _⟩ := hi
            exact absurd (by rw [← hy]; rfl) hh
          · exact h0
        subst hv
        rw [dec_big (by omega), show (10 * q + (x.toNat - 48)) / 10 = q from by omega, show (10 * q + (x.toNat - 48)) % 10 = x.toNat - 48 from by omega, hx1, hi]
    · cases hz
theorem res_lt : ∀ (l : List UInt8) (n v j : Nat), res n l = some v → n < 10 ^ j → v < 10 ^ (j + l.length)
  | [], n, v, j, h, hn => by simp only [res, Option.some.injEq] at h; subst h; simpa using hn
  | x :: l, n, v, j, h, hn => by
    simp only [res] at h
    split at h
    · rename_i hx
      have h2 := (of_isD hx).2
      have := res_lt l _ v (j + 1) h (by rw [Nat.pow_succ]; omega)
      simpa [Nat.add_assoc, Nat.add_comm 1] using this
    · cases h

theorem size_len (a : ByteArray) : a.size = a.data.toList.length := rfl
theorem bt_list (a : ByteArray) (i : Nat) (h : i < a.data.toList.length) : bt a (i : Int) = ((a.data.toList[i]).toNat : Int) := by
  unfold bt
  rw [dif_pos (show ((i : Int)).toNat < a.size from by rw [Int.toNat_natCast]; exact h)]
  rfl
theorem bt_isD {x : UInt8} : (¬ ((x.toNat : Int) < 48) ∧ ¬ ((x.toNat : Int) > 57)) ↔ isD x = true := by
  unfold isD; simp only [Bool.and_eq_true, decide_eq_true_eq]; omega
/-- What 'whole' says of a text: up to so many digits. -/
def whole (mx_ : Nat) (l : List UInt8) : Option Nat := if l.length = 0 ∨ l.length > mx_ ∨ (l.head? = some 48 ∧ l.length > 1) then none else res 0 l
theorem head48 : ∀ (l : List UInt8) (h : 0 < l.length), ((l[0].toNat : Int) = 48 ↔ l.head? = some 48)
  | [], h => by simp at h
  | x :: l, h => by
    simp only [List.getElem_cons_zero, List.head?_cons, Option.some.injEq]
    constructor
    · intro e; exact UInt8.toNat_inj.mp (show x.toNat = (48 : UInt8).toNat from by simp; omega)
    · rintro rfl; rfl
theorem bt_head (a : ByteArray) (h : a.size ≠ 0) : bt a 0 = 48 ↔ a.data.toList.head? = some 48 := by
  have hl : 0 < a.data.toList.length := by rw [← size_len]; omega
  have := bt_list a 0 hl
  rw [show bt a 0 = ((a.data.toList[0]).toNat : Int) from this]
  exact head48 _ hl

/-- All digits but the last. -/
def upper (n : Nat) : List UInt8 := if n < 10 then [] else Lib.decDigits (n / 10)
theorem upper_big {n : Nat} (h : ¬ n < 10) : upper n = upper (n / 10) ++ [UInt8.ofNat (48 + n / 10 % 10)] := by
  unfold upper
  rw [if_neg h]
  by_cases h2 : n / 10 < 10
  · rw [if_pos h2, dec_small h2, Nat.mod_eq_of_lt h2]; rfl
  · rw [if_neg h2, dec_big h2]
theorem upper_dec (n : Nat) : upper n ++ [UInt8.ofNat (48 + n % 10)] = Lib.decDigits n := by
  unfold upper
  by_cases h : n < 10
  · rw [if_pos h, dec_small h, Nat.mod_eq_of_lt h]; rfl
  · rw [if_neg h, dec_big h]
theorem digit (n : Nat) (h : n < 9223372036854775808) : (wrap64 (48 + (Int.tmod (n : Int) 10))) % 256 = ((48 + n % 10 : Nat) : Int) := by
  rw [show Int.tmod (n : Int) 10 = ((n % 10 : Nat) : Int) from by rw [Int.tmod_eq_emod_of_nonneg (by omega)]; omega, IntWalk.wrap64_in _ ⟨by omega, by omega⟩]
  omega
theorem tenth (n : Nat) (h : n < 9223372036854775808) : wrap64 (Int.tdiv (n : Int) 10) = ((n / 10 : Nat) : Int) := by
  rw [show Int.tdiv (n : Int) 10 = ((n / 10 : Nat) : Int) from by rw [Int.tdiv_eq_ediv_of_nonneg (by omega)]; omega, IntWalk.wrap64_in _ ⟨by omega, by omega⟩]
theorem one (z : Nat) : strOfNums ([((z : Nat) : Int)] : List Int) = ⟨[UInt8.ofNat z].toArray⟩ := by
  simp [strOfNums]
theorem digits_l0 : ∀ (j n k : Nat) (s : List UInt8), n < 10 ^ j → j ≤ 15 → s.length + j ≤ 100 → j < k → topiaryref01_Digits.l0 k (n : Int) ⟨s.toArray⟩ = some ⟨(upper n ++ s).toArray⟩
  | j, n, 0, s, hn, hj, hs, hk => by omega
  | 0, n, k + 1, s, hn, hj, hs, hk => by
    simp only [topiaryref01_Digits.l0]
    rw [if_neg (by omega), show upper n = [] from by unfold upper; rw [if_pos (by omega)]]
    rfl
  | j + 1, n, k + 1, s, hn, hj, hs, hk => by
    simp only [topiaryref01_Digits.l0]
    have hp : 10 ^ (j + 1) ≤ 10 ^ 15 := Nat.pow_le_pow_right (by omega) (by omega)
    by_cases h : n < 10
    · rw [if_neg (by omega), show upper n = [] from by unfold upper; rw [if_pos h]]
      rfl
    · rw [if_pos (by omega), tenth n (by omega), digit (n / 10) (by omega)]
      simp only [Option.bind_some]
      rw [one, if_pos (by simp only [ByteArray.size, List.size_toArray, List.length_singleton]; omega)]
      rw [show (⟨[UInt8.ofNat (48 + n / 10 % 10)].toArray⟩ : ByteArray) ++ ⟨s.toArray⟩ = ⟨(UInt8.ofNat (48 + n / 10 % 10) :: s).toArray⟩ from by apply ByteArray.ext; simp [ByteArray.data_append]]
      rw [digits_l0 j (n / 10) k _ (by rw [Nat.pow_succ] at hn; omega) (by omega) (by simp; omega) (by omega), upper_big h]
      simp
theorem digits_f (k n : Nat) (h : n < 10 ^ 15) : topiaryref01_Digits.f (k + 20) (n : Int) = some ⟨(Lib.decDigits n).toArray⟩ := by
  unfold topiaryref01_Digits.f
  rw [digit n (by omega), one, digits_l0 15 n (k + 20) _ h (by omega) (by simp) (by omega), upper_dec]

def out13 (o : Option Nat) : Int × Bool := match o with | some v => ((v : Int), decide ((v : Int) ≤ 1099511627776)) | none => (0, false)
theorem whole13_l0 (a : ByteArray) (ha : a.size ≤ 13) : ∀ (m i n k : Nat), i + m = a.size → n < 10 ^ i → m < k → topiaryref01_Whole.l0 k a (n : Int) (i : Int) = some (out13 (res n (a.data.toList.drop i)))
  | 0, i, n, k, hi, hn, hk => by
    obtain ⟨k, rfl⟩ : ∃ q, k = q + 1 := ⟨k - 1, by omega⟩
    simp only [topiaryref01_Whole.l0]
    rw [if_neg (by omega), List.drop_eq_nil_of_le (by rw [← size_len]; omega)]
    rfl
  | m + 1, i, n, k, hi, hn, hk => by
    obtain ⟨k, rfl⟩ : ∃ q, k = q + 1 := ⟨k - 1, by omega⟩
    have hil : i < a.data.toList.length := by rw [← size_len]; omega
    have hp : 10 ^ i ≤ 10 ^ 13 := Nat.pow_le_pow_right (by omega) (by omega)
    simp only [topiaryref01_Whole.l0]
    rw [if_pos (by omega), if_pos (by omega), bt_list a i hil, List.drop_eq_getElem_cons hil]
    generalize a.data.toList[i] = x
    by_cases hx : isD x = true
    · obtain ⟨h1, h2⟩ := bt_isD.mpr hx
      rw [if_neg h1, if_neg h2]
      have hb := (of_isD hx).2
      have e1 : wrap64 (wrap64 (10 * (n : Int)) + (((x.toNat : Int) - 48) % 256)) = ((10 * n + (x.toNat - 48) : Nat) : Int) := by
        rw [IntWalk.wrap64_in (10 * (n : Int)) ⟨by omega, by omega⟩, show ((x.toNat : Int) - 48) % 256 = (x.toNat : Int) - 48 from by omega, IntWalk.wrap64_in _ ⟨by omega, by omega⟩]
        omega
      have e2 : wrap64 ((i : Int) + 1) = ((i + 1 : Nat) : Int) := by rw [IntWalk.wrap64_in _ ⟨by omega, by omega⟩]; omega
      rw [e1, e2, whole13_l0 a ha m (i + 1) _ k (by omega) (by rw [Nat.pow_succ]; omega) (by omega)]
      simp only [res, hx, if_true]
    · simp only [res, hx, Bool.false_eq_true, if_false, out13]
      by_cases h1 : (x.toNat : Int) < 48
      · rw [if_pos h1]
      · rw [if_neg h1]
        by_cases h2 : (x.toNat : Int) > 57
        · rw [if_pos h2]
        · exact absurd (bt_isD.mp ⟨h1, h2⟩) hx
theorem refwhole_f (k : Nat) (a : ByteArray) : topiaryref01_Whole.f (k + 20) a = some (out13 (whole 13 a.data.toList)) := by
  unfold topiaryref01_Whole.f whole
  rw [← size_len]
  by_cases h0 : a.size = 0
  · rw [if_pos (by omega), if_pos (.inl h0)]; simp [topiaryref01_Whole.j0, out13]
  · rw [if_neg (by omega)]
    by_cases h1 : a.size > 13
    · rw [if_pos (by omega), if_pos (.inr (.inl h1))]; simp [topiaryref01_Whole.j0, out13]
    · rw [if_neg (by omega), if_pos (by omega)]
      have hrun : topiaryref01_Whole.j0 (k + 20) a false = some (out13 (res 0 a.data.toList)) := by
        simp only [topiaryref01_Whole.j0, Bool.false_eq_true, if_false]
        have := whole13_l0 a (by omega) a.size 0 0 (k + 19) (by omega) (by omega) (by omega)
        simpa using this
      by_cases h2 : bt a 0 = 48
      · rw [if_pos h2]
        have h3 := (bt_head a h0).mp h2
        by_cases h4 : a.size > 1
        · rw [if_pos (.inr (.inr ⟨h3, h4⟩)), decide_eq_true (show (a.size : Int) > 1 from by omega)]
          simp [topiaryref01_Whole.j0, out13]
        · rw [decide_eq_false (show ¬ (a.size : Int) > 1 from by omega), hrun, if_neg (by rintro (h | h | h) <;> omega)]
      · rw [if_neg h2, hrun, if_neg (by
          rintro (h | h | h)
          · omega
          · omega
          · exact h2 ((bt_head a h0).mpr h.1))]
theorem extract_list (a : ByteArray) (i j : Nat) : (a.extract i j).data.toList = (a.data.toList.take j).drop i := by
  rw [ByteArray.data_extract, Array.toList_extract, List.extract_eq_take_drop, List.drop_take]
theorem number_l0 (a : ByteArray) (ha : a.size ≤ 13) : ∀ (m i n k : Nat), i + m = a.size → n < 10 ^ i → m < k → clock_number.l0 k a (n : Int) (a.size : Int) (i : Int) = some (out13 (res n (a.data.toList.drop i)))
  | 0, i, n, k, hi, hn, hk => by
    obtain ⟨k, rfl⟩ : ∃ q, k = q + 1 := ⟨k - 1, by omega⟩
    simp only [clock_number.l0]
    rw [if_neg (by omega), List.drop_eq_nil_of_le (by rw [← size_len]; omega)]
    rfl
  | m + 1, i, n, k, hi, hn, hk => by
    obtain ⟨k, rfl⟩ : ∃ q, k = q + 1 := ⟨k - 1, by omega⟩
    have hil : i < a.data.toList.length := by rw [← size_len]; omega
    have hp : 10 ^ i ≤ 10 ^ 13 := Nat.pow_le_pow_right (by omega) (by omega)
    simp only [clock_number.l0]
    rw [if_pos (by omega), if_pos (by omega), if_pos (by omega), bt_list a i hil, List.drop_eq_getElem_cons hil]
    generalize a.data.toList[i] = x
    by_cases hx : isD x = true
    · obtain ⟨h1, h2⟩ := bt_isD.mpr hx
      rw [if_neg h1, if_neg h2]
      have hb := (of_isD hx).2
      have e1 : wrap64 (wrap64 (10 * (n : Int)) + (((x.toNat : Int) - 48) % 256)) = ((10 * n + (x.toNat - 48) : Nat) : Int) := by
        rw [IntWalk.wrap64_in (10 * (n : Int)) ⟨by omega, by omega⟩, show ((x.toNat : Int) - 48) % 256 = (x.toNat : Int) - 48 from by omega, IntWalk.wrap64_in _ ⟨by omega, by omega⟩]
        omega
      have e2 : wrap64 ((i : Int) + 1) = ((i + 1 : Nat) : Int) := by rw [IntWalk.wrap64_in _ ⟨by omega, by omega⟩]; omega
      rw [e1, e2, number_l0 a ha m (i + 1) _ k (by omega) (by rw [Nat.pow_succ]; omega) (by omega)]
      simp only [res, hx, if_true]
    · simp only [res, hx, Bool.false_eq_true, if_false, out13]
      by_cases h1 : (x.toNat : Int) < 48
      · rw [if_pos h1]
      · rw [if_neg h1]
        by_cases h2 : (x.toNat : Int) > 57
        · rw [if_pos h2]
        · exact absurd (bt_isD.mp ⟨h1, h2⟩) hx
theorem number_f (k : Nat) (a : ByteArray) : clock_number.f (k + 20) a = some (out13 (whole 13 a.data.toList)) := by
  unfold clock_number.f whole
  rw [← size_len]
  by_cases h0 : a.size = 0
  · rw [if_pos (by omega), if_pos (.inl h0)]; simp [clock_number.j0, out13]
  · rw [if_neg (by omega)]
    by_cases h1 : a.size > 13
    · rw [if_pos (by omega), if_pos (.inr (.inl h1))]; simp [clock_number.j0, out13]
    · rw [if_neg (by omega), if_pos (by omega)]
      have hrun : clock_number.j0 (k + 20) a false = some (out13 (res 0 a.data.toList)) := by
        simp only [clock_number.j0, Bool.false_eq_true, if_false]
        have := number_l0 a (by omega) a.size 0 0 (k + 19) (by omega) (by omega) (by omega)
        simpa using this
      by_cases h2 : bt a 0 = 48
      · rw [if_pos h2]
        have h3 := (bt_head a h0).mp h2
        by_cases h4 : a.size > 1
        · rw [if_pos (.inr (.inr ⟨h3, h4⟩)), decide_eq_true (show (a.size : Int) > 1 from by omega)]
          simp [clock_number.j0, out13]
        · rw [decide_eq_false (show ¬ (a.size : Int) > 1 from by omega), hrun, if_neg (by rintro (h | h | h) <;> omega)]
      · rw [if_neg h2, hrun, if_neg (by
          rintro (h | h | h)
          · omega
          · omega
          · exact h2 ((bt_head a h0).mpr h.1))]


/-! the text of a clock -/
def dg (x : Int) : List UInt8 := Lib.decDigits x.toNat
def jn (t : List Int) : List UInt8 := Lib.join (t.map dg) [44]
theorem join_snoc (l : List (List UInt8)) (y sep : List UInt8) (h : l ≠ []) : Lib.join (l ++ [y]) sep = Lib.join l sep ++ sep ++ y := by
  rcases l with _ | ⟨x, r⟩
  · exact absurd rfl h
  · rw [List.cons_append, Lib.join_cons, Lib.join_cons]
    simp [Lib.joinTail, List.append_assoc]
theorem jn_snoc (t : List Int) (x : Int) (h : t ≠ []) : jn (t ++ [x]) = jn t ++ 44 :: dg x := by
  unfold jn
  rw [List.map_append, List.map_cons, List.map_nil, join_snoc _ _ _ (by simpa using h)]
  simp
theorem jn_one (x : Int) : jn [x] = dg x := by unfold jn; rw [List.map_cons, List.map_nil, Lib.join_one]
def Fits (t : List Int) : Prop := ∀ x ∈ t, 0 ≤ x ∧ x ≤ 1099511627776
theorem dg_le {x : Int} (h : x ≤ 1099511627776) : (dg x).length ≤ 13 := dec_length 13 _ (by omega) (by omega)
theorem jn_le_ : ∀ (n : Nat) (t : List Int), t.length = n → Fits t → (jn t).length ≤ 14 * t.length
  | 0, t, hn, _ => by
    obtain rfl := List.eq_nil_of_length_eq_zero hn
    simp [jn, Lib.join_nil]
  | n + 1, t, hn, h => by
    have hne : t ≠ [] := by rintro rfl; simp at hn
    obtain ⟨m, x, rfl⟩ : ∃ m x, t = m ++ [x] := ⟨t.dropLast, t.getLast hne, (List.dropLast_concat_getLast hne).symm⟩
    have hx := (h x (by simp)).2
    have hl := dg_le hx
    by_cases ht : m = []
    · subst ht; rw [List.nil_append, jn_one]; simp; omega
    · rw [jn_snoc m x ht]
      have := jn_le_ n m (by simpa using hn) (fun y hy => h y (by simp [hy]))
      simp; omega
theorem jn_le (t : List Int) (h : Fits t) : (jn t).length ≤ 14 * t.length := jn_le_ _ t rfl h
theorem jn_ne (t : List Int) (h : t ≠ []) : jn t ≠ [] := by
  rcases t with _ | ⟨x, r⟩
  · exact absurd rfl h
  · unfold jn
    rw [List.map_cons, Lib.join_cons]
    have := dec_ne x.toNat
    simp [dg, this]
def txt (t : List Int) : ByteArray := if t = [] then ⟨#[45]⟩ else ⟨(jn t).toArray⟩
def wordOf (x : Int) : ByteArray := ⟨(dg x).toArray⟩
theorem itoa_f (x : Int) (h0 : 0 ≤ x) (h1 : x ≤ 1099511627776) : strconv_Itoa_16.f x = some (wordOf x) := by
  unfold strconv_Itoa_16.f
  rw [if_pos h0, if_pos (by omega)]
  obtain ⟨n, rfl⟩ : ∃ n : Nat, x = n := ⟨x.toNat, by omega⟩
  rw [Lib.itoa_nonneg]; rfl
theorem pText_l0 (t : List Int) (hl : t.length ≤ 64) (hf : Fits t) : ∀ (d i k : Nat), i + d = t.length → d < k → clock_Text.l0 k ((t.take i).map wordOf) t (t.length : Int) (i : Int) = some (txt t, 0)
  | 0, i, 0, hi, hk => by omega
  | 0, i, k + 1, hi, hk => by
    simp only [clock_Text.l0]
    rw [if_neg (by omega), List.take_of_length_le (by omega)]
    unfold txt
    by_cases ht : t = []
    · subst ht; rfl
    · rw [if_neg (by intro e; exact ht (List.eq_nil_of_length_eq_zero (by simpa using e))), if_neg ht]
      unfold strings_Join.f
      have e : ((t.map wordOf).map (·.data.toList)) = t.map dg := by rw [List.map_map]; rfl
      rw [if_pos (by simp; omega), e, show (⟨#[44]⟩ : ByteArray).data.toList = [44] from rfl, if_pos (by have := jn_le t hf; unfold jn at this; omega)]
      rfl
  | d + 1, i, 0, hi, hk => by omega
  | d + 1, i, k + 1, hi, hk => by
    have hil : i < t.length := by omega
    simp only [clock_Text.l0]
    have hm := hf t[i] (List.getElem_mem hil)
    rw [if_pos (by omega), if_pos (by omega), if_pos (by omega), rd_get t i hil, itoa_f _ hm.1 hm.2]
    simp only [Option.bind_some]
    rw [if_pos (by simp; omega), wrap_in (by omega) (by omega), step_nat]
    have := pText_l0 t hl hf d (i + 1) k (by omega) (by omega)
    rw [List.take_succ_eq_append_getElem hil, List.map_append] at this
    exact this
noncomputable def textV (xs : List Int) : ByteArray × Int := if chk xs = 0 then (txt (trim xs), 0) else (⟨#[]⟩, chk xs)
theorem trim_fits (xs : List Int) (h : chk xs = 0) : (trim xs).length ≤ 64 ∧ Fits (trim xs) := by
  obtain ⟨h1, h2⟩ := chk_ok h
  have hl := (trim_is xs).length_le
  obtain ⟨⟨z, hz⟩, _⟩ := trim_is xs
  exact ⟨by omega, fun x hx => h2 x (by rw [hz]; exact List.mem_append_left _ hx)⟩
theorem pText (xs : List Int) (hn : xs.length ≤ 17592186043904) : Ev (fun k => clock_Text.f k xs) (textV xs) := by
  unfold clock_Text.f textV
  refine Ev.bind (pCheck xs hn) ?_
  by_cases h : chk xs = 0
  · rw [if_pos h]
    simp only [h, if_true]
    obtain ⟨h1, h2⟩ := trim_fits xs h
    refine Ev.bind (pTrim xs (by omega)) ⟨(trim xs).length + 1, fun k hk => ?_⟩
    exact pText_l0 (trim xs) h1 h2 (trim xs).length 0 k (by omega) (by omega)
  · simp only [h, if_false]
    exact Ev.now _
theorem jn_nil : jn [] = [] := rfl
theorem rText_l0 (t : List Int) (hl : t.length ≤ 64) (hf : Fits t) : ∀ (d i k : Nat), i + d = t.length → d + 40 < k → topiaryref02_Text.l0 k t ⟨(jn (t.take i)).toArray⟩ (i : Int) = some (txt t, 0)
  | 0, i, 0, hi, hk => by omega
  | 0, i, k + 1, hi, hk => by
    simp only [topiaryref02_Text.l0]
    rw [if_neg (by omega), List.take_of_length_le (by omega), ByteArray.toList_eq]
    unfold txt
    by_cases ht : t = []
    · subst ht; rfl
    · rw [if_neg (by simpa using jn_ne t ht), if_neg ht]
  | d + 1, i, 0, hi, hk => by omega
  | d + 1, i, k + 1, hi, hk => by
    have hil : i < t.length := by omega
    simp only [topiaryref02_Text.l0]
    have hm := hf t[i] (List.getElem_mem hil)
    obtain ⟨k, rfl⟩ : ∃ q, k = q + 20 := ⟨k - 20, by omega⟩
    have hd : topiaryref01_Digits.f (k + 20) (rd t (i : Int)) = some (wordOf t[i]) := by
      rw [rd_get t i hil]
      have := digits_f k (t[i]).toNat (by omega)
      rw [show (((t[i]).toNat : Nat) : Int) = t[i] from by omega] at this
      exact this
    have hw : (wordOf t[i]).size ≤ 13 := by have := dg_le hm.2; simpa [wordOf, ByteArray.size] using this
    have hj : (⟨(jn (t.take i)).toArray⟩ : ByteArray).size ≤ 1000 := by
      have := jn_le (t.take i) (fun x hx => hf x (List.mem_of_mem_take hx))
      simp only [ByteArray.size, List.size_toArray]
      rw [List.length_take] at this
      omega
    have next := rText_l0 t hl hf d (i + 1) (k + 20) (by omega) (by omega)
    rw [List.take_succ_eq_append_getElem hil] at next
    rw [if_pos (by omega)]
    by_cases h0 : i = 0
    · subst h0
      rw [if_neg (by omega), if_pos (by omega), hd]
      simp only [Option.bind_some]
      rw [if_pos (by omega), wrap_in (by omega) (by omega), step_nat]
      simp only [List.take_zero, List.nil_append, jn_one, jn_nil] at next ⊢
      rw [← next]
      congr 1
    · rw [if_pos (by omega), if_pos (by omega), if_pos (by omega), hd]
      simp only [Option.bind_some]
      rw [if_pos (by rw [ByteArray.size_append]; have : (⟨#[44]⟩ : ByteArray).size = 1 := rfl; omega), wrap_in (by omega) (by omega), step_nat]
      have hne : t.take i ≠ [] := by
        intro e
        have h9 : min i t.length = 0 := by rw [← List.length_take, e]; rfl
        omega
      rw [jn_snoc _ _ hne] at next
      rw [← next]
      congr 1
      apply ByteArray.ext
      simp [ByteArray.data_append, wordOf]
theorem rText (xs : List Int) (hn : xs.length ≤ 17592186043904) : Ev (fun k => topiaryref02_Text.f k xs) (textV xs) := by
  unfold topiaryref02_Text.f textV
  refine Ev.bind (rCheck xs hn) ?_
  by_cases h : chk xs = 0
  · rw [if_pos h]
    simp only [h, if_true]
    obtain ⟨h1, h2⟩ := trim_fits xs h
    refine Ev.bind (rTrim xs (by omega)) ⟨(trim xs).length + 41, fun k hk => ?_⟩
    exact rText_l0 (trim xs) h1 h2 (trim xs).length 0 k (by omega) (by omega)
  · simp only [h, if_false]
    refine Ev.bind (rCheck xs hn) (Ev.now _)


/-! the clock of a text -/
def spl : List UInt8 → List (List UInt8)
  | [] => [[]]
  | x :: l => if x = 44 then [] :: spl l else match spl l with | [] => [[x]] | w :: ws => (x :: w) :: ws
theorem spl_ne (l : List UInt8) : spl l ≠ [] := by
  rcases l with _ | ⟨x, l⟩
  · simp [spl]
  · simp only [spl]
    split
    · simp
    · split <;> simp
theorem spl_index : ∀ l : List UInt8, (Lib.index l [44] = -1 ∧ spl l = [l]) ∨ ∃ i : Nat, Lib.index l [44] = i ∧ i < l.length ∧ spl l = l.take i :: spl (l.drop (i + 1))
  | [] => .inl ⟨by simp [Lib.index], rfl⟩
  | x :: l => by
    by_cases hx : x = 44
    · subst hx
      exact .inr ⟨0, by simp [Lib.index], by simp, by simp [spl]⟩
    · have hp : List.isPrefixOf [44] (x :: l) = false := by simp [List.isPrefixOf, Ne.symm hx]
      rcases spl_index l with ⟨h1, h2⟩ | ⟨i, h1, h2, h3⟩
      · left
        refine ⟨?_, ?_⟩
        · simp [Lib.index, hp, h1]
        · simp only [spl, if_neg hx, h2]
      · right
        refine ⟨i + 1, ?_, by simp; omega, ?_⟩
        · simp only [Lib.index, hp, h1, Bool.false_eq_true, if_false]
          rw [if_neg (by simp)]
          omega
        · simp only [spl, if_neg hx, h3, List.take_succ_cons, List.drop_succ_cons]
theorem split_spl : ∀ (k : Nat) (s : ByteArray), Lib.countB s ⟨#[44]⟩ = k → (Lib.splitB ⟨#[44]⟩ 0 k s).map (·.data.toList) = spl s.data.toList := by
  intro k
  induction k with
  | zero =>
    intro s hk
    rcases spl_index s.data.toList with ⟨h1, h2⟩ | ⟨i, h1, h2, h3⟩
    · rw [Lib.splitB_miss _ _ _ _ h1, h2]; rfl
    · have := Lib.countB_hit s ⟨#[44]⟩ i (by decide) h1
      omega
  | succ k ih =>
    intro s hk
    rcases spl_index s.data.toList with ⟨h1, h2⟩ | ⟨i, h1, h2, h3⟩
    · rw [Lib.splitB_miss _ _ _ _ h1, h2]; rfl
    · have hc := Lib.countB_hit s ⟨#[44]⟩ i (by decide) h1
      rw [Lib.splitB_hit _ _ _ _ i h1, List.map_cons, ih _ (by omega), h3, Lib.extract_from_zero, Lib.extract_to_end]
      rfl
def final (out : List Int) : List Int × Int := if rd out ((out.length : Int) - 1) = 0 then ([], 2) else (out, 0)
def runP (out : List Int) : List (List UInt8) → List Int × Int
  | [] => final out
  | w :: ws => if (out13 (whole 13 w)).2 = true then runP (out ++ [(out13 (whole 13 w)).1]) ws else ([], 2)
theorem pParse_l0 (ws : List ByteArray) (hl : ws.length ≤ 64) : ∀ (d i k : Nat) (out : List Int), i + d = ws.length → d + 40 < k → out.length = i → (d = 0 → out ≠ []) →
    clock_Parse.l0 k out ws (ws.length : Int) (i : Int) = some (runP out ((ws.drop i).map (·.data.toList)))
  | 0, i, 0, out, hi, hk, ho, hne => by omega
  | 0, i, k + 1, out, hi, hk, ho, hne => by
    have hp : 1 ≤ out.length := List.length_pos_iff.mpr (hne rfl)
    simp only [clock_Parse.l0]
    rw [if_neg (by omega), wrap_in (by omega) (by omega), if_pos (by omega), if_pos (by omega), List.drop_eq_nil_of_le (by omega)]
    simp only [List.map_nil, runP, final]
    split <;> rfl
  | d + 1, i, 0, out, hi, hk, ho, hne => by omega
  | d + 1, i, k + 1, out, hi, hk, ho, hne => by
    have hil : i < ws.length := by omega
    obtain ⟨k, rfl⟩ : ∃ q, k = q + 20 := ⟨k - 20, by omega⟩
    simp only [clock_Parse.l0]
    rw [if_pos (by omega), if_pos (by omega), if_pos (by omega), show rdOf ByteArray.empty ws (i : Int) = ws[i] from by simp [rdOf, List.getD_eq_getElem?_getD, hil], number_f]
    simp only [Option.bind_some]
    rw [List.drop_eq_getElem_cons hil, List.map_cons]
    simp only [runP]
    by_cases hw : (out13 (whole 13 (ws[i]).data.toList)).2 = true
    · rw [if_pos hw, if_pos hw, if_pos (by omega), wrap_in (by omega) (by omega), step_nat]
      exact pParse_l0 ws hl d (i + 1) (k + 20) _ (by omega) (by omega) (by simp [ho]) (by simp)
    · rw [if_neg hw, if_neg hw]
noncomputable def parseV (l : List UInt8) : List Int × Int := if l = [45] then ([], 0) else if (spl l).length > 64 then ([], 2) else runP [] (spl l)
theorem pParse (s : ByteArray) (hs : s.size ≤ 1048576) : Ev (fun k => clock_Parse.f k s) (parseV s.data.toList) := by
  unfold clock_Parse.f parseV
  rw [ByteArray.toList_eq]
  by_cases h1 : s.data.toList = [45]
  · rw [if_pos h1]
    simp only [h1, if_true]
    exact Ev.now _
  · rw [if_neg h1]
    simp only [h1, if_false]
    unfold strings_Split.f
    simp only [hs, if_true, show 1 ≤ (⟨#[44]⟩ : ByteArray).size from by decide, Option.bind_some]
    have hsp := split_spl _ s rfl
    have hlen := congrArg List.length hsp
    rw [List.length_map] at hlen
    generalize hws : Lib.splitB ⟨#[44]⟩ 0 (Lib.countB s ⟨#[44]⟩) s = ws at hsp hlen
    by_cases h2 : ws.length > 64
    · rw [if_pos (by omega)]
      simp only [show (ws.length : Int) > 64 from by omega, if_true]
      exact Ev.now _
    · rw [if_neg (by omega)]
      simp only [show ¬ ((ws.length : Int) > 64) from by omega, if_false]
      have hp : 1 ≤ ws.length := by rw [hlen]; exact List.length_pos_iff.mpr (spl_ne _)
      refine ⟨ws.length + 41, fun k hk => ?_⟩
      have := pParse_l0 ws (by omega) ws.length 0 k [] (by omega) (by omega) rfl (by omega)
      rw [List.drop_zero, hsp] at this
      exact this
/-! the document's clock of a text -/
def run64 (out : List Int) : List (List UInt8) → List Int × Int
  | [] => final out
  | w :: ws => if (out13 (whole 13 w)).2 = true then (if out.length = 64 then ([], 2) else run64 (out ++ [(out13 (whole 13 w)).1]) ws) else ([], 2)
theorem run64_big : ∀ (ws : List (List UInt8)) (out : List Int), out.length ≤ 64 → out.length + ws.length > 64 → run64 out ws = ([], 2)
  | [], out, h1, h2 => by simp at h2; omega
  | w :: ws, out, h1, h2 => by
    simp only [run64]
    split
    · split
      · rfl
      · exact run64_big ws _ (by simp; omega) (by simp at h2 ⊢; omega)
    · rfl
theorem run64_small : ∀ (ws : List (List UInt8)) (out : List Int), out.length + ws.length ≤ 64 → run64 out ws = runP out ws
  | [], out, h2 => rfl
  | w :: ws, out, h2 => by
    simp only [run64, runP]
    simp only [List.length_cons] at h2
    rw [if_neg (show ¬ out.length = 64 from by omega), run64_small ws _ (by simp; omega)]
def addp (p : List UInt8) : List (List UInt8) → List (List UInt8)
  | [] => [p]
  | w :: ws => (p ++ w) :: ws
theorem addp_snoc (p : List UInt8) (x : UInt8) (l : List UInt8) (hx : x ≠ 44) : addp (p ++ [x]) (spl l) = addp p (spl (x :: l)) := by
  simp only [spl, if_neg hx]
  rcases spl l with _ | ⟨w, ws⟩
  · simp [addp]
  · simp [addp]
theorem rParse_step (k : Nat) (a : ByteArray) (ha : a.size ≤ 1048576) (out : List Int) (f i : Nat) (hf : f ≤ i) (hi : i ≤ a.size) (ho : out.length ≤ i) (ho2 : out.length ≤ 64) :
    topiaryref02_Parse.j1 (k + 21) a out (f : Int) (i : Int) false = if (out13 (whole 13 ((a.data.toList.take i).drop f))).2 = true then (if out.length = 64 then some ([], 2) else topiaryref02_Parse.l0 (k + 20) a (out ++ [(out13 (whole 13 ((a.data.toList.take i).drop f))).1]) ((i + 1 : Nat) : Int) ((i + 1 : Nat) : Int)) else some ([], 2) := by
  simp only [topiaryref02_Parse.j1, Bool.false_eq_true, if_false]
  rw [if_pos (by omega), if_pos (by omega), if_pos (by omega), refwhole_f, extract_list]
  simp only [Option.bind_some, Int.toNat_natCast]
  by_cases hw : (out13 (whole 13 ((a.data.toList.take i).drop f))).2 = true
  · rw [if_pos hw, if_pos hw]
    by_cases h6 : out.length = 64
    · rw [if_pos (by omega), if_pos h6]
    · rw [if_neg (by omega), if_neg h6, if_pos (by omega), wrap_in (by omega) (by omega), step_nat]
  · rw [if_neg hw, if_neg hw]
theorem rParse_l0 (a : ByteArray) (ha : a.size ≤ 1048576) : ∀ (d i f k : Nat) (out : List Int), i + d = a.size → f ≤ i → out.length ≤ f → out.length ≤ 64 → 2 * d + 60 < k →
    topiaryref02_Parse.l0 k a out (f : Int) (i : Int) = some (run64 out (addp ((a.data.toList.take i).drop f) (spl (a.data.toList.drop i))))
  | 0, i, f, k, out, hi, hf, ho, ho2, hk => by
    obtain ⟨k, rfl⟩ : ∃ q, k = q + 22 := ⟨k - 22, by omega⟩
    have hsz : a.data.toList.length = a.size := (size_len a).symm
    rw [List.drop_eq_nil_of_le (show a.data.toList.length ≤ i from by omega)]
    simp only [spl, addp, List.append_nil, run64]
    rw [show k + 22 = (k + 21) + 1 from rfl]
    simp only [topiaryref02_Parse.l0]
    rw [if_pos (by omega), if_neg (by omega), rParse_step k a ha out f i hf (by omega) (by omega) ho2]
    split
    · split
      · rfl
      · rw [show k + 20 = (k + 19) + 1 from rfl]
        simp only [topiaryref02_Parse.l0]
        have hl1 : (((out ++ [(out13 (whole 13 ((a.data.toList.take i).drop f))).1]).length : Nat) : Int) = (out.length : Int) + 1 := by simp
        rw [if_neg (by omega), wrap_in (by rw [hl1]; omega) (by rw [hl1]; omega), if_pos (by rw [hl1]; omega), if_pos (by rw [hl1]; omega)]
        simp only [final]
        split <;> rfl
    · rfl
  | d + 1, i, f, k, out, hi, hf, ho, ho2, hk => by
    obtain ⟨k, rfl⟩ : ∃ q, k = q + 22 := ⟨k - 22, by omega⟩
    have hsz : a.data.toList.length = a.size := (size_len a).symm
    have hil : i < a.data.toList.length := by omega
    rw [show k + 22 = (k + 21) + 1 from rfl]
    simp only [topiaryref02_Parse.l0]
    rw [if_pos (by omega), if_pos (by omega), if_pos (by omega), bt_list a i hil, List.drop_eq_getElem_cons hil]
    by_cases hx : a.data.toList[i] = 44
    · rw [show (((a.data.toList[i]).toNat : Int) != 44) = false from by rw [hx]; rfl, rParse_step k a ha out f i hf (by omega) (by omega) ho2, hx]
      simp only [spl, if_true, addp, List.append_nil, run64]
      split
      · split
        · rfl
        · rw [rParse_l0 a ha d (i + 1) (i + 1) (k + 20) _ (by omega) (Nat.le_refl _) (by simp; omega) (by simp; omega) (by omega)]
          rw [show (a.data.toList.take (i + 1)).drop (i + 1) = [] from List.drop_eq_nil_of_le (by rw [List.length_take]; exact Nat.min_le_left _ _)]
          rcases hs : spl (a.data.toList.drop (i + 1)) with _ | ⟨w, ws⟩
          · exact absurd hs (spl_ne _)
          · simp [addp]
      · rfl
    · rw [show (((a.data.toList[i]).toNat : Int) != 44) = true from by
        simp only [bne_iff_ne, ne_eq]
        intro e
        exact hx (UInt8.toNat_inj.mp (show (a.data.toList[i]).toNat = 44 from by omega))]
      rw [show k + 21 = (k + 20) + 1 from rfl]
      simp only [topiaryref02_Parse.j1, if_true]
      rw [wrap_in (by omega) (by omega), step_nat, rParse_l0 a ha d (i + 1) f (k + 20) out (by omega) (by omega) ho ho2 (by omega)]
      rw [← addp_snoc _ _ _ hx, List.take_succ_eq_append_getElem hil, List.drop_append_of_le_length (by rw [List.length_take]; omega)]
theorem rParse (s : ByteArray) (hs : s.size ≤ 1048576) : Ev (fun k => topiaryref02_Parse.f k s) (parseV s.data.toList) := by
  unfold topiaryref02_Parse.f parseV
  rw [ByteArray.toList_eq]
  by_cases h1 : s.data.toList = [45]
  · rw [if_pos h1]
    simp only [h1, if_true]
    exact Ev.now _
  · rw [if_neg h1]
    simp only [h1, if_false]
    refine ⟨2 * s.size + 61, fun k hk => ?_⟩
    have h := rParse_l0 s hs s.size 0 0 k [] (by omega) (by omega) (by simp) (by simp) (by omega)
    rw [List.drop_zero, List.take_zero, List.drop_zero, show addp [] (spl s.data.toList) = spl s.data.toList from by
      rcases hs : spl s.data.toList with _ | ⟨w, ws⟩
      · exact absurd hs (spl_ne _)
      · simp [addp]] at h
    rw [show ((0 : Nat) : Int) = 0 from rfl] at h
    refine h.trans ?_
    by_cases h2 : (spl s.data.toList).length > 64
    · rw [if_pos h2, run64_big _ [] (by simp) (by simpa using h2)]
    · rw [if_neg h2, run64_small _ [] (by simp; omega)]

theorem runP_len : ∀ (ws : List (List UInt8)) (out : List Int), (runP out ws).1.length ≤ out.length + ws.length
  | [], out => by
    simp only [runP, final]
    split <;> simp
  | w :: ws, out => by
    simp only [runP]
    split
    · have := runP_len ws (out ++ [(out13 (whole 13 w)).1])
      simp at this ⊢; omega
    · simp
theorem parseV_len (l : List UInt8) : (parseV l).1.length ≤ 64 := by
  unfold parseV
  split
  · simp
  · split
    · simp
    · have := runP_len (spl l) []
      simp at this; omega


theorem ClockTexts : topiarylaw02_ClockTexts.Pure := by
  intro xs s h1 h2 h3 h4
  have hn : xs.length ≤ 17592186043904 := by omega
  refine Ev.rounds ?_
  unfold topiarylaw02_ClockTexts.f
  refine Ev.bind (pText xs hn) (Ev.bind (rText xs hn) (Ev.bind (pParse s h4) (Ev.bind (rParse s h4) ?_)))
  simp only [if_true]
  have hl : (parseV s.data.toList).1.length ≤ 17592186044416 := by
    have := parseV_len s.data.toList
    omega
  refine Ev.bind (rSame _ _ hl) ?_
  simp only [decide_true, if_true]
  exact Ev.bind awake (Ev.now _)

end Go.Proofs.YtbnhjkcpecilbaaDoor.Pure
