/- a clock of which all gaps to another one are filled is their merge; a clock's text, read, is the trimmed clock: for all lists of at most 1048576 numbers. No condition. -/
import Derived.Test.YtbnhjkcpecilbaaDoorQClockFillsx5
namespace Go.Proofs.YtbnhjkcpecilbaaDoor.Pure
open Go.RowKit Go.Proofs.YtbnhjkcpecilbaaDoor.QClockFills Go.Proofs.YtbnhjkcpecilbaaDoorW.PrintWords Go.Proofs.YtbnhjkcpecilbaaDoorW.PrintLast
set_option linter.unusedVariables false
set_option linter.unusedSimpArgs false
theorem wrap_in {n : Int} (h0 : -9223372036854775808 ≤ n) (h1 : n ≤ 9223372036854775807) : wrap64 n = n := by unfold wrap64; omega
theorem step_nat (i : Nat) : (i : Int) + 1 = ((i + 1 : Nat) : Int) := by omega
theorem rd_get (xs : List Int) (i : Nat) (h : i < xs.length) : rd xs (i : Int) = xs[i] := by simp [rd, List.getD_eq_getElem?_getD, h]
theorem mx_max (a b : Int) : mx a b = max a b := by unfold mx; omega

/-- the first number that is out of its range -/
def chkL : List Int → Int
  | [] => 0
  | x :: r => if x < 0 then 1 else if x > 1099511627776 then 1 else chkL r
def chk (xs : List Int) : Int := if (xs.length : Int) > 64 then 3 else chkL xs
theorem chkL_ok : ∀ (xs : List Int), chkL xs = 0 → ∀ x ∈ xs, 0 ≤ x ∧ x ≤ 1099511627776
  | [], _, x, hx => by simp at hx
  | y :: r, h, x, hx => by
    simp only [chkL] at h
    split at h
    · omega
    · split at h
      · omega
      · rcases List.mem_cons.1 hx with rfl | hx
        · omega
        · exact chkL_ok r h x hx
theorem chk_ok {xs : List Int} (h : chk xs = 0) : xs.length ≤ 64 ∧ ∀ x ∈ xs, 0 ≤ x ∧ x ≤ 1099511627776 := by
  unfold chk at h
  split at h
  · omega
  · exact ⟨by omega, chkL_ok xs h⟩

theorem pCheck_l0 (xs : List Int) (hn : xs.length ≤ 17592186043904) : ∀ (d i k : Nat), i + d = xs.length → d < k →
    clock_Check.l0 k xs (xs.length : Int) (i : Int) = some (chkL (xs.drop i)) := by
  intro d
  induction d with
  | zero =>
    intro i k h hk
    obtain ⟨k, rfl⟩ : ∃ m, k = m + 1 := ⟨k - 1, by omega⟩
    simp only [clock_Check.l0]
    rw [if_neg (by omega), List.drop_eq_nil_of_le (by omega)]; rfl
  | succ d ih =>
    intro i k h hk
    obtain ⟨k, rfl⟩ : ∃ m, k = m + 1 := ⟨k - 1, by omega⟩
    have hi : i < xs.length := by omega
    simp only [clock_Check.l0]
    rw [if_pos (by omega), if_pos (by omega), if_pos (by omega), rd_get xs i hi, List.drop_eq_getElem_cons hi]
    simp only [chkL]
    split
    · rfl
    · split
      · rfl
      · rw [wrap_in (by omega) (by omega), step_nat]; exact ih (i + 1) k (by omega) (by omega)
theorem pCheck (xs : List Int) (hn : xs.length ≤ 17592186043904) : Ev (fun k => clock_Check.f k xs) (chk xs) := by
  refine ⟨xs.length + 1, fun k hk => ?_⟩
  simp only [clock_Check.f, chk]
  split
  · rfl
  · have := pCheck_l0 xs hn xs.length 0 k (by omega) (by omega); simpa using this

theorem pAt (xs : List Int) (i : Int) : clock_At.f xs i = some (if 0 ≤ i ∧ i < xs.length then rd xs i else 0) := by
  simp only [clock_At.f]
  by_cases h0 : i < 0
  · rw [if_pos h0, if_neg (by omega)]
  · rw [if_neg h0]
    by_cases h1 : i ≥ (xs.length : Int)
    · rw [if_pos h1, if_neg (by omega)]
    · rw [if_neg h1, if_pos (by omega), if_pos (by omega), if_pos (by omega)]
/-- a replica's number -/
def at_ (xs : List Int) (i : Nat) : Int := xs.getD i 0
theorem pAt_nat (xs : List Int) (i : Nat) : clock_At.f xs (i : Int) = some (at_ xs i) := by
  rw [pAt]; congr 1
  by_cases h : i < xs.length
  · rw [if_pos (by omega)]; simp [rd, at_]
  · rw [if_neg (by omega)]; simp [at_, List.getD_eq_getElem?_getD, h]

theorem rSame_l0 (xs ys : List Int) (hl : xs.length = ys.length) (hn : xs.length ≤ 17592186044416) : ∀ (d i k : Nat), i + d = xs.length → d < k →
    topiaryref02_Same.l0 k xs ys (i : Int) = some (decide (xs.drop i = ys.drop i)) := by
  intro d
  induction d with
  | zero =>
    intro i k h hk
    obtain ⟨k, rfl⟩ : ∃ m, k = m + 1 := ⟨k - 1, by omega⟩
    simp only [topiaryref02_Same.l0]
    rw [if_neg (by omega), List.drop_eq_nil_of_le (by omega), List.drop_eq_nil_of_le (by omega)]; rfl
  | succ d ih =>
    intro i k h hk
    obtain ⟨k, rfl⟩ : ∃ m, k = m + 1 := ⟨k - 1, by omega⟩
    have hi : i < xs.length := by omega
    have hj : i < ys.length := by omega
    simp only [topiaryref02_Same.l0]
    rw [if_pos (by omega), if_pos (by omega), if_pos (by omega), rd_get xs i hi, rd_get ys i hj, List.drop_eq_getElem_cons hi, List.drop_eq_getElem_cons hj]
    by_cases e : xs[i] = ys[i]
    · rw [if_pos e, wrap_in (by omega) (by omega), step_nat, ih (i + 1) k (by omega) (by omega), e]
      exact congrArg some (by rw [decide_eq_decide]; simp only [List.cons.injEq, true_and])
    · rw [if_neg e]
      exact congrArg some (decide_eq_false (by simp only [List.cons.injEq, e, false_and, not_false_eq_true])).symm
theorem rSame (xs ys : List Int) (hn : xs.length ≤ 17592186044416) : Ev (fun k => topiaryref02_Same.f k xs ys) (decide (xs = ys)) := by
  refine ⟨xs.length + 1, fun k hk => ?_⟩
  simp only [topiaryref02_Same.f]
  split
  · rename_i e
    have := rSame_l0 xs ys (by omega) hn xs.length 0 k (by omega) (by omega); simpa using this
  · rename_i e
    have : xs ≠ ys := fun h => e (by rw [h])
    simp [this]

/-- t is the list without the noughts at its end -/
def IsTrim (t xs : List Int) : Prop := (∃ z, xs = t ++ List.replicate z 0) ∧ ∀ a r, t = r ++ [a] → a ≠ 0
theorem IsTrim.unique : ∀ {xs t u : List Int}, IsTrim t xs → IsTrim u xs → t = u := by
  have key : ∀ (xs t u : List Int), IsTrim t xs → IsTrim u xs → t.length ≤ u.length → t = u := by
    intro xs t u ⟨⟨z, h⟩, ht⟩ ⟨⟨y, g⟩, hu⟩ hl
    have e : u = t ++ List.replicate (z - y) 0 := by
      have hlen := congrArg List.length h
      have hlen' := congrArg List.length g
      simp at hlen hlen'
      have e1 : xs.take u.length = u := by rw [g]; simp
      have e2 : xs.take u.length = t ++ List.replicate (z - y) 0 := by
        rw [h, List.take_append, List.take_of_length_le hl, List.take_replicate]
        congr 2; omega
      rw [← e1, e2]
    cases hz : z - y with
    | zero => rw [hz] at e; simpa using e.symm
    | succ m =>
      rw [hz, List.replicate_succ', ← List.append_assoc] at e
      exact absurd rfl (hu 0 _ e)
  intro xs t u h g
  rcases Nat.le_total t.length u.length with hl | hl
  · exact key xs t u h g hl
  · exact (key xs u t g h hl).symm
theorem IsTrim.length_le {t xs : List Int} (h : IsTrim t xs) : t.length ≤ xs.length := by
  obtain ⟨⟨z, rfl⟩, _⟩ := h; simp
theorem IsTrim.pad {t xs : List Int} (h : IsTrim t xs) (n : Nat) : IsTrim t (xs ++ List.replicate n 0) := by
  obtain ⟨⟨z, rfl⟩, h2⟩ := h
  exact ⟨⟨z + n, by rw [List.append_assoc, List.replicate_append_replicate]⟩, h2⟩
theorem IsTrim.exists : ∀ xs : List Int, ∃ t, IsTrim t xs := by
  intro xs
  induction hn : xs.length using Nat.strongRecOn generalizing xs with
  | _ n ih =>
    rcases List.eq_nil_or_concat xs with rfl | ⟨r, a, rfl⟩
    · exact ⟨[], ⟨⟨0, rfl⟩, fun a r h => by simp at h⟩⟩
    · by_cases ha : a = 0
      · obtain ⟨t, ht⟩ := ih r.length (by simp at hn; omega) r rfl
        exact ⟨t, by have := ht.pad 1; simpa [ha] using this⟩
      · exact ⟨r ++ [a], ⟨⟨0, by simp⟩, fun b s h => by
          have := List.append_inj' h rfl
          have h2 := this.2; injection h2 with h2 _; rw [← h2]; exact ha⟩⟩
noncomputable def trim (xs : List Int) : List Int := (IsTrim.exists xs).choose
theorem trim_is (xs : List Int) : IsTrim (trim xs) xs := (IsTrim.exists xs).choose_spec
theorem trim_eq {t xs : List Int} (h : IsTrim t xs) : t = trim xs := h.unique (trim_is xs)

theorem pTrim_l0 (xs : List Int) (hn : xs.length ≤ 17592186044415) : ∀ (n k : Nat), n ≤ xs.length → n < k → (∀ j, n ≤ j → j < xs.length → at_ xs j = 0) →
    clock_Trim.l0 k xs (n : Int) = some (trim xs) := by
  intro n
  induction n with
  | zero =>
    intro k _ hk hz
    obtain ⟨k, rfl⟩ : ∃ m, k = m + 1 := ⟨k - 1, by omega⟩
    simp only [clock_Trim.l0]
    rw [if_neg (by omega)]
    simp only [Option.bind_some]
    rw [if_pos (by omega), if_pos (by omega), if_pos (by simp)]
    refine congrArg some (trim_eq ?_)
    show IsTrim [] xs
    refine ⟨⟨xs.length, ?_⟩, fun a r h => by simp at h⟩
    refine List.ext_getElem (by simp) fun j h1 h2 => ?_
    have := hz j (by omega) h1
    simpa [at_, List.getD_eq_getElem?_getD, h1] using this
  | succ n ih =>
    intro k hl hk hz
    obtain ⟨k, rfl⟩ : ∃ m, k = m + 1 := ⟨k - 1, by omega⟩
    have hi : n < xs.length := by omega
    have hw : wrap64 (((n + 1 : Nat) : Int) - 1) = (n : Int) := by rw [wrap_in (by omega) (by omega)]; omega
    simp only [clock_Trim.l0, hw]
    rw [if_pos (by omega), if_pos (by omega), if_pos (by omega), rd_get xs n hi]
    by_cases e : xs[n] = 0
    · rw [if_pos e]
      refine ih k (by omega) (by omega) fun j h1 h2 => ?_
      rcases Nat.lt_or_ge n j with h | h
      · exact hz j (by omega) h2
      · have : j = n := by omega
        subst this; simpa [at_, List.getD_eq_getElem?_getD, h2] using e
    · rw [if_neg e]
      simp only [Option.bind_some]
      rw [if_pos (by omega), if_pos (by omega), if_pos (by simp; omega)]
      congr 1
      refine trim_eq ⟨⟨xs.length - (n + 1), ?_⟩, fun a r h => ?_⟩
      · have e1 : xs.drop (n + 1) = List.replicate (xs.length - (n + 1)) 0 := by
          refine List.ext_getElem (by simp) fun j h1 h2 => ?_
          simp at h1
          have := hz (n + 1 + j) (by omega) (by omega)
          have h3 : n + 1 + j < xs.length := by omega
          simpa [at_, List.getD_eq_getElem?_getD, h3] using this
        rw [← e1, Int.toNat_natCast]; simp
      · simp only [Int.toNat_natCast, List.nil_append] at h
        rw [List.take_succ_eq_append_getElem hi] at h
        have := (List.append_inj' h rfl).2
        injection this with h2 _; rw [← h2]; exact e
theorem pTrim (xs : List Int) (hn : xs.length ≤ 17592186044415) : Ev (fun k => clock_Trim.f k xs) (trim xs) :=
  ⟨xs.length + 1, fun k hk => pTrim_l0 xs hn xs.length k (Nat.le_refl _) (by omega) (fun j h1 h2 => by omega)⟩

theorem pBoth (a b : List Int) (ha : a.length ≤ 17592186043904) (hb : b.length ≤ 17592186043904) : Ev (fun k => clock_both.f k a b) (if chk a = 0 then chk b else chk a) := by
  unfold clock_both.f
  refine Ev.bind (pCheck a ha) ?_
  split
  · exact Ev.bind (pCheck b hb) (Ev.now _)
  · exact Ev.now _
/-- of each replica the greater number, n of them -/
def maxN (a b : List Int) (n : Nat) : List Int := (List.range n).map fun i => max (at_ a i) (at_ b i)
theorem maxN_length (a b : List Int) (n : Nat) : (maxN a b n).length = n := by simp [maxN]
theorem maxN_succ (a b : List Int) (n : Nat) : maxN a b (n + 1) = maxN a b n ++ [max (at_ a n) (at_ b n)] := by simp [maxN, List.range_succ]
theorem maxN_zero (a b : List Int) (n : Nat) : maxN a b n ++ List.replicate 0 0 = maxN a b n := by simp
theorem pMerge_l0 (a b : List Int) (n : Nat) (hn : n ≤ 17592186044415) : ∀ (d i k : Nat), i + d = n → d + n + 1 < k →
    clock_Merge.l0 k a b (maxN a b i ++ List.replicate (n - i) 0) (n : Int) (i : Int) = some (trim (maxN a b n), 0) := by
  intro d
  induction d with
  | zero =>
    intro i k h hk
    obtain ⟨k, rfl⟩ : ∃ m, k = m + 1 := ⟨k - 1, by omega⟩
    obtain rfl : i = n := by omega
    simp only [clock_Merge.l0]
    rw [if_neg (by omega)]
    have ht := pTrim_l0 (maxN a b i) (by rw [maxN_length]; omega) (maxN a b i).length k (Nat.le_refl _) (by rw [maxN_length]; omega) (fun j h1 h2 => by omega)
    simp only [clock_Trim.f, Nat.sub_self, List.replicate_zero, List.append_nil]
    rw [ht]; rfl
  | succ d ih =>
    intro i k h hk
    obtain ⟨k, rfl⟩ : ∃ m, k = m + 1 := ⟨k - 1, by omega⟩
    simp only [clock_Merge.l0]
    rw [if_pos (by omega), pAt_nat, pAt_nat]
    simp only [Option.bind_some]
    rw [if_pos (by omega), if_pos (by simp [maxN_length]; omega), wrap_in (by omega) (by omega), step_nat, mx_max]
    have e : (maxN a b i ++ List.replicate (n - i) 0).set (i : Int).toNat (max (at_ a i) (at_ b i)) = maxN a b (i + 1) ++ List.replicate (n - (i + 1)) 0 := by
      rw [Int.toNat_natCast, List.set_append_right _ _ (by rw [maxN_length]; exact Nat.le_refl _), maxN_length, Nat.sub_self, show n - i = (n - (i + 1)) + 1 from by omega, List.replicate_succ, List.set_cons_zero, maxN_succ]
      simp
    rw [e]
    exact ih (i + 1) k (by omega) (by omega)
/-- what Merge tells -/
noncomputable def mrg (a b : List Int) : List Int × Int := if chk a = 0 then (if chk b = 0 then (trim (maxN a b (max a.length b.length)), 0) else ([], chk b)) else ([], chk a)
theorem pMerge (a b : List Int) (ha : a.length ≤ 17592186043904) (hb : b.length ≤ 17592186043904) : Ev (fun k => clock_Merge.f k a b) (mrg a b) := by
  have hm : mx (a.length : Int) (b.length : Int) = ((max a.length b.length : Nat) : Int) := by rw [mx_max]; omega
  unfold clock_Merge.f
  refine Ev.bind (pBoth a b ha hb) ?_
  unfold mrg
  by_cases h1 : chk a = 0
  · by_cases h2 : chk b = 0
    · simp only [if_pos h1, if_pos h2, if_true, hm]
      refine Ev.congr (f := fun k => clock_Merge.l0 k a b (maxN a b 0 ++ List.replicate (max a.length b.length - 0) 0) ((max a.length b.length : Nat) : Int) ((0 : Nat) : Int)) (fun k => ?_) ?_
      · rw [if_pos (by omega), if_pos (by omega)]
        simp [maxN]
      · exact ⟨2 * max a.length b.length + 2, fun k hk => pMerge_l0 a b (max a.length b.length) (by omega) (max a.length b.length) 0 k (by omega) (by omega)⟩
    · simp only [if_pos h1, if_neg h2]
      exact Ev.now _
  · simp only [if_neg h1]
    exact Ev.now _
theorem awake : Ev (fun k => topiarylaw02_awake.f k) true := Ev.of topiarylaw02_awake.mono (k := 20) (by decide +kernel)

theorem rTrim_both (xs : List Int) (hn : xs.length ≤ 17592186043904) : ∀ (d k : Nat),
    (∀ (i z : Nat) (out : List Int), 2 * (xs.length - i) + z = d → i ≤ xs.length → d < k → IsTrim out (xs.take i) → out.length + z = i → topiaryref02_Trim.l0 k xs out (z : Int) (i : Int) = some (trim xs)) ∧
    (∀ (i z : Nat) (out : List Int), 2 * (xs.length - i) + z = d + 1 → i < xs.length → d < k → at_ xs i ≠ 0 → out ++ List.replicate z 0 = xs.take i → topiaryref02_Trim.l1 k xs out (z : Int) (i : Int) = some (trim xs)) := by
  intro d
  induction d using Nat.strongRecOn with
  | _ d ih =>
    intro k
    refine ⟨fun i z out hd hi hk ht hz => ?_, fun i z out hd hi hk h0 hz => ?_⟩
    · obtain ⟨k, rfl⟩ : ∃ m, k = m + 1 := ⟨k - 1, by omega⟩
      simp only [topiaryref02_Trim.l0]
      by_cases hl : i < xs.length
      · rw [if_pos (by omega), if_pos (by omega), rd_get xs i hl]
        by_cases e : xs[i] = 0
        · rw [if_pos e, wrap_in (by omega) (by omega), wrap_in (by omega) (by omega), step_nat, step_nat]
          refine (ih (d - 1) (by omega) k).1 (i + 1) (z + 1) out (by omega) (by omega) (by omega) ?_ (by omega)
          rw [List.take_succ_eq_append_getElem hl, e]
          exact ht.pad 1
        · rw [if_neg e]
          refine (ih (d - 1) (by omega) k).2 i z out (by omega) hl (by omega) (by simpa [at_, List.getD_eq_getElem?_getD, hl] using e) ?_
          obtain ⟨⟨y, hy⟩, _⟩ := ht
          have := congrArg List.length hy
          simp at this
          rw [hy, show z = y from by omega]
      · rw [if_neg (by omega)]
        rw [List.take_of_length_le (by omega)] at ht
        rw [trim_eq ht]
    · obtain ⟨k, rfl⟩ : ∃ m, k = m + 1 := ⟨k - 1, by omega⟩
      have hlen := congrArg List.length hz
      simp at hlen
      simp only [topiaryref02_Trim.l1]
      cases z with
      | succ z =>
        rw [if_pos (by omega), if_pos (by omega), wrap_in (by omega) (by omega), show ((z + 1 : Nat) : Int) - 1 = (z : Int) from by omega]
        refine (ih (d - 1) (by omega) k).2 i z (out ++ [0]) (by omega) hi (by omega) h0 ?_
        rw [← hz, List.replicate_succ]; simp
      | zero =>
        rw [if_neg (by omega), if_pos (by omega), if_pos (by omega), if_pos (by omega), wrap_in (by omega) (by omega), step_nat, rd_get xs i hi]
        have ho : out = xs.take i := by simpa using hz
        refine (ih (d - 1) (by omega) k).1 (i + 1) 0 (out ++ [xs[i]]) (by omega) (by omega) (by omega) ?_ (by simp at hlen ⊢; omega)
        rw [List.take_succ_eq_append_getElem hi, ho]
        refine ⟨⟨0, by simp⟩, fun a r h => ?_⟩
        have := (List.append_inj' h rfl).2
        injection this with h2 _; rw [← h2]
        simpa [at_, List.getD_eq_getElem?_getD, hi] using h0
theorem rTrim (xs : List Int) (hn : xs.length ≤ 17592186043904) : Ev (fun k => topiaryref02_Trim.f k xs) (trim xs) :=
  ⟨2 * xs.length + 1, fun k hk => (rTrim_both xs hn (2 * xs.length) k).1 0 0 [] (by omega) (by omega) (by omega) ⟨⟨0, by simp⟩, fun a r h => by simp at h⟩ (by simp)⟩

theorem gat_over (xs : List Int) (j : Nat) (h : xs.length ≤ j) : at_ xs j = 0 := by simp [at_, List.getD_eq_getElem?_getD, h]
theorem gat_range {xs : List Int} (h : chk xs = 0) (j : Nat) : 0 ≤ at_ xs j ∧ at_ xs j ≤ 1099511627776 := by
  rcases Nat.lt_or_ge j xs.length with g | g
  · exact (chk_ok h).2 _ (by simp [at_, List.getD_eq_getElem?_getD, g])
  · rw [gat_over xs j g]; omega
/-- what a has and b lacks, of the first n replicas -/
def gapsN (a b : List Int) : Nat → List S36
  | 0 => []
  | n + 1 => gapsN a b n ++ (if at_ b n < at_ a n then [⟨(n : Int), at_ b n + 1, at_ a n⟩] else [])
theorem gapsN_le (a b : List Int) : ∀ n, (gapsN a b n).length ≤ n
  | 0 => by simp [gapsN]
  | n + 1 => by have := gapsN_le a b n; simp only [gapsN, List.length_append]; split <;> simp <;> omega
theorem rd_at (xs : List Int) (i : Nat) : rd xs (i : Int) = at_ xs i := by simp [rd, at_]
theorem pEach_l0 (a b : List Int) (ka : chk a = 0) (kb : chk b = 0) : ∀ (d i k : Nat), i + d = a.length → d < k →
    clock_Each.l0 k a b (a.length : Int) (i : Int) (gapsN a b i) = some (gapsN a b a.length) := by
  intro d
  have hl := (chk_ok ka).1
  induction d with
  | zero =>
    intro i k h hk
    obtain ⟨k, rfl⟩ : ∃ m, k = m + 1 := ⟨k - 1, by omega⟩
    obtain rfl : i = a.length := by omega
    simp only [clock_Each.l0]
    rw [if_neg (by omega)]
  | succ d ih =>
    intro i k h hk
    obtain ⟨k, rfl⟩ : ∃ m, k = m + 1 := ⟨k - 1, by omega⟩
    have hb := gat_range kb i
    have hle := gapsN_le a b i
    have hs := ih (i + 1) k (by omega) (by omega)
    simp only [gapsN] at hs
    simp only [clock_Each.l0]
    rw [if_pos (by omega), if_pos (by omega), if_pos (by omega), pAt_nat, rd_at]
    simp only [Option.bind_some]
    rw [wrap_in (n := (i : Int) + 1) (by omega) (by omega), wrap_in (n := at_ b i + 1) (by omega) (by omega), step_nat, if_pos (by omega : (gapsN a b i).length < 5864062014805)]
    by_cases hc : at_ b i < at_ a i
    · rw [if_pos hc]; rw [if_pos hc] at hs; exact hs
    · rw [if_neg hc]; rw [if_neg hc, List.append_nil] at hs; exact hs
/-- what Gaps tells -/
def gapsAll (a b : List Int) : List S36 × Int := if chk a = 0 then (if chk b = 0 then (gapsN a b a.length, 0) else ([], chk b)) else ([], chk a)
theorem pGaps (a b : List Int) (ha : a.length ≤ 17592186043904) (hb : b.length ≤ 17592186043904) : Ev (fun k => clock_Gaps.f k a b) (gapsAll a b) := by
  have hboth := pBoth a b ha hb
  unfold clock_Gaps.f
  refine Ev.bind hboth ?_
  unfold gapsAll
  by_cases h1 : chk a = 0
  · by_cases h2 : chk b = 0
    · simp only [if_pos h1, if_pos h2, if_true] at hboth ⊢
      have he : Ev (fun k => clock_Each.f k a b) (gapsN a b a.length) := by
        unfold clock_Each.f
        refine Ev.bind hboth ?_
        rw [h2]
        simp only [if_true]
        exact ⟨a.length + 1, fun k hk => pEach_l0 a b h1 h2 a.length 0 k (by omega) (by omega)⟩
      refine Ev.bind he ?_
      rw [if_pos (by have := gapsN_le a b a.length; have := (chk_ok h1).1; omega)]
      exact Ev.now _
    · simp only [if_pos h1, if_neg h2]
      exact Ev.now _
  · simp only [if_neg h1]
    exact Ev.now _
theorem gapsAll_len (a b : List Int) : (gapsAll a b).1.length ≤ 64 := by
  unfold gapsAll
  split
  · rename_i h
    split
    · have := gapsN_le a b a.length; have := (chk_ok h).1; simp only; omega
    · simp
  · simp

theorem at_over (xs : List Int) (j : Nat) (h : xs.length ≤ j) : at_ xs j = 0 := by simp [at_, List.getD_eq_getElem?_getD, h]
theorem at_trim (xs : List Int) (j : Nat) : at_ (trim xs) j = at_ xs j := by
  obtain ⟨⟨z, h⟩, _⟩ := trim_is xs
  generalize trim xs = t at *
  subst h
  rcases Nat.lt_or_ge j t.length with g | g
  · simp [at_, List.getD_eq_getElem?_getD, List.getElem?_append_left g]
  · rw [at_over t j g]
    simp only [at_, List.getD_eq_getElem?_getD, List.getElem?_append_right g, List.getElem?_replicate]
    split <;> rfl
theorem trim_ext {xs ys : List Int} (h : ∀ j, at_ xs j = at_ ys j) : trim xs = trim ys := by
  have key : ∀ (xs ys : List Int), (∀ j, at_ xs j = at_ ys j) → (trim xs).length ≤ (trim ys).length → trim xs = trim ys := by
    intro xs ys h hl
    have hat : ∀ j, at_ (trim xs) j = at_ (trim ys) j := fun j => by rw [at_trim, at_trim, h]
    have h2 := (trim_is ys).2
    generalize trim xs = t at *
    generalize trim ys = u at *
    have hlen : t.length = u.length := by
      rcases Nat.lt_or_ge t.length u.length with g | g
      · rcases List.eq_nil_or_concat u with rfl | ⟨r, a, rfl⟩
        · simp at g
        · have := hat r.length
          rw [at_over t _ (by simp at g; omega)] at this
          have e : at_ (r ++ [a]) r.length = a := by simp [at_, List.getD_eq_getElem?_getD]
          rw [List.concat_eq_append, e] at this
          exact absurd this.symm (h2 a r (by simp))
      · omega
    refine List.ext_getElem hlen fun j h1 h3 => ?_
    have := hat j
    simpa [at_, List.getD_eq_getElem?_getD, h1, h3] using this
  rcases Nat.le_total (trim xs).length (trim ys).length with g | g
  · exact key xs ys h g
  · exact (key ys xs (fun j => (h j).symm) g).symm

/-! numerals, as lists of bytes -/
def isD (x : UInt8) : Bool := decide (48 ≤ x.toNat) && decide (x.toNat ≤ 57)
/-- The number that goes on from n by these digits, if all are digits. -/
def res : Nat → List UInt8 → Option Nat
  | n, [] => some n
  | n, x :: l => if isD x = true then res (10 * n + (x.toNat - 48)) l else none
theorem res_append : ∀ (l m : List UInt8) (n : Nat), res n (l ++ m) = (res n l).bind fun k => res k m
  | [], m, n => rfl
  | x :: l, m, n => by
    simp only [List.cons_append, res]
    split
    · exact res_append l m _
    · rfl
theorem toNat_of {n : Nat} (h : n < 10) : (UInt8.ofNat (48 + n)).toNat = 48 + n := by
  rw [UInt8.toNat_ofNat']; omega
theorem isD_of {n : Nat} (h : n < 10) : isD (UInt8.ofNat (48 + n)) = true := by
  unfold isD; rw [toNat_of h]; simp; omega
theorem of_isD {x : UInt8} (h : isD x = true) : UInt8.ofNat (48 + (x.toNat - 48)) = x ∧ x.toNat - 48 < 10 := by
  unfold isD at h
  simp only [Bool.and_eq_true, decide_eq_true_eq] at h
  refine ⟨?_, by omega⟩
  rw [show 48 + (x.toNat - 48) = x.toNat from by omega]
  exact UInt8.ofNat_toNat
/-- The one form of a numeral: not empty, no nought ahead. -/
def canon (l : List UInt8) : Prop := l ≠ [] ∧ (l.length = 1 ∨ l.head? ≠ some 48)
theorem dec_small {u : Nat} (h : u < 10) : Lib.decDigits u = [UInt8.ofNat (48 + u)] := by rw [Lib.decDigits, dif_pos h]
theorem dec_big {u : Nat} (h : ¬ u < 10) : Lib.decDigits u = Lib.decDigits (u / 10) ++ [UInt8.ofNat (48 + u % 10)] := by rw [Lib.decDigits, dif_neg h]
theorem dec_res : ∀ (u : Nat), res 0 (Lib.decDigits u) = some u := by
  intro u
  induction u using Nat.strongRecOn with
  | _ u ih =>
    by_cases h : u < 10
    · rw [dec_small h]
      simp only [res, isD_of h, if_true, toNat_of h]
      congr 1; omega
    · rw [dec_big h, res_append, ih (u / 10) (by omega)]
      simp only [Option.bind_some, res, isD_of (show u % 10 < 10 by omega), if_true, toNat_of (show u % 10 < 10 by omega)]
      congr 1; omega
theorem dec_ne (u : Nat) : Lib.decDigits u ≠ [] := by
  by_cases h : u < 10
  · rw [dec_small h]; simp
  · rw [dec_big h]; simp
theorem dec_head : ∀ (u : Nat), 1 ≤ u → (Lib.decDigits u).head? ≠ some 48 := by
  intro u
  induction u using Nat.strongRecOn with
  | _ u ih =>
    intro h1
    by_cases h : u < 10
    · rw [dec_small h]
      simp only [List.head?_cons, ne_eq, Option.some.injEq]
      intro he
      have := congrArg UInt8.toNat he
      rw [toNat_of h] at this
      simp at this
      omega
    · rw [dec_big h]
      have hi := ih (u / 10) (by omega) (by omega)
      rcases hd : Lib.decDigits (u / 10) with _ | ⟨y, m⟩
      · exact absurd hd (dec_ne _)
      · rw [hd] at hi; simpa using hi
theorem dec_canon (u : Nat) : canon (Lib.decDigits u) := by
  refine ⟨dec_ne u, ?_⟩
  by_cases h : u < 10
  · left; rw [dec_small h]; rfl
  · right; exact dec_head u (by omega)
theorem dec_length : ∀ (n u : Nat), 1 ≤ n → u < 10 ^ n → (Lib.decDigits u).length ≤ n := by
  intro n
  induction n with
  | zero => intro u h; omega
  | succ n ih =>
    intro u _ hu
    by_cases h : u < 10
    · rw [dec_small h]; simp
    · rw [dec_big h]
      have hn : 1 ≤ n := by
        rcases n with _ | n
        · simp at hu; omega
        · omega
      have := ih (u / 10) hn (by rw [Nat.pow_succ] at hu; omega)
      simp; omega
theorem res_le : ∀ (l : List UInt8) (n v : Nat), res n l = some v → n ≤ v
  | [], n, v, h => by simp only [res, Option.some.injEq] at h; omega
  | x :: l, n, v, h => by
    simp only [res] at h
    split at h
    · have := res_le l _ v h; omega
    · cases h
/-- A numeral in its one form is the numeral of its number. -/
theorem dec_of_res : ∀ (k : Nat) (l : List UInt8) (v : Nat), l.length = k → canon l → res 0 l = some v → Lib.decDigits v = l := by
  intro k
  induction k with
  | zero => intro l v hl hc; exact absurd (List.eq_nil_of_length_eq_zero hl) hc.1
  | succ k ih =>
    intro l v hl hc hv
    obtain ⟨m, x, rfl⟩ : ∃ m x, l = m ++ [x] := ⟨l.dropLast, l.getLast hc.1, (List.dropLast_concat_getLast hc.1).symm⟩
    rw [res_append] at hv
    obtain ⟨q, hq, hz⟩ := Option.bind_eq_some_iff.mp hv
    clear hv
    simp only [res] at hz
    split at hz
    · rename_i hx
      have hv := Option.some.inj hz
      obtain ⟨hx1, hx2⟩ := of_isD hx
      have hml : m.length = k := by simpa using hl
      rcases m with _ | ⟨y, m⟩
      · simp only [res, Option.some.injEq] at hq
        subst hq
        subst hv
        rw [dec_small (by omega)]
        simp only [Nat.mul_zero, Nat.zero_add, List.nil_append, hx1]
      · have hh : (y :: m).head? ≠ some 48 := by
          rcases hc.2 with h | h
          · simp at h
          · simpa using h
        have hi := ih (y :: m) q hml ⟨by simp, .inr hh⟩ hq
        have hq1 : 1 ≤ q := by
          rcases Nat.eq_zero_or_pos q with h0 | h0
          · subst h0
            rw [dec_small (by omega)] at hi
            simp only [List.cons.injEq] at hi
            obtain ⟨hy, _⟩ := hi
            exact absurd (by rw [← hy]; rfl) hh
          · exact h0
        subst hv
        rw [dec_big (by omega), show (10 * q + (x.toNat - 48)) / 10 = q from by omega, show (10 * q + (x.toNat - 48)) % 10 = x.toNat - 48 from by omega, hx1, hi]
    · cases hz
theorem res_lt : ∀ (l : List UInt8) (n v j : Nat), res n l = some v → n < 10 ^ j → v < 10 ^ (j + l.length)
  | [], n, v, j, h, hn => by simp only [res, Option.some.injEq] at h; subst h; simpa using hn
  | x :: l, n, v, j, h, hn => by
    simp only [res] at h
    split at h
    · rename_i hx
      have h2 := (of_isD hx).2
      have := res_lt l _ v (j + 1) h (by rw [Nat.pow_succ]; omega)
      simpa [Nat.add_assoc, Nat.add_comm 1] using this
    · cases h

theorem size_len (a : ByteArray) : a.size = a.data.toList.length := rfl
theorem bt_list (a : ByteArray) (i : Nat) (h : i < a.data.toList.length) : bt a (i : Int) = ((a.data.toList[i]).toNat : Int) := by
  unfold bt
  rw [dif_pos (show ((i : Int)).toNat < a.size from by rw [Int.toNat_natCast]; exact h)]
  rfl
theorem bt_isD {x : UInt8} : (¬ ((x.toNat : Int) < 48) ∧ ¬ ((x.toNat : Int) > 57)) ↔ isD x = true := by
  unfold isD; simp only [Bool.and_eq_true, decide_eq_true_eq]; omega
/-- What 'whole' says of a text: up to so many digits. -/
def whole (mx_ : Nat) (l : List UInt8) : Option Nat := if l.length = 0 ∨ l.length > mx_ ∨ (l.head? = some 48 ∧ l.length > 1) then none else res 0 l
theorem head48 : ∀ (l : List UInt8) (h : 0 < l.length), ((l[0].toNat : Int) = 48 ↔ l.head? = some 48)
  | [], h => by simp at h
  | x :: l, h => by
    simp only [List.getElem_cons_zero, List.head?_cons, Option.some.injEq]
    constructor
    · intro e; exact UInt8.toNat_inj.mp (show x.toNat = (48 : UInt8).toNat from by simp; omega)
    · rintro rfl; rfl
theorem bt_head (a : ByteArray) (h : a.size ≠ 0) : bt a 0 = 48 ↔ a.data.toList.head? = some 48 := by
  have hl : 0 < a.data.toList.length := by rw [← size_len]; omega
  have := bt_list a 0 hl
  rw [show bt a 0 = ((a.data.toList[0]).toNat : Int) from this]
  exact head48 _ hl

def out13 (o : Option Nat) : Int × Bool := match o with | some v => ((v : Int), decide ((v : Int) ≤ 1099511627776)) | none => (0, false)
theorem number_l0 (a : ByteArray) (ha : a.size ≤ 13) : ∀ (m i n k : Nat), i + m = a.size → n < 10 ^ i → m < k → clock_number.l0 k a (n : Int) (a.size : Int) (i : Int) = some (out13 (res n (a.data.toList.drop i)))
  | 0, i, n, k, hi, hn, hk => by
    obtain ⟨k, rfl⟩ : ∃ q, k = q + 1 := ⟨k - 1, by omega⟩
    simp only [clock_number.l0]
    rw [if_neg (by omega), List.drop_eq_nil_of_le (by rw [← size_len]; omega)]
    rfl
  | m + 1, i, n, k, hi, hn, hk => by
    obtain ⟨k, rfl⟩ : ∃ q, k = q + 1 := ⟨k - 1, by omega⟩
    have hil : i < a.data.toList.length := by rw [← size_len]; omega
    have hp : 10 ^ i ≤ 10 ^ 13 := Nat.pow_le_pow_right (by omega) (by omega)
    simp only [clock_number.l0]
    rw [if_pos (by omega), if_pos (by omega), if_pos (by omega), bt_list a i hil, List.drop_eq_getElem_cons hil]
    generalize a.data.toList[i] = x
    by_cases hx : isD x = true
    · obtain ⟨h1, h2⟩ := bt_isD.mpr hx
      rw [if_neg h1, if_neg h2]
      have hb := (of_isD hx).2
      have e1 : wrap64 (wrap64 (10 * (n : Int)) + (((x.toNat : Int) - 48) % 256)) = ((10 * n + (x.toNat - 48) : Nat) : Int) := by
        rw [IntWalk.wrap64_in (10 * (n : Int)) ⟨by omega, by omega⟩, show ((x.toNat : Int) - 48) % 256 = (x.toNat : Int) - 48 from by omega, IntWalk.wrap64_in _ ⟨by omega, by omega⟩]
        omega
      have e2 : wrap64 ((i : Int) + 1) = ((i + 1 : Nat) : Int) := by rw [IntWalk.wrap64_in _ ⟨by omega, by omega⟩]; omega
      rw [e1, e2, number_l0 a ha m (i + 1) _ k (by omega) (by rw [Nat.pow_succ]; omega) (by omega)]
      simp only [res, hx, if_true]
    · simp only [res, hx, Bool.false_eq_true, if_false, out13]
      by_cases h1 : (x.toNat : Int) < 48
      · rw [if_pos h1]
      · rw [if_neg h1]
        by_cases h2 : (x.toNat : Int) > 57
        · rw [if_pos h2]
        · exact absurd (bt_isD.mp ⟨h1, h2⟩) hx
theorem number_f (k : Nat) (a : ByteArray) : clock_number.f (k + 20) a = some (out13 (whole 13 a.data.toList)) := by
  unfold clock_number.f whole
  rw [← size_len]
  by_cases h0 : a.size = 0
  · rw [if_pos (by omega), if_pos (.inl h0)]; simp [clock_number.j0, out13]
  · rw [if_neg (by omega)]
    by_cases h1 : a.size > 13
    · rw [if_pos (by omega), if_pos (.inr (.inl h1))]; simp [clock_number.j0, out13]
    · rw [if_neg (by omega), if_pos (by omega)]
      have hrun : clock_number.j0 (k + 20) a false = some (out13 (res 0 a.data.toList)) := by
        simp only [clock_number.j0, Bool.false_eq_true, if_false]
        have := number_l0 a (by omega) a.size 0 0 (k + 19) (by omega) (by omega) (by omega)
        simpa using this
      by_cases h2 : bt a 0 = 48
      · rw [if_pos h2]
        have h3 := (bt_head a h0).mp h2
        by_cases h4 : a.size > 1
        · rw [if_pos (.inr (.inr ⟨h3, h4⟩)), decide_eq_true (show (a.size : Int) > 1 from by omega)]
          simp [clock_number.j0, out13]
        · rw [decide_eq_false (show ¬ (a.size : Int) > 1 from by omega), hrun, if_neg (by rintro (h | h | h) <;> omega)]
      · rw [if_neg h2, hrun, if_neg (by
          rintro (h | h | h)
          · omega
          · omega
          · exact h2 ((bt_head a h0).mpr h.1))]


/-! the text of a clock -/
def dg (x : Int) : List UInt8 := Lib.decDigits x.toNat
def jn (t : List Int) : List UInt8 := Lib.join (t.map dg) [44]
theorem join_snoc (l : List (List UInt8)) (y sep : List UInt8) (h : l ≠ []) : Lib.join (l ++ [y]) sep = Lib.join l sep ++ sep ++ y := by
  rcases l with _ | ⟨x, r⟩
  · exact absurd rfl h
  · rw [List.cons_append, Lib.join_cons, Lib.join_cons]
    simp [Lib.joinTail, List.append_assoc]
theorem jn_snoc (t : List Int) (x : Int) (h : t ≠ []) : jn (t ++ [x]) = jn t ++ 44 :: dg x := by
  unfold jn
  rw [List.map_append, List.map_cons, List.map_nil, join_snoc _ _ _ (by simpa using h)]
  simp
theorem jn_one (x : Int) : jn [x] = dg x := by unfold jn; rw [List.map_cons, List.map_nil, Lib.join_one]
def Fits (t : List Int) : Prop := ∀ x ∈ t, 0 ≤ x ∧ x ≤ 1099511627776
theorem dg_le {x : Int} (h : x ≤ 1099511627776) : (dg x).length ≤ 13 := dec_length 13 _ (by omega) (by omega)
theorem jn_le_ : ∀ (n : Nat) (t : List Int), t.length = n → Fits t → (jn t).length ≤ 14 * t.length
  | 0, t, hn, _ => by
    obtain rfl := List.eq_nil_of_length_eq_zero hn
    simp [jn, Lib.join_nil]
  | n + 1, t, hn, h => by
    have hne : t ≠ [] := by rintro rfl; simp at hn
    obtain ⟨m, x, rfl⟩ : ∃ m x, t = m ++ [x] := ⟨t.dropLast, t.getLast hne, (List.dropLast_concat_getLast hne).symm⟩
    have hx := (h x (by simp)).2
    have hl := dg_le hx
    by_cases ht : m = []
    · subst ht; rw [List.nil_append, jn_one]; simp; omega
    · rw [jn_snoc m x ht]
      have := jn_le_ n m (by simpa using hn) (fun y hy => h y (by simp [hy]))
      simp; omega
theorem jn_le (t : List Int) (h : Fits t) : (jn t).length ≤ 14 * t.length := jn_le_ _ t rfl h
theorem jn_ne (t : List Int) (h : t ≠ []) : jn t ≠ [] := by
  rcases t with _ | ⟨x, r⟩
  · exact absurd rfl h
  · unfold jn
    rw [List.map_cons, Lib.join_cons]
    have := dec_ne x.toNat
    simp [dg, this]
def txt (t : List Int) : ByteArray := if t = [] then ⟨#[45]⟩ else ⟨(jn t).toArray⟩
def wordOf (x : Int) : ByteArray := ⟨(dg x).toArray⟩
theorem itoa_f (x : Int) (h0 : 0 ≤ x) (h1 : x ≤ 1099511627776) : strconv_Itoa_16.f x = some (wordOf x) := by
  unfold strconv_Itoa_16.f
  rw [if_pos h0, if_pos (by omega)]
  obtain ⟨n, rfl⟩ : ∃ n : Nat, x = n := ⟨x.toNat, by omega⟩
  rw [Lib.itoa_nonneg]; rfl
theorem pText_l0 (t : List Int) (hl : t.length ≤ 64) (hf : Fits t) : ∀ (d i k : Nat), i + d = t.length → d < k → clock_Text.l0 k ((t.take i).map wordOf) t (t.length : Int) (i : Int) = some (txt t, 0)
  | 0, i, 0, hi, hk => by omega
  | 0, i, k + 1, hi, hk => by
    simp only [clock_Text.l0]
    rw [if_neg (by omega), List.take_of_length_le (by omega)]
    unfold txt
    by_cases ht : t = []
    · subst ht; rfl
    · rw [if_neg (by intro e; exact ht (List.eq_nil_of_length_eq_zero (by simpa using e))), if_neg ht]
      unfold strings_Join.f
      have e : ((t.map wordOf).map (·.data.toList)) = t.map dg := by rw [List.map_map]; rfl
      rw [if_pos (by simp; omega), e, show (⟨#[44]⟩ : ByteArray).data.toList = [44] from rfl, if_pos (by have := jn_le t hf; unfold jn at this; omega)]
      rfl
  | d + 1, i, 0, hi, hk => by omega
  | d + 1, i, k + 1, hi, hk => by
    have hil : i < t.length := by omega
    simp only [clock_Text.l0]
    have hm := hf t[i] (List.getElem_mem hil)
    rw [if_pos (by omega), if_pos (by omega), if_pos (by omega), rd_get t i hil, itoa_f _ hm.1 hm.2]
    simp only [Option.bind_some]
    rw [if_pos (by simp; omega), wrap_in (by omega) (by omega), step_nat]
    have := pText_l0 t hl hf d (i + 1) k (by omega) (by omega)
    rw [List.take_succ_eq_append_getElem hil, List.map_append] at this
    exact this
noncomputable def textV (xs : List Int) : ByteArray × Int := if chk xs = 0 then (txt (trim xs), 0) else (⟨#[]⟩, chk xs)
theorem trim_fits (xs : List Int) (h : chk xs = 0) : (trim xs).length ≤ 64 ∧ Fits (trim xs) := by
  obtain ⟨h1, h2⟩ := chk_ok h
  have hl := (trim_is xs).length_le
  obtain ⟨⟨z, hz⟩, _⟩ := trim_is xs
  exact ⟨by omega, fun x hx => h2 x (by rw [hz]; exact List.mem_append_left _ hx)⟩
theorem pText (xs : List Int) (hn : xs.length ≤ 17592186043904) : Ev (fun k => clock_Text.f k xs) (textV xs) := by
  unfold clock_Text.f textV
  refine Ev.bind (pCheck xs hn) ?_
  by_cases h : chk xs = 0
  · rw [if_pos h]
    simp only [h, if_true]
    obtain ⟨h1, h2⟩ := trim_fits xs h
    refine Ev.bind (pTrim xs (by omega)) ⟨(trim xs).length + 1, fun k hk => ?_⟩
    exact pText_l0 (trim xs) h1 h2 (trim xs).length 0 k (by omega) (by omega)
  · simp only [h, if_false]
    exact Ev.now _


/-! the clock of a text -/
def spl : List UInt8 → List (List UInt8)
  | [] => [[]]
  | x :: l => if x = 44 then [] :: spl l else match spl l with | [] => [[x]] | w :: ws => (x :: w) :: ws
theorem spl_ne (l : List UInt8) : spl l ≠ [] := by
  rcases l with _ | ⟨x, l⟩
  · simp [spl]
  · simp only [spl]
    split
    · simp
    · split <;> simp
theorem spl_index : ∀ l : List UInt8, (Lib.index l [44] = -1 ∧ spl l = [l]) ∨ ∃ i : Nat, Lib.index l [44] = i ∧ i < l.length ∧ spl l = l.take i :: spl (l.drop (i + 1))
  | [] => .inl ⟨by simp [Lib.index], rfl⟩
  | x :: l => by
    by_cases hx : x = 44
    · subst hx
      exact .inr ⟨0, by simp [Lib.index], by simp, by simp [spl]⟩
    · have hp : List.isPrefixOf [44] (x :: l) = false := by simp [List.isPrefixOf, Ne.symm hx]
      rcases spl_index l with ⟨h1, h2⟩ | ⟨i, h1, h2, h3⟩
      · left
        refine ⟨?_, ?_⟩
        · simp [Lib.index, hp, h1]
        · simp only [spl, if_neg hx, h2]
      · right
        refine ⟨i + 1, ?_, by simp; omega, ?_⟩
        · simp only [Lib.index, hp, h1, Bool.false_eq_true, if_false]
          rw [if_neg (by simp)]
          omega
        · simp only [spl, if_neg hx, h3, List.take_succ_cons, List.drop_succ_cons]
theorem split_spl : ∀ (k : Nat) (s : ByteArray), Lib.countB s ⟨#[44]⟩ = k → (Lib.splitB ⟨#[44]⟩ 0 k s).map (·.data.toList) = spl s.data.toList := by
  intro k
  induction k with
  | zero =>
    intro s hk
    rcases spl_index s.data.toList with ⟨h1, h2⟩ | ⟨i, h1, h2, h3⟩
    · rw [Lib.splitB_miss _ _ _ _ h1, h2]; rfl
    · have := Lib.countB_hit s ⟨#[44]⟩ i (by decide) h1
      omega
  | succ k ih =>
    intro s hk
    rcases spl_index s.data.toList with ⟨h1, h2⟩ | ⟨i, h1, h2, h3⟩
    · rw [Lib.splitB_miss _ _ _ _ h1, h2]; rfl
    · have hc := Lib.countB_hit s ⟨#[44]⟩ i (by decide) h1
      rw [Lib.splitB_hit _ _ _ _ i h1, List.map_cons, ih _ (by omega), h3, Lib.extract_from_zero, Lib.extract_to_end]
      rfl
def final (out : List Int) : List Int × Int := if rd out ((out.length : Int) - 1) = 0 then ([], 2) else (out, 0)
def runP (out : List Int) : List (List UInt8) → List Int × Int
  | [] => final out
  | w :: ws => if (out13 (whole 13 w)).2 = true then runP (out ++ [(out13 (whole 13 w)).1]) ws else ([], 2)
theorem pParse_l0 (ws : List ByteArray) (hl : ws.length ≤ 64) : ∀ (d i k : Nat) (out : List Int), i + d = ws.length → d + 40 < k → out.length = i → (d = 0 → out ≠ []) →
    clock_Parse.l0 k out ws (ws.length : Int) (i : Int) = some (runP out ((ws.drop i).map (·.data.toList)))
  | 0, i, 0, out, hi, hk, ho, hne => by omega
  | 0, i, k + 1, out, hi, hk, ho, hne => by
    have hp : 1 ≤ out.length := List.length_pos_iff.mpr (hne rfl)
    simp only [clock_Parse.l0]
    rw [if_neg (by omega), wrap_in (by omega) (by omega), if_pos (by omega), if_pos (by omega), List.drop_eq_nil_of_le (by omega)]
    simp only [List.map_nil, runP, final]
    split <;> rfl
  | d + 1, i, 0, out, hi, hk, ho, hne => by omega
  | d + 1, i, k + 1, out, hi, hk, ho, hne => by
    have hil : i < ws.length := by omega
    obtain ⟨k, rfl⟩ : ∃ q, k = q + 20 := ⟨k - 20, by omega⟩
    simp only [clock_Parse.l0]
    rw [if_pos (by omega), if_pos (by omega), if_pos (by omega), show rdOf ByteArray.empty ws (i : Int) = ws[i] from by simp [rdOf, List.getD_eq_getElem?_getD, hil], number_f]
    simp only [Option.bind_some]
    rw [List.drop_eq_getElem_cons hil, List.map_cons]
    simp only [runP]
    by_cases hw : (out13 (whole 13 (ws[i]).data.toList)).2 = true
    · rw [if_pos hw, if_pos hw, if_pos (by omega), wrap_in (by omega) (by omega), step_nat]
      exact pParse_l0 ws hl d (i + 1) (k + 20) _ (by omega) (by omega) (by simp [ho]) (by simp)
    · rw [if_neg hw, if_neg hw]
noncomputable def parseV (l : List UInt8) : List Int × Int := if l = [45] then ([], 0) else if (spl l).length > 64 then ([], 2) else runP [] (spl l)
theorem pParse (s : ByteArray) (hs : s.size ≤ 1048576) : Ev (fun k => clock_Parse.f k s) (parseV s.data.toList) := by
  unfold clock_Parse.f parseV
  rw [ByteArray.toList_eq]
  by_cases h1 : s.data.toList = [45]
  · rw [if_pos h1]
    simp only [h1, if_true]
    exact Ev.now _
  · rw [if_neg h1]
    simp only [h1, if_false]
    unfold strings_Split.f
    simp only [hs, if_true, show 1 ≤ (⟨#[44]⟩ : ByteArray).size from by decide, Option.bind_some]
    have hsp := split_spl _ s rfl
    have hlen := congrArg List.length hsp
    rw [List.length_map] at hlen
    generalize hws : Lib.splitB ⟨#[44]⟩ 0 (Lib.countB s ⟨#[44]⟩) s = ws at hsp hlen
    by_cases h2 : ws.length > 64
    · rw [if_pos (by omega)]
      simp only [show (ws.length : Int) > 64 from by omega, if_true]
      exact Ev.now _
    · rw [if_neg (by omega)]
      simp only [show ¬ ((ws.length : Int) > 64) from by omega, if_false]
      have hp : 1 ≤ ws.length := by rw [hlen]; exact List.length_pos_iff.mpr (spl_ne _)
      refine ⟨ws.length + 41, fun k hk => ?_⟩
      have := pParse_l0 ws (by omega) ws.length 0 k [] (by omega) (by omega) rfl (by omega)
      rw [List.drop_zero, hsp] at this
      exact this
theorem runP_len : ∀ (ws : List (List UInt8)) (out : List Int), (runP out ws).1.length ≤ out.length + ws.length
  | [], out => by
    simp only [runP, final]
    split <;> simp
  | w :: ws, out => by
    simp only [runP]
    split
    · have := runP_len ws (out ++ [(out13 (whole 13 w)).1])
      simp at this ⊢; omega
    · simp
theorem parseV_len (l : List UInt8) : (parseV l).1.length ≤ 64 := by
  unfold parseV
  split
  · simp
  · split
    · simp
    · have := runP_len (spl l) []
      simp at this; omega


/-! a clock's text, read -/
theorem res_no44 : ∀ (l : List UInt8) (n v : Nat), res n l = some v → ∀ x ∈ l, x ≠ 44
  | [], n, v, h, x, hx => by simp at hx
  | y :: l, n, v, h, x, hx => by
    simp only [res] at h
    split at h
    · rename_i hy
      rcases List.mem_cons.mp hx with rfl | hx
      · rintro rfl
        exact absurd hy (by decide)
      · exact res_no44 l _ v h x hx
    · cases h
theorem spl_word : ∀ (w l : List UInt8), (∀ x ∈ w, x ≠ 44) → spl (w ++ 44 :: l) = w :: spl l
  | [], l, h => by simp [spl]
  | x :: w, l, h => by
    simp only [List.cons_append, spl, if_neg (h x (by simp)), spl_word w l (fun y hy => h y (by simp [hy]))]
theorem spl_last : ∀ (w : List UInt8), (∀ x ∈ w, x ≠ 44) → spl w = [w]
  | [], h => rfl
  | x :: w, h => by
    simp only [spl, if_neg (h x (by simp)), spl_last w (fun y hy => h y (by simp [hy]))]
theorem dg_no44 (x : Int) : ∀ y ∈ dg x, y ≠ 44 := res_no44 _ 0 _ (dec_res x.toNat)
theorem jn_cons (x : Int) (r : List Int) (h : r ≠ []) : jn (x :: r) = dg x ++ 44 :: jn r := by
  rcases r with _ | ⟨y, r⟩
  · exact absurd rfl h
  · unfold jn
    rw [List.map_cons, List.map_cons, Lib.join_cons, Lib.join_cons]
    simp [Lib.joinTail]
theorem spl_jn : ∀ (t : List Int), t ≠ [] → spl (jn t) = t.map dg
  | [], h => absurd rfl h
  | [x], _ => by rw [jn_one, spl_last _ (dg_no44 x)]; rfl
  | x :: y :: r, _ => by
    rw [jn_cons x (y :: r) (by simp), spl_word _ _ (dg_no44 x), spl_jn (y :: r) (by simp)]
    rfl
theorem whole_dg {x : Int} (h0 : 0 ≤ x) (h1 : x ≤ 1099511627776) : out13 (whole 13 (dg x)) = (x, true) := by
  have hl := dg_le h1
  obtain ⟨c1, c2⟩ := dec_canon x.toNat
  have hw : whole 13 (dg x) = some x.toNat := by
    unfold whole
    rw [if_neg]
    · exact dec_res x.toNat
    · rintro (h3 | h3 | h3)
      · exact c1 (List.eq_nil_of_length_eq_zero h3)
      · omega
      · rcases c2 with c2 | c2
        · have := h3.2
          rw [show (dg x).length = 1 from c2] at this
          omega
        · exact c2 h3.1
  rw [hw]
  simp only [out13]
  rw [show ((x.toNat : Nat) : Int) = x from by omega, decide_eq_true h1]
theorem runP_dg : ∀ (t out : List Int), Fits t → runP out (t.map dg) = final (out ++ t)
  | [], out, h => by simp [runP]
  | x :: t, out, h => by
    have hx := h x (by simp)
    simp only [List.map_cons, runP, whole_dg hx.1 hx.2, if_true]
    rw [runP_dg t _ (fun y hy => h y (by simp [hy]))]
    simp
theorem jn_head (t : List Int) (h : t ≠ []) : jn t ≠ [45] := by
  rcases t with _ | ⟨x, r⟩
  · exact absurd rfl h
  · have hr := dec_res x.toNat
    have hn := dec_ne x.toNat
    unfold jn
    rw [List.map_cons, Lib.join_cons]
    unfold dg
    rcases hd : Lib.decDigits x.toNat with _ | ⟨y, m⟩
    · exact absurd hd hn
    · rw [hd] at hr
      simp only [res] at hr
      split at hr
      · rename_i hy
        intro e
        simp only [List.cons_append, List.cons.injEq] at e
        rw [e.1] at hy
        exact absurd hy (by decide)
      · cases hr
theorem parse_txt (t : List Int) (hl : t.length ≤ 64) (hf : Fits t) (hz : ∀ a r, t = r ++ [a] → a ≠ 0) : parseV (txt t).data.toList = (t, 0) := by
  unfold txt
  by_cases h : t = []
  · subst h; rfl
  · rw [if_neg h]
    show parseV (jn t) = (t, 0)
    unfold parseV
    rw [if_neg (jn_head t h), spl_jn t h, if_neg (by simp; omega), runP_dg t [] hf]
    unfold final
    simp only [List.nil_append]
    obtain ⟨m, x, rfl⟩ : ∃ m x, t = m ++ [x] := ⟨t.dropLast, t.getLast h, (List.dropLast_concat_getLast h).symm⟩
    rw [if_neg]
    rw [show (((m ++ [x]).length : Nat) : Int) - 1 = (m.length : Int) from by simp, rd_get _ m.length (by simp)]
    simpa using hz x m rfl
theorem txt_size (t : List Int) (hl : t.length ≤ 64) (hf : Fits t) : (txt t).size ≤ 1048576 := by
  unfold txt
  split
  · decide
  · have := jn_le t hf
    simp only [ByteArray.size, List.size_toArray]; omega
/-! the gaps filled -/
def fillN (a b : List Int) (n : Nat) : List Int := (List.range 64).map fun j => if j < n then max (at_ a j) (at_ b j) else at_ b j
theorem fillN_length (a b : List Int) (n : Nat) : (fillN a b n).length = 64 := by simp [fillN]
theorem fillN_at (a b : List Int) (n j : Nat) (h : j < 64) : at_ (fillN a b n) j = if j < n then max (at_ a j) (at_ b j) else at_ b j := by
  simp [fillN, at_, List.getD_eq_getElem?_getD, h]
theorem fill_zero (a b : List Int) (hb : b.length ≤ 64) : b.take (min b.length 64) ++ (List.replicate 64 (0 : Int)).drop (min b.length 64) = fillN a b 0 := by
  rw [Nat.min_eq_left hb, List.take_length]
  apply List.ext_getElem
  · simp [fillN]; omega
  · intro j h1 h2
    have hj : j < 64 := by simpa [fillN] using h2
    simp only [fillN, List.getElem_map, List.getElem_range, Nat.not_lt_zero, if_false]
    by_cases hjb : j < b.length
    · rw [List.getElem_append_left hjb]; simp [at_, List.getD_eq_getElem?_getD, hjb]
    · rw [List.getElem_append_right (by omega), List.getElem_drop, List.getElem_replicate]
      simp [at_, List.getD_eq_getElem?_getD, hjb]
theorem fill_set (a b : List Int) (n : Nat) (hn : n < 64) (h : at_ b n < at_ a n) : (fillN a b n).set n (at_ a n) = fillN a b (n + 1) := by
  apply List.ext_getElem
  · simp [fillN]
  · intro j h1 h2
    rw [List.getElem_set]
    simp only [fillN, List.getElem_map, List.getElem_range]
    by_cases hj : n = j
    · subst hj
      rw [if_pos rfl, if_pos (by omega)]; omega
    · rw [if_neg hj]
      by_cases hlt : j < n
      · rw [if_pos hlt, if_pos (by omega)]
      · rw [if_neg hlt, if_neg (by omega)]
theorem fill_skip (a b : List Int) (n : Nat) (h : ¬ at_ b n < at_ a n) : fillN a b n = fillN a b (n + 1) := by
  apply List.ext_getElem
  · simp [fillN]
  · intro j h1 h2
    simp only [fillN, List.getElem_map, List.getElem_range]
    by_cases hj : n = j
    · subst hj
      rw [if_neg (by omega), if_pos (by omega)]; omega
    · by_cases hlt : j < n
      · rw [if_pos hlt, if_pos (by omega)]
      · rw [if_neg hlt, if_neg (by omega)]


theorem gapsN_ge (a b : List Int) (n : Nat) : ∀ d, ∃ r, gapsN a b (n + d) = gapsN a b n ++ r
  | 0 => ⟨[], by simp⟩
  | d + 1 => by
    obtain ⟨r, hr⟩ := gapsN_ge a b n d
    refine ⟨r ++ (if at_ b (n + d) < at_ a (n + d) then [⟨((n + d : Nat) : Int), at_ b (n + d) + 1, at_ a (n + d)⟩] else []), ?_⟩
    show gapsN a b (n + d) ++ _ = _
    rw [hr, List.append_assoc]
    rfl
theorem fill_l0 (a b : List Int) (ka : chk a = 0) (kb : chk b = 0) (all : List Int) (s : ByteArray) (K : Nat)
    (hend : ∀ k, K ≤ k → ((clock_Parse.f k s).bind fun bt => ((topiaryref02_Trim.f k (fillN a b a.length)).bind fun t217 => ((topiaryref02_Same.f k t217 all).bind fun t220 => (if t220 = true then (if bt.2 = 0 then ((topiaryref02_Trim.f k a).bind fun t221 => ((topiaryref02_Same.f k bt.1 t221).bind fun t224 => (if t224 = true then ((topiarylaw02_awake.f k).bind fun t225 => (some t225)) else (some false)))) else (some false)) else (some false))))) = some true) :
    ∀ (d n k : Nat), n + d = a.length → K + d < k →
    topiarylaw02_ClockFills.l0 k a (gapsN a b a.length) all s (fillN a b n) ((gapsN a b n).length : Int) = some true
  | 0, n, 0, hn, hk => by omega
  | 0, n, k + 1, hn, hk => by
    obtain rfl : n = a.length := by omega
    simp only [topiarylaw02_ClockFills.l0]
    rw [if_neg (by omega)]
    exact hend k (by omega)
  | d + 1, n, 0, hn, hk => by omega
  | d + 1, n, k + 1, hn, hk => by
    obtain ⟨la, fa⟩ := chk_ok ka
    by_cases hlt : at_ b n < at_ a n
    · have hs : gapsN a b (n + 1) = gapsN a b n ++ [⟨(n : Int), at_ b n + 1, at_ a n⟩] := by simp [gapsN, hlt]
      obtain ⟨r, hr⟩ := gapsN_ge a b (n + 1) d
      rw [show n + 1 + d = a.length from by omega, hs, List.append_assoc] at hr
      have hl : (gapsN a b n).length < (gapsN a b a.length).length := by rw [hr]; simp
      have hg : rd_T36 (gapsN a b a.length) ((gapsN a b n).length : Int) = ⟨(n : Int), at_ b n + 1, at_ a n⟩ := by
        rw [hr]; simp [rd_T36, List.getD_eq_getElem?_getD]
      have hb := gat_range kb n
      have ha := gat_range ka n
      have hgl := gapsN_le a b a.length
      have hfa : at_ (fillN a b n) n = at_ b n := by rw [fillN_at a b n n (by omega), if_neg (by omega)]
      simp only [topiarylaw02_ClockFills.l0]
      rw [if_pos (by omega), if_pos (by omega), hg]
      simp only
      rw [if_neg (by omega), if_neg (by rw [fillN_length]; omega), if_pos (by omega), if_pos (by rw [fillN_length]; omega), rd_at, hfa,
        wrap_in (n := at_ b n + 1 - 1) (by omega) (by omega), if_pos (by omega), if_neg (by omega), Int.toNat_natCast, fill_set a b n (by omega) hlt, wrap_in (by omega) (by omega), step_nat]
      have next := fill_l0 a b ka kb all s K hend d (n + 1) k (by omega) (by omega)
      rw [hs] at next
      simpa using next
    · have hs : gapsN a b (n + 1) = gapsN a b n := by simp [gapsN, hlt]
      have next := fill_l0 a b ka kb all s K hend d (n + 1) (k + 1) (by omega) (by omega)
      rw [hs, ← fill_skip a b n hlt] at next
      exact next
theorem ClockFills : topiarylaw02_ClockFills.Pure := by
  intro a b h1 h2 h3 h4 h5 h6
  have ha : a.length ≤ 17592186043904 := by omega
  have hb : b.length ≤ 17592186043904 := by omega
  refine Ev.rounds ?_
  unfold topiarylaw02_ClockFills.f
  refine Ev.bind (pGaps a b ha hb) (Ev.bind (pMerge a b ha hb) (Ev.bind (pText a ha) ?_))
  by_cases ka : chk a = 0
  · by_cases kb : chk b = 0
    · obtain ⟨la, fa⟩ := chk_ok ka
      obtain ⟨lb, fb⟩ := chk_ok kb
      obtain ⟨lt, ft⟩ := trim_fits a ka
      simp only [gapsAll, mrg, textV, ka, kb, if_true, bne_self_eq_false]
      refine Ev.step (f := fun k => topiarylaw02_ClockFills.l0 k a (gapsN a b a.length) (trim (maxN a b (max a.length b.length))) (txt (trim a)) (fillN a b 0) 0) (fun k => ?_) ?_
      · simp only [topiarylaw02_ClockFills.j0, Bool.false_eq_true, if_false, Option.bind_some, List.length_replicate, fill_zero a b lb]
        rw [if_pos (by omega)]
      · have hpar := parse_txt (trim a) lt ft (trim_is a).2
        have hsz := txt_size (trim a) lt ft
        have htr : trim (fillN a b a.length) = trim (maxN a b (max a.length b.length)) := by
          refine trim_ext fun j => ?_
          have ra := gat_range ka j
          have rb := gat_range kb j
          have hm : at_ (maxN a b (max a.length b.length)) j = if j < max a.length b.length then max (at_ a j) (at_ b j) else 0 := by
            simp only [maxN, at_, List.getD_eq_getElem?_getD, List.getElem?_map, List.getElem?_range]
            by_cases hj : j < max a.length b.length <;> simp [hj]
          rw [hm]
          by_cases hj : j < 64
          · rw [fillN_at a b _ j hj]
            by_cases h7 : j < a.length
            · rw [if_pos h7, if_pos (by omega)]
            · rw [if_neg h7, gat_over a j (by omega)]
              by_cases h8 : j < b.length
              · rw [if_pos (by omega)]; omega
              · rw [if_neg (by omega), gat_over b j (by omega)]
          · rw [if_neg (by omega), gat_over _ j (by rw [fillN_length]; omega)]
        have hml : (trim (maxN a b (max a.length b.length))).length ≤ 64 := by
          have := (trim_is (maxN a b (max a.length b.length))).length_le
          rw [maxN_length] at this; omega
        have E : Ev (fun k => (clock_Parse.f k (txt (trim a))).bind fun bt => ((topiaryref02_Trim.f k (fillN a b a.length)).bind fun t217 => ((topiaryref02_Same.f k t217 (trim (maxN a b (max a.length b.length)))).bind fun t220 => (if t220 = true then (if bt.2 = 0 then ((topiaryref02_Trim.f k a).bind fun t221 => ((topiaryref02_Same.f k bt.1 t221).bind fun t224 => (if t224 = true then ((topiarylaw02_awake.f k).bind fun t225 => (some t225)) else (some false)))) else (some false)) else (some false))))) true := by
          refine Ev.bind (pParse (txt (trim a)) hsz) (Ev.bind (rTrim _ (by rw [fillN_length]; omega)) ?_)
          rw [hpar, htr]
          refine Ev.bind (rSame _ _ (by omega)) ?_
          simp only [decide_true, if_true]
          refine Ev.bind (rTrim a ha) (Ev.bind (rSame _ _ (by omega)) ?_)
          simp only [decide_true, if_true]
          exact Ev.bind awake (Ev.now _)
        obtain ⟨K, hK⟩ := E
        refine ⟨K + a.length + 1, fun k hk => ?_⟩
        exact fill_l0 a b ka kb _ _ K hK a.length 0 k (by omega) (by omega)
    · simp only [gapsAll, mrg, textV, ka, kb, if_true, if_false]
      refine Ev.step (f := fun k => (topiarylaw02_awake.f k).bind fun t => some t) (fun k => ?_) (Ev.bind awake (Ev.now _))
      simp [topiarylaw02_ClockFills.j0]
  · simp only [gapsAll, mrg, textV, ka, if_false]
    refine Ev.step (f := fun k => (topiarylaw02_awake.f k).bind fun t => some t) (fun k => ?_) (Ev.bind awake (Ev.now _))
    simp [topiarylaw02_ClockFills.j0]

end Go.Proofs.YtbnhjkcpecilbaaDoor.Pure
