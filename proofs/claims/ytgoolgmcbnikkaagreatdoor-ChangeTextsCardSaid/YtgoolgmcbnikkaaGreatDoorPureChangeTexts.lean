/- any change's text: the program and the reference tell the same, for every change. -/
import Derived.Test.YtgoolgmcbnikkaaGreatDoorQChangeTextsx
namespace Go.Proofs.YtgoolgmcbnikkaaGreatDoor.PureChangeTexts
open Go.RowKit Go.Proofs.YtgoolgmcbnikkaaGreatDoor.QChangeTexts Go.Proofs.YtgoolgmcbnikkaaGreatDoorW.PrintWords Go.Proofs.YtgoolgmcbnikkaaGreatDoorW.PrintLast
set_option linter.unusedVariables false
set_option linter.unusedSimpArgs false
theorem wrap_in {n : Int} (h0 : -9223372036854775808 ≤ n) (h1 : n ≤ 9223372036854775807) : wrap64 n = n := by unfold wrap64; omega
theorem step_nat (i : Nat) : (i : Int) + 1 = ((i + 1 : Nat) : Int) := by omega
theorem rd_get (xs : List Int) (i : Nat) (h : i < xs.length) : rd xs (i : Int) = xs[i] := by simp [rd, List.getD_eq_getElem?_getD, h]
theorem mx_max (a b : Int) : mx a b = max a b := by unfold mx; omega

/-- the first number that is out of its range -/
def chkL : List Int → Int
  | [] => 0
  | x :: r => if x < 0 then 1 else if x > 1099511627776 then 1 else chkL r
def chk (xs : List Int) : Int := if (xs.length : Int) > 64 then 3 else chkL xs
theorem chkL_ok : ∀ (xs : List Int), chkL xs = 0 → ∀ x ∈ xs, 0 ≤ x ∧ x ≤ 1099511627776
  | [], _, x, hx => by simp at hx
  | y :: r, h, x, hx => by
    simp only [chkL] at h
    split at h
    · omega
    · split at h
      · omega
      · rcases List.mem_cons.1 hx with rfl | hx
        · omega
        · exact chkL_ok r h x hx
theorem chk_ok {xs : List Int} (h : chk xs = 0) : xs.length ≤ 64 ∧ ∀ x ∈ xs, 0 ≤ x ∧ x ≤ 1099511627776 := by
  unfold chk at h
  split at h
  · omega
  · exact ⟨by omega, chkL_ok xs h⟩

theorem pCheck_l0 (xs : List Int) (hn : xs.length ≤ 17592186043904) : ∀ (d i k : Nat), i + d = xs.length → d < k →
    clock_Check.l0 k xs (xs.length : Int) (i : Int) = some (chkL (xs.drop i)) := by
  intro d
  induction d with
  | zero =>
    intro i k h hk
    obtain ⟨k, rfl⟩ : ∃ m, k = m + 1 := ⟨k - 1, by omega⟩
    simp only [clock_Check.l0]
    rw [if_neg (by omega), List.drop_eq_nil_of_le (by omega)]; rfl
  | succ d ih =>
    intro i k h hk
    obtain ⟨k, rfl⟩ : ∃ m, k = m + 1 := ⟨k - 1, by omega⟩
    have hi : i < xs.length := by omega
    simp only [clock_Check.l0]
    rw [if_pos (by omega), if_pos (by omega), if_pos (by omega), rd_get xs i hi, List.drop_eq_getElem_cons hi]
    simp only [chkL]
    split
    · rfl
    · split
      · rfl
      · rw [wrap_in (by omega) (by omega), step_nat]; exact ih (i + 1) k (by omega) (by omega)
theorem pCheck (xs : List Int) (hn : xs.length ≤ 17592186043904) : Ev (fun k => clock_Check.f k xs) (chk xs) := by
  refine ⟨xs.length + 1, fun k hk => ?_⟩
  simp only [clock_Check.f, chk]
  split
  · rfl
  · have := pCheck_l0 xs hn xs.length 0 k (by omega) (by omega); simpa using this

theorem pAt (xs : List Int) (i : Int) : clock_At.f xs i = some (if 0 ≤ i ∧ i < xs.length then rd xs i else 0) := by
  simp only [clock_At.f]
  by_cases h0 : i < 0
  · rw [if_pos h0, if_neg (by omega)]
  · rw [if_neg h0]
    by_cases h1 : i ≥ (xs.length : Int)
    · rw [if_pos h1, if_neg (by omega)]
    · rw [if_neg h1, if_pos (by omega), if_pos (by omega), if_pos (by omega)]
/-- a replica's number -/
def at_ (xs : List Int) (i : Nat) : Int := xs.getD i 0
theorem pAt_nat (xs : List Int) (i : Nat) : clock_At.f xs (i : Int) = some (at_ xs i) := by
  rw [pAt]; congr 1
  by_cases h : i < xs.length
  · rw [if_pos (by omega)]; simp [rd, at_]
  · rw [if_neg (by omega)]; simp [at_, List.getD_eq_getElem?_getD, h]


def IsTrim (t xs : List Int) : Prop := (∃ z, xs = t ++ List.replicate z 0) ∧ ∀ a r, t = r ++ [a] → a ≠ 0
theorem IsTrim.unique : ∀ {xs t u : List Int}, IsTrim t xs → IsTrim u xs → t = u := by
  have key : ∀ (xs t u : List Int), IsTrim t xs → IsTrim u xs → t.length ≤ u.length → t = u := by
    intro xs t u ⟨⟨z, h⟩, ht⟩ ⟨⟨y, g⟩, hu⟩ hl
    have e : u = t ++ List.replicate (z - y) 0 := by
      have hlen := congrArg List.length h
      have hlen' := congrArg List.length g
      simp at hlen hlen'
      have e1 : xs.take u.length = u := by rw [g]; simp
      have e2 : xs.take u.length = t ++ List.replicate (z - y) 0 := by
        rw [h, List.take_append, List.take_of_length_le hl, List.take_replicate]
        congr 2; omega
      rw [← e1, e2]
    cases hz : z - y with
    | zero => rw [hz] at e; simpa using e.symm
    | succ m =>
      rw [hz, List.replicate_succ', ← List.append_assoc] at e
      exact absurd rfl (hu 0 _ e)
  intro xs t u h g
  rcases Nat.le_total t.length u.length with hl | hl
  · exact key xs t u h g hl
  · exact (key xs u t g h hl).symm
theorem IsTrim.length_le {t xs : List Int} (h : IsTrim t xs) : t.length ≤ xs.length := by
  obtain ⟨⟨z, rfl⟩, _⟩ := h; simp
theorem IsTrim.pad {t xs : List Int} (h : IsTrim t xs) (n : Nat) : IsTrim t (xs ++ List.replicate n 0) := by
  obtain ⟨⟨z, rfl⟩, h2⟩ := h
  exact ⟨⟨z + n, by rw [List.append_assoc, List.replicate_append_replicate]⟩, h2⟩
theorem IsTrim.exists : ∀ xs : List Int, ∃ t, IsTrim t xs := by
  intro xs
  induction hn : xs.length using Nat.strongRecOn generalizing xs with
  | _ n ih =>
    rcases List.eq_nil_or_concat xs with rfl | ⟨r, a, rfl⟩
    · exact ⟨[], ⟨⟨0, rfl⟩, fun a r h => by simp at h⟩⟩
    · by_cases ha : a = 0
      · obtain ⟨t, ht⟩ := ih r.length (by simp at hn; omega) r rfl
        exact ⟨t, by have := ht.pad 1; simpa [ha] using this⟩
      · exact ⟨r ++ [a], ⟨⟨0, by simp⟩, fun b s h => by
          have := List.append_inj' h rfl
          have h2 := this.2; injection h2 with h2 _; rw [← h2]; exact ha⟩⟩
noncomputable def trim (xs : List Int) : List Int := (IsTrim.exists xs).choose
theorem trim_is (xs : List Int) : IsTrim (trim xs) xs := (IsTrim.exists xs).choose_spec
theorem trim_eq {t xs : List Int} (h : IsTrim t xs) : t = trim xs := h.unique (trim_is xs)

theorem pTrim_l0 (xs : List Int) (hn : xs.length ≤ 17592186044415) : ∀ (n k : Nat), n ≤ xs.length → n < k → (∀ j, n ≤ j → j < xs.length → at_ xs j = 0) →
    clock_Trim.l0 k xs (n : Int) = some (trim xs) := by
  intro n
  induction n with
  | zero =>
    intro k _ hk hz
    obtain ⟨k, rfl⟩ : ∃ m, k = m + 1 := ⟨k - 1, by omega⟩
    simp only [clock_Trim.l0]
    rw [if_neg (by omega)]
    simp only [Option.bind_some]
    rw [if_pos (by omega), if_pos (by omega), if_pos (by simp)]
    refine congrArg some (trim_eq ?_)
    show IsTrim [] xs
    refine ⟨⟨xs.length, ?_⟩, fun a r h => by simp at h⟩
    refine List.ext_getElem (by simp) fun j h1 h2 => ?_
    have := hz j (by omega) h1
    simpa [at_, List.getD_eq_getElem?_getD, h1] using this
  | succ n ih =>
    intro k hl hk hz
    obtain ⟨k, rfl⟩ : ∃ m, k = m + 1 := ⟨k - 1, by omega⟩
    have hi : n < xs.length := by omega
    have hw : wrap64 (((n + 1 : Nat) : Int) - 1) = (n : Int) := by rw [wrap_in (by omega) (by omega)]; omega
    simp only [clock_Trim.l0, hw]
    rw [if_pos (by omega), if_pos (by omega), if_pos (by omega), rd_get xs n hi]
    by_cases e : xs[n] = 0
    · rw [if_pos e]
      refine ih k (by omega) (by omega) fun j h1 h2 => ?_
      rcases Nat.lt_or_ge n j with h | h
      · exact hz j (by omega) h2
      · have : j = n := by omega
        subst this; simpa [at_, List.getD_eq_getElem?_getD, h2] using e
    · rw [if_neg e]
      simp only [Option.bind_some]
      rw [if_pos (by omega), if_pos (by omega), if_pos (by simp; omega)]
      congr 1
      refine trim_eq ⟨⟨xs.length - (n + 1), ?_⟩, fun a r h => ?_⟩
      · have e1 : xs.drop (n + 1) = List.replicate (xs.length - (n + 1)) 0 := by
          refine List.ext_getElem (by simp) fun j h1 h2 => ?_
          simp at h1
          have := hz (n + 1 + j) (by omega) (by omega)
          have h3 : n + 1 + j < xs.length := by omega
          simpa [at_, List.getD_eq_getElem?_getD, h3] using this
        rw [← e1, Int.toNat_natCast]; simp
      · simp only [Int.toNat_natCast, List.nil_append] at h
        rw [List.take_succ_eq_append_getElem hi] at h
        have := (List.append_inj' h rfl).2
        injection this with h2 _; rw [← h2]; exact e
theorem pTrim (xs : List Int) (hn : xs.length ≤ 17592186044415) : Ev (fun k => clock_Trim.f k xs) (trim xs) :=
  ⟨xs.length + 1, fun k hk => pTrim_l0 xs hn xs.length k (Nat.le_refl _) (by omega) (fun j h1 h2 => by omega)⟩

theorem rCheck_l0 (xs : List Int) (hn : xs.length ≤ 17592186043904) : ∀ (d i k : Nat), i + d = xs.length → d < k →
    topiaryref02_Check.l0 k xs (i : Int) = some (chkL (xs.drop i)) := by
  intro d
  induction d with
  | zero =>
    intro i k h hk
    obtain ⟨k, rfl⟩ : ∃ m, k = m + 1 := ⟨k - 1, by omega⟩
    simp only [topiaryref02_Check.l0]
    rw [if_neg (by omega), List.drop_eq_nil_of_le (by omega)]; rfl
  | succ d ih =>
    intro i k h hk
    obtain ⟨k, rfl⟩ : ∃ m, k = m + 1 := ⟨k - 1, by omega⟩
    have hi : i < xs.length := by omega
    simp only [topiaryref02_Check.l0]
    rw [if_pos (by omega), if_pos (by omega), rd_get xs i hi, List.drop_eq_getElem_cons hi]
    simp only [chkL]
    split
    · rfl
    · split
      · rfl
      · rw [wrap_in (by omega) (by omega), step_nat]; exact ih (i + 1) k (by omega) (by omega)
theorem rCheck (xs : List Int) (hn : xs.length ≤ 17592186043904) : Ev (fun k => topiaryref02_Check.f k xs) (chk xs) := by
  refine ⟨xs.length + 1, fun k hk => ?_⟩
  simp only [topiaryref02_Check.f, chk]
  split
  · rfl
  · have := rCheck_l0 xs hn xs.length 0 k (by omega) (by omega); simpa using this

theorem rAt (xs : List Int) (i : Int) : topiaryref02_At.f xs i = some (if 0 ≤ i ∧ i < xs.length then rd xs i else 0) := by
  simp only [topiaryref02_At.f]
  by_cases h0 : i ≥ 0
  · rw [if_pos h0]
    by_cases h1 : i < (xs.length : Int)
    · rw [if_pos h1, if_pos (by omega), if_pos (by omega)]
    · rw [if_neg h1, if_neg (by omega)]
  · rw [if_neg h0, if_neg (by omega)]
theorem rAt_nat (xs : List Int) (i : Nat) : topiaryref02_At.f xs (i : Int) = some (at_ xs i) := by
  rw [rAt, ← pAt, pAt_nat]

theorem rTrim_both (xs : List Int) (hn : xs.length ≤ 17592186043904) : ∀ (d k : Nat),
    (∀ (i z : Nat) (out : List Int), 2 * (xs.length - i) + z = d → i ≤ xs.length → d < k → IsTrim out (xs.take i) → out.length + z = i → topiaryref02_Trim.l0 k xs out (z : Int) (i : Int) = some (trim xs)) ∧
    (∀ (i z : Nat) (out : List Int), 2 * (xs.length - i) + z = d + 1 → i < xs.length → d < k → at_ xs i ≠ 0 → out ++ List.replicate z 0 = xs.take i → topiaryref02_Trim.l1 k xs out (z : Int) (i : Int) = some (trim xs)) := by
  intro d
  induction d using Nat.strongRecOn with
  | _ d ih =>
    intro k
    refine ⟨fun i z out hd hi hk ht hz => ?_, fun i z out hd hi hk h0 hz => ?_⟩
    · obtain ⟨k, rfl⟩ : ∃ m, k = m + 1 := ⟨k - 1, by omega⟩
      simp only [topiaryref02_Trim.l0]
      by_cases hl : i < xs.length
      · rw [if_pos (by omega), if_pos (by omega), rd_get xs i hl]
        by_cases e : xs[i] = 0
        · rw [if_pos e, wrap_in (by omega) (by omega), wrap_in (by omega) (by omega), step_nat, step_nat]
          refine (ih (d - 1) (by omega) k).1 (i + 1) (z + 1) out (by omega) (by omega) (by omega) ?_ (by omega)
          rw [List.take_succ_eq_append_getElem hl, e]
          exact ht.pad 1
        · rw [if_neg e]
          refine (ih (d - 1) (by omega) k).2 i z out (by omega) hl (by omega) (by simpa [at_, List.getD_eq_getElem?_getD, hl] using e) ?_
          obtain ⟨⟨y, hy⟩, _⟩ := ht
          have := congrArg List.length hy
          simp at this
          rw [hy, show z = y from by omega]
      · rw [if_neg (by omega)]
        rw [List.take_of_length_le (by omega)] at ht
        rw [trim_eq ht]
    · obtain ⟨k, rfl⟩ : ∃ m, k = m + 1 := ⟨k - 1, by omega⟩
      have hlen := congrArg List.length hz
      simp at hlen
      simp only [topiaryref02_Trim.l1]
      cases z with
      | succ z =>
        rw [if_pos (by omega), if_pos (by omega), wrap_in (by omega) (by omega), show ((z + 1 : Nat) : Int) - 1 = (z : Int) from by omega]
        refine (ih (d - 1) (by omega) k).2 i z (out ++ [0]) (by omega) hi (by omega) h0 ?_
        rw [← hz, List.replicate_succ]; simp
      | zero =>
        rw [if_neg (by omega), if_pos (by omega), if_pos (by omega), if_pos (by omega), wrap_in (by omega) (by omega), step_nat, rd_get xs i hi]
        have ho : out = xs.take i := by simpa using hz
        refine (ih (d - 1) (by omega) k).1 (i + 1) 0 (out ++ [xs[i]]) (by omega) (by omega) (by omega) ?_ (by simp at hlen ⊢; omega)
        rw [List.take_succ_eq_append_getElem hi, ho]
        refine ⟨⟨0, by simp⟩, fun a r h => ?_⟩
        have := (List.append_inj' h rfl).2
        injection this with h2 _; rw [← h2]
        simpa [at_, List.getD_eq_getElem?_getD, hi] using h0
theorem rTrim (xs : List Int) (hn : xs.length ≤ 17592186043904) : Ev (fun k => topiaryref02_Trim.f k xs) (trim xs) :=
  ⟨2 * xs.length + 1, fun k hk => (rTrim_both xs hn (2 * xs.length) k).1 0 0 [] (by omega) (by omega) (by omega) ⟨⟨0, by simp⟩, fun a r h => by simp at h⟩ (by simp)⟩

/-! numerals, as lists of bytes -/
def isD (x : UInt8) : Bool := decide (48 ≤ x.toNat) && decide (x.toNat ≤ 57)
/-- The number that goes on from n by these digits, if all are digits. -/
def res : Nat → List UInt8 → Option Nat
  | n, [] => some n
  | n, x :: l => if isD x = true then res (10 * n + (x.toNat - 48)) l else none
theorem res_append : ∀ (l m : List UInt8) (n : Nat), res n (l ++ m) = (res n l).bind fun k => res k m
  | [], m, n => rfl
  | x :: l, m, n => by
    simp only [List.cons_append, res]
    split
    · exact res_append l m _
    · rfl
theorem toNat_of {n : Nat} (h : n < 10) : (UInt8.ofNat (48 + n)).toNat = 48 + n := by
  rw [UInt8.toNat_ofNat']; omega
theorem isD_of {n : Nat} (h : n < 10) : isD (UInt8.ofNat (48 + n)) = true := by
  unfold isD; rw [toNat_of h]; simp; omega
theorem of_isD {x : UInt8} (h : isD x = true) : UInt8.ofNat (48 + (x.toNat - 48)) = x ∧ x.toNat - 48 < 10 := by
  unfold isD at h
  simp only [Bool.and_eq_true, decide_eq_true_eq] at h
  refine ⟨?_, by omega⟩
  rw [show 48 + (x.toNat - 48) = x.toNat from by omega]
  exact UInt8.ofNat_toNat
/-- The one form of a numeral: not empty, no nought ahead. -/
def canon (l : List UInt8) : Prop := l ≠ [] ∧ (l.length = 1 ∨ l.head? ≠ some 48)
theorem dec_small {u : Nat} (h : u < 10) : Lib.decDigits u = [UInt8.ofNat (48 + u)] := by rw [Lib.decDigits, dif_pos h]
theorem dec_big {u : Nat} (h : ¬ u < 10) : Lib.decDigits u = Lib.decDigits (u / 10) ++ [UInt8.ofNat (48 + u % 10)] := by rw [Lib.decDigits, dif_neg h]
theorem dec_res : ∀ (u : Nat), res 0 (Lib.decDigits u) = some u := by
  intro u
  induction u using Nat.strongRecOn with
  | _ u ih =>
    by_cases h : u < 10
    · rw [dec_small h]
      simp only [res, isD_of h, if_true, toNat_of h]
      congr 1; omega
    · rw [dec_big h, res_append, ih (u / 10) (by omega)]
      simp only [Option.bind_some, res, isD_of (show u % 10 < 10 by omega), if_true, toNat_of (show u % 10 < 10 by omega)]
      congr 1; omega
theorem dec_ne (u : Nat) : Lib.decDigits u ≠ [] := by
  by_cases h : u < 10
  · rw [dec_small h]; simp
  · rw [dec_big h]; simp
theorem dec_head : ∀ (u : Nat), 1 ≤ u → (Lib.decDigits u).head? ≠ some 48 := by
  intro u
  induction u using Nat.strongRecOn with
  | _ u ih =>
    intro h1
    by_cases h : u < 10
    · rw [dec_small h]
      simp only [List.head?_cons, ne_eq, Option.some.injEq]
      intro he
      have := congrArg UInt8.toNat he
      rw [toNat_of h] at this
      simp at this
      omega
    · rw [dec_big h]
      have hi := ih (u / 10) (by omega) (by omega)
      rcases hd : Lib.decDigits (u / 10) with _ | ⟨y, m⟩
      · exact absurd hd (dec_ne _)
      · rw [hd] at hi; simpa using hi
theorem dec_canon (u : Nat) : canon (Lib.decDigits u) := by
  refine ⟨dec_ne u, ?_⟩
  by_cases h : u < 10
  · left; rw [dec_small h]; rfl
  · right; exact dec_head u (by omega)
theorem dec_length : ∀ (n u : Nat), 1 ≤ n → u < 10 ^ n → (Lib.decDigits u).length ≤ n := by
  intro n
  induction n with
  | zero => intro u h; omega
  | succ n ih =>
    intro u _ hu
    by_cases h : u < 10
    · rw [dec_small h]; simp
    · rw [dec_big h]
      have hn : 1 ≤ n := by
        rcases n with _ | n
        · simp at hu; omega
        · omega
      have := ih (u / 10) hn (by rw [Nat.pow_succ] at hu; omega)
      simp; omega
theorem res_le : ∀ (l : List UInt8) (n v : Nat), res n l = some v → n ≤ v
  | [], n, v, h => by simp only [res, Option.some.injEq] at h; omega
  | x :: l, n, v, h => by
    simp only [res] at h
    split at h
    · have := res_le l _ v h; omega
    · cases h
/-- A numeral in its one form is the numeral of its number. -/
theorem dec_of_res : ∀ (k : Nat) (l : List UInt8) (v : Nat), l.length = k → canon l → res 0 l = some v → Lib.decDigits v = l := by
  intro k
  induction k with
  | zero => intro l v hl hc; exact absurd (List.eq_nil_of_length_eq_zero hl) hc.1
  | succ k ih =>
    intro l v hl hc hv
    obtain ⟨m, x, rfl⟩ : ∃ m x, l = m ++ [x] := ⟨l.dropLast, l.getLast hc.1, (List.dropLast_concat_getLast hc.1).symm⟩
    rw [res_append] at hv
    obtain ⟨q, hq, hz⟩ := Option.bind_eq_some_iff.mp hv
    clear hv
    simp only [res] at hz
    split at hz
    · rename_i hx
      have hv := Option.some.inj hz
      obtain ⟨hx1, hx2⟩ := of_isD hx
      have hml : m.length = k := by simpa using hl
      rcases m with _ | ⟨y, m⟩
      · simp only [res, Option.some.injEq] at hq
        subst hq
        subst hv
        rw [dec_small (by omega)]
        simp only [Nat.mul_zero, Nat.zero_add, List.nil_append, hx1]
      · have hh : (y :: m).head? ≠ some 48 := by
          rcases hc.2 with h | h
          · simp at h
          · simpa using h
        have hi := ih (y :: m) q hml ⟨by simp, .inr hh⟩ hq
        have hq1 : 1 ≤ q := by
          rcases Nat.eq_zero_or_pos q with h0 | h0
          · subst h0
            rw [dec_small (by omega)] at hi
            simp only [List.cons.injEq] at hi
            obtain ⟨hy, _⟩ := hi
            exact absurd (by rw [← hy]; rfl) hh
          · exact h0
        subst hv
        rw [dec_big (by omega), show (10 * q + (x.toNat - 48)) / 10 = q from by omega, show (10 * q + (x.toNat - 48)) % 10 = x.toNat - 48 from by omega, hx1, hi]
    · cases hz
theorem res_lt : ∀ (l : List UInt8) (n v j : Nat), res n l = some v → n < 10 ^ j → v < 10 ^ (j + l.length)
  | [], n, v, j, h, hn => by simp only [res, Option.some.injEq] at h; subst h; simpa using hn
  | x :: l, n, v, j, h, hn => by
    simp only [res] at h
    split at h
    · rename_i hx
      have h2 := (of_isD hx).2
      have := res_lt l _ v (j + 1) h (by rw [Nat.pow_succ]; omega)
      simpa [Nat.add_assoc, Nat.add_comm 1] using this
    · cases h

theorem size_len (a : ByteArray) : a.size = a.data.toList.length := rfl
theorem bt_list (a : ByteArray) (i : Nat) (h : i < a.data.toList.length) : bt a (i : Int) = ((a.data.toList[i]).toNat : Int) := by
  unfold bt
  rw [dif_pos (show ((i : Int)).toNat < a.size from by rw [Int.toNat_natCast]; exact h)]
  rfl
theorem bt_isD {x : UInt8} : (¬ ((x.toNat : Int) < 48) ∧ ¬ ((x.toNat : Int) > 57)) ↔ isD x = true := by
  unfold isD; simp only [Bool.and_eq_true, decide_eq_true_eq]; omega
/-- What 'whole' says of a text: up to so many digits. -/
def whole (mx_ : Nat) (l : List UInt8) : Option Nat := if l.length = 0 ∨ l.length > mx_ ∨ (l.head? = some 48 ∧ l.length > 1) then none else res 0 l
theorem head48 : ∀ (l : List UInt8) (h : 0 < l.length), ((l[0].toNat : Int) = 48 ↔ l.head? = some 48)
  | [], h => by simp at h
  | x :: l, h => by
    simp only [List.getElem_cons_zero, List.head?_cons, Option.some.injEq]
    constructor
    · intro e; exact UInt8.toNat_inj.mp (show x.toNat = (48 : UInt8).toNat from by simp; omega)
    · rintro rfl; rfl
theorem bt_head (a : ByteArray) (h : a.size ≠ 0) : bt a 0 = 48 ↔ a.data.toList.head? = some 48 := by
  have hl : 0 < a.data.toList.length := by rw [← size_len]; omega
  have := bt_list a 0 hl
  rw [show bt a 0 = ((a.data.toList[0]).toNat : Int) from this]
  exact head48 _ hl

/-- All digits but the last. -/
def upper (n : Nat) : List UInt8 := if n < 10 then [] else Lib.decDigits (n / 10)
theorem upper_big {n : Nat} (h : ¬ n < 10) : upper n = upper (n / 10) ++ [UInt8.ofNat (48 + n / 10 % 10)] := by
  unfold upper
  rw [if_neg h]
  by_cases h2 : n / 10 < 10
  · rw [if_pos h2, dec_small h2, Nat.mod_eq_of_lt h2]; rfl
  · rw [if_neg h2, dec_big h2]
theorem upper_dec (n : Nat) : upper n ++ [UInt8.ofNat (48 + n % 10)] = Lib.decDigits n := by
  unfold upper
  by_cases h : n < 10
  · rw [if_pos h, dec_small h, Nat.mod_eq_of_lt h]; rfl
  · rw [if_neg h, dec_big h]
theorem digit (n : Nat) (h : n < 9223372036854775808) : (wrap64 (48 + (Int.tmod (n : Int) 10))) % 256 = ((48 + n % 10 : Nat) : Int) := by
  rw [show Int.tmod (n : Int) 10 = ((n % 10 : Nat) : Int) from by rw [Int.tmod_eq_emod_of_nonneg (by omega)]; omega, IntWalk.wrap64_in _ ⟨by omega, by omega⟩]
  omega
theorem tenth (n : Nat) (h : n < 9223372036854775808) : wrap64 (Int.tdiv (n : Int) 10) = ((n / 10 : Nat) : Int) := by
  rw [show Int.tdiv (n : Int) 10 = ((n / 10 : Nat) : Int) from by rw [Int.tdiv_eq_ediv_of_nonneg (by omega)]; omega, IntWalk.wrap64_in _ ⟨by omega, by omega⟩]
theorem one (z : Nat) : strOfNums ([((z : Nat) : Int)] : List Int) = ⟨[UInt8.ofNat z].toArray⟩ := by
  simp [strOfNums]
theorem digits_l0 : ∀ (j n k : Nat) (s : List UInt8), n < 10 ^ j → j ≤ 15 → s.length + j ≤ 100 → j < k → topiaryref01_Digits.l0 k (n : Int) ⟨s.toArray⟩ = some ⟨(upper n ++ s).toArray⟩
  | j, n, 0, s, hn, hj, hs, hk => by omega
  | 0, n, k + 1, s, hn, hj, hs, hk => by
    simp only [topiaryref01_Digits.l0]
    rw [if_neg (by omega), show upper n = [] from by unfold upper; rw [if_pos (by omega)]]
    rfl
  | j + 1, n, k + 1, s, hn, hj, hs, hk => by
    simp only [topiaryref01_Digits.l0]
    have hp : 10 ^ (j + 1) ≤ 10 ^ 15 := Nat.pow_le_pow_right (by omega) (by omega)
    by_cases h : n < 10
    · rw [if_neg (by omega), show upper n = [] from by unfold upper; rw [if_pos h]]
      rfl
    · rw [if_pos (by omega), tenth n (by omega), digit (n / 10) (by omega)]
      simp only [Option.bind_some]
      rw [one, if_pos (by simp only [ByteArray.size, List.size_toArray, List.length_singleton]; omega)]
      rw [show (⟨[UInt8.ofNat (48 + n / 10 % 10)].toArray⟩ : ByteArray) ++ ⟨s.toArray⟩ = ⟨(UInt8.ofNat (48 + n / 10 % 10) :: s).toArray⟩ from by apply ByteArray.ext; simp [ByteArray.data_append]]
      rw [digits_l0 j (n / 10) k _ (by rw [Nat.pow_succ] at hn; omega) (by omega) (by simp; omega) (by omega), upper_big h]
      simp
theorem digits_f (k n : Nat) (h : n < 10 ^ 15) : topiaryref01_Digits.f (k + 20) (n : Int) = some ⟨(Lib.decDigits n).toArray⟩ := by
  unfold topiaryref01_Digits.f
  rw [digit n (by omega), one, digits_l0 15 n (k + 20) _ h (by omega) (by simp) (by omega), upper_dec]


/-! the text of a clock -/
def dg (x : Int) : List UInt8 := Lib.decDigits x.toNat
def jn (t : List Int) : List UInt8 := Lib.join (t.map dg) [44]
theorem join_snoc (l : List (List UInt8)) (y sep : List UInt8) (h : l ≠ []) : Lib.join (l ++ [y]) sep = Lib.join l sep ++ sep ++ y := by
  rcases l with _ | ⟨x, r⟩
  · exact absurd rfl h
  · rw [List.cons_append, Lib.join_cons, Lib.join_cons]
    simp [Lib.joinTail, List.append_assoc]
theorem jn_snoc (t : List Int) (x : Int) (h : t ≠ []) : jn (t ++ [x]) = jn t ++ 44 :: dg x := by
  unfold jn
  rw [List.map_append, List.map_cons, List.map_nil, join_snoc _ _ _ (by simpa using h)]
  simp
theorem jn_one (x : Int) : jn [x] = dg x := by unfold jn; rw [List.map_cons, List.map_nil, Lib.join_one]
def Fits (t : List Int) : Prop := ∀ x ∈ t, 0 ≤ x ∧ x ≤ 1099511627776
theorem dg_le {x : Int} (h : x ≤ 1099511627776) : (dg x).length ≤ 13 := dec_length 13 _ (by omega) (by omega)
theorem jn_le_ : ∀ (n : Nat) (t : List Int), t.length = n → Fits t → (jn t).length ≤ 14 * t.length
  | 0, t, hn, _ => by
    obtain rfl := List.eq_nil_of_length_eq_zero hn
    simp [jn, Lib.join_nil]
  | n + 1, t, hn, h => by
    have hne : t ≠ [] := by rintro rfl; simp at hn
    obtain ⟨m, x, rfl⟩ : ∃ m x, t = m ++ [x] := ⟨t.dropLast, t.getLast hne, (List.dropLast_concat_getLast hne).symm⟩
    have hx := (h x (by simp)).2
    have hl := dg_le hx
    by_cases ht : m = []
    · subst ht; rw [List.nil_append, jn_one]; simp; omega
    · rw [jn_snoc m x ht]
      have := jn_le_ n m (by simpa using hn) (fun y hy => h y (by simp [hy]))
      simp; omega
theorem jn_le (t : List Int) (h : Fits t) : (jn t).length ≤ 14 * t.length := jn_le_ _ t rfl h
theorem jn_ne (t : List Int) (h : t ≠ []) : jn t ≠ [] := by
  rcases t with _ | ⟨x, r⟩
  · exact absurd rfl h
  · unfold jn
    rw [List.map_cons, Lib.join_cons]
    have := dec_ne x.toNat
    simp [dg, this]
def txt (t : List Int) : ByteArray := if t = [] then ⟨#[45]⟩ else ⟨(jn t).toArray⟩
def wordOf (x : Int) : ByteArray := ⟨(dg x).toArray⟩
theorem itoa_f (x : Int) (h0 : 0 ≤ x) (h1 : x ≤ 1099511627776) : strconv_Itoa_38.f x = some (wordOf x) := by
  unfold strconv_Itoa_38.f
  rw [if_pos h0, if_pos (by omega)]
  obtain ⟨n, rfl⟩ : ∃ n : Nat, x = n := ⟨x.toNat, by omega⟩
  rw [Lib.itoa_nonneg]; rfl
theorem pText_l0 (t : List Int) (hl : t.length ≤ 64) (hf : Fits t) : ∀ (d i k : Nat), i + d = t.length → d < k → clock_Text.l0 k ((t.take i).map wordOf) t (t.length : Int) (i : Int) = some (txt t, 0)
  | 0, i, 0, hi, hk => by omega
  | 0, i, k + 1, hi, hk => by
    simp only [clock_Text.l0]
    rw [if_neg (by omega), List.take_of_length_le (by omega)]
    unfold txt
    by_cases ht : t = []
    · subst ht; rfl
    · rw [if_neg (by intro e; exact ht (List.eq_nil_of_length_eq_zero (by simpa using e))), if_neg ht]
      unfold strings_Join.f
      have e : ((t.map wordOf).map (·.data.toList)) = t.map dg := by rw [List.map_map]; rfl
      rw [if_pos (by simp; omega), e, show (⟨#[44]⟩ : ByteArray).data.toList = [44] from rfl, if_pos (by have := jn_le t hf; unfold jn at this; omega)]
      rfl
  | d + 1, i, 0, hi, hk => by omega
  | d + 1, i, k + 1, hi, hk => by
    have hil : i < t.length := by omega
    simp only [clock_Text.l0]
    have hm := hf t[i] (List.getElem_mem hil)
    rw [if_pos (by omega), if_pos (by omega), if_pos (by omega), rd_get t i hil, itoa_f _ hm.1 hm.2]
    simp only [Option.bind_some]
    rw [if_pos (by simp; omega), wrap_in (by omega) (by omega), step_nat]
    have := pText_l0 t hl hf d (i + 1) k (by omega) (by omega)
    rw [List.take_succ_eq_append_getElem hil, List.map_append] at this
    exact this
noncomputable def textV (xs : List Int) : ByteArray × Int := if chk xs = 0 then (txt (trim xs), 0) else (⟨#[]⟩, chk xs)
theorem trim_fits (xs : List Int) (h : chk xs = 0) : (trim xs).length ≤ 64 ∧ Fits (trim xs) := by
  obtain ⟨h1, h2⟩ := chk_ok h
  have hl := (trim_is xs).length_le
  obtain ⟨⟨z, hz⟩, _⟩ := trim_is xs
  exact ⟨by omega, fun x hx => h2 x (by rw [hz]; exact List.mem_append_left _ hx)⟩
theorem pText (xs : List Int) (hn : xs.length ≤ 17592186043904) : Ev (fun k => clock_Text.f k xs) (textV xs) := by
  unfold clock_Text.f textV
  refine Ev.bind (pCheck xs hn) ?_
  by_cases h : chk xs = 0
  · rw [if_pos h]
    simp only [h, if_true]
    obtain ⟨h1, h2⟩ := trim_fits xs h
    refine Ev.bind (pTrim xs (by omega)) ⟨(trim xs).length + 1, fun k hk => ?_⟩
    exact pText_l0 (trim xs) h1 h2 (trim xs).length 0 k (by omega) (by omega)
  · simp only [h, if_false]
    exact Ev.now _

theorem jn_nil : jn [] = [] := rfl
theorem rText_l0 (t : List Int) (hl : t.length ≤ 64) (hf : Fits t) : ∀ (d i k : Nat), i + d = t.length → d + 40 < k → topiaryref02_Text.l0 k t ⟨(jn (t.take i)).toArray⟩ (i : Int) = some (txt t, 0)
  | 0, i, 0, hi, hk => by omega
  | 0, i, k + 1, hi, hk => by
    simp only [topiaryref02_Text.l0]
    rw [if_neg (by omega), List.take_of_length_le (by omega), ByteArray.toList_eq]
    unfold txt
    by_cases ht : t = []
    · subst ht; rfl
    · rw [if_neg (by simpa using jn_ne t ht), if_neg ht]
  | d + 1, i, 0, hi, hk => by omega
  | d + 1, i, k + 1, hi, hk => by
    have hil : i < t.length := by omega
    simp only [topiaryref02_Text.l0]
    have hm := hf t[i] (List.getElem_mem hil)
    obtain ⟨k, rfl⟩ : ∃ q, k = q + 20 := ⟨k - 20, by omega⟩
    have hd : topiaryref01_Digits.f (k + 20) (rd t (i : Int)) = some (wordOf t[i]) := by
      rw [rd_get t i hil]
      have := digits_f k (t[i]).toNat (by omega)
      rw [show (((t[i]).toNat : Nat) : Int) = t[i] from by omega] at this
      exact this
    have hw : (wordOf t[i]).size ≤ 13 := by have := dg_le hm.2; simpa [wordOf, ByteArray.size] using this
    have hj : (⟨(jn (t.take i)).toArray⟩ : ByteArray).size ≤ 1000 := by
      have := jn_le (t.take i) (fun x hx => hf x (List.mem_of_mem_take hx))
      simp only [ByteArray.size, List.size_toArray]
      rw [List.length_take] at this
      omega
    have next := rText_l0 t hl hf d (i + 1) (k + 20) (by omega) (by omega)
    rw [List.take_succ_eq_append_getElem hil] at next
    rw [if_pos (by omega)]
    by_cases h0 : i = 0
    · subst h0
      rw [if_neg (by omega), if_pos (by omega), hd]
      simp only [Option.bind_some]
      rw [if_pos (by omega), wrap_in (by omega) (by omega), step_nat]
      simp only [List.take_zero, List.nil_append, jn_one, jn_nil] at next ⊢
      rw [← next]
      congr 1
    · rw [if_pos (by omega), if_pos (by omega), if_pos (by omega), hd]
      simp only [Option.bind_some]
      rw [if_pos (by rw [ByteArray.size_append]; have : (⟨#[44]⟩ : ByteArray).size = 1 := rfl; omega), wrap_in (by omega) (by omega), step_nat]
      have hne : t.take i ≠ [] := by
        intro e
        have h9 : min i t.length = 0 := by rw [← List.length_take, e]; rfl
        omega
      rw [jn_snoc _ _ hne] at next
      rw [← next]
      congr 1
      apply ByteArray.ext
      simp [ByteArray.data_append, wordOf]
theorem rText (xs : List Int) (hn : xs.length ≤ 17592186043904) : Ev (fun k => topiaryref02_Text.f k xs) (textV xs) := by
  unfold topiaryref02_Text.f textV
  refine Ev.bind (rCheck xs hn) ?_
  by_cases h : chk xs = 0
  · rw [if_pos h]
    simp only [h, if_true]
    obtain ⟨h1, h2⟩ := trim_fits xs h
    refine Ev.bind (rTrim xs (by omega)) ⟨(trim xs).length + 41, fun k hk => ?_⟩
    exact rText_l0 (trim xs) h1 h2 (trim xs).length 0 k (by omega) (by omega)
  · simp only [h, if_false]
    refine Ev.bind (rCheck xs hn) (Ev.now _)

/-- Is a stamp right, as a plain test. -/
def isR (a b : Int) : Bool := decide (1 ≤ a) && (decide (a ≤ 1099511627776) && (decide (0 ≤ b) && decide (b < 64)))
theorem right_f (a b : Int) : ident_Right.f a b = some (isR a b) := by
  unfold ident_Right.f ident_replica.f isR
  by_cases h1 : 1 ≤ a <;> by_cases h2 : a ≤ 1099511627776 <;> by_cases h3 : 0 ≤ b <;> simp [h1, h2, h3]

theorem itoaN_f (n : Nat) (h : n < 9223372036854775808) : strconv_Itoa_38.f (n : Int) = some ⟨(Lib.decDigits n).toArray⟩ := by
  unfold strconv_Itoa_38.f
  rw [if_pos (by omega), if_pos (by omega), Lib.itoa_nonneg]
def textOf (n m : Nat) : List UInt8 := Lib.decDigits n ++ 46 :: Lib.decDigits m
def text (a b : Int) : List UInt8 × Int := if isR a b = true then (textOf a.toNat b.toNat, 0) else if a = 0 ∧ b = 0 then ([114, 111, 111, 116], 0) else if a = 0 ∧ b = 1 then ([116, 114, 97, 115, 104], 0) else ([], 2)
theorem beq2 (a b c d : Int) : (a == c && (b == d)) = decide (a = c ∧ b = d) := by
  by_cases h1 : a = c <;> by_cases h2 : b = d <;> simp [h1, h2]
theorem joinT (x y : List UInt8) : (⟨x.toArray⟩ : ByteArray) ++ (⟨#[46]⟩ : ByteArray) ++ ⟨y.toArray⟩ = ⟨(x ++ 46 :: y).toArray⟩ := by
  apply ByteArray.ext
  simp [ByteArray.data_append]
theorem text_f (a b : Int) : ident_Text.f a b = some (⟨(text a b).1.toArray⟩, (text a b).2) := by
  unfold ident_Text.f text
  rw [right_f]
  simp only [Option.bind_some]
  by_cases h : isR a b = true
  · rw [if_pos h, if_pos h]
    have hR := h
    simp only [isR, Bool.and_eq_true, decide_eq_true_eq] at hR
    obtain ⟨n, rfl⟩ : ∃ n : Nat, a = n := ⟨a.toNat, by omega⟩
    obtain ⟨m, rfl⟩ : ∃ n : Nat, b = n := ⟨b.toNat, by omega⟩
    rw [itoaN_f n (by omega), itoaN_f m (by omega)]
    have l1 := dec_length 19 n (by omega) (by omega)
    have l2 := dec_length 19 m (by omega) (by omega)
    have s1 : (⟨(Lib.decDigits n).toArray⟩ : ByteArray).size ≤ 19 := by simpa [ByteArray.size] using l1
    have s2 : (⟨(Lib.decDigits m).toArray⟩ : ByteArray).size ≤ 19 := by simpa [ByteArray.size] using l2
    simp only [Option.bind_some]
    rw [if_pos (by omega), if_pos (by rw [ByteArray.size_append]; have : (⟨#[46]⟩ : ByteArray).size = 1 := rfl; omega), joinT]
    simp only [textOf, Int.toNat_natCast]
  · rw [if_neg h, if_neg h]
    simp only [beq2, decide_eq_true_eq]
    split
    · rfl
    · split <;> rfl
theorem text_size (a b : Int) : (text a b).1.length ≤ 40 := by
  unfold text
  split
  · rename_i hR
    simp only [isR, Bool.and_eq_true, decide_eq_true_eq] at hR
    have l1 := dec_length 19 a.toNat (by omega) (by omega)
    have l2 := dec_length 19 b.toNat (by omega) (by omega)
    simp only [textOf, List.length_append, List.length_cons]; omega
  · split
    · decide
    · split <;> decide

theorem refright_f (a b : Int) : topiaryref01_Right.f a b = some (isR a b) := by
  unfold topiaryref01_Right.f isR
  by_cases h1 : 1 ≤ a <;> by_cases h2 : a ≤ 1099511627776 <;> by_cases h3 : 0 ≤ b <;> simp [h1, h2, h3]
theorem refnode_f (a b : Int) : topiaryref01_Node.f a b = some (isR a b || decide (a = 0 ∧ (b = 0 ∨ b = 1))) := by
  unfold topiaryref01_Node.f
  rw [refright_f]
  simp only [Option.bind_some]
  by_cases h : isR a b = true
  · simp [h]
  · have h' : isR a b = false := by simpa using h
    by_cases h1 : a = 0 <;> by_cases h2 : b = 0 <;> simp [h', h1, h2]
    all_goals simp_all
    all_goals by_cases h3 : b = 1 <;> simp [h3]

theorem reftext_f (k : Nat) (a b : Int) : topiaryref01_Text.f (k + 20) a b = some (⟨(text a b).1.toArray⟩, (text a b).2) := by
  unfold topiaryref01_Text.f text
  rw [refnode_f]
  simp only [Option.bind_some]
  by_cases h : isR a b = true
  · have hR := h
    simp only [isR, Bool.and_eq_true, decide_eq_true_eq] at hR
    rw [h, Bool.true_or, if_pos rfl, if_pos (by omega), if_pos rfl]
    obtain ⟨n, rfl⟩ : ∃ n : Nat, a = n := ⟨a.toNat, by omega⟩
    obtain ⟨m, rfl⟩ : ∃ n : Nat, b = n := ⟨b.toNat, by omega⟩
    rw [digits_f k n (by omega), digits_f k m (by omega)]
    have l1 := dec_length 19 n (by omega) (by omega)
    have l2 := dec_length 19 m (by omega) (by omega)
    have s1 : (⟨(Lib.decDigits n).toArray⟩ : ByteArray).size ≤ 19 := by simpa [ByteArray.size] using l1
    have s2 : (⟨(Lib.decDigits m).toArray⟩ : ByteArray).size ≤ 19 := by simpa [ByteArray.size] using l2
    simp only [Option.bind_some]
    rw [if_pos (by omega), if_pos (by rw [ByteArray.size_append]; have : (⟨#[46]⟩ : ByteArray).size = 1 := rfl; omega), joinT]
    simp only [textOf, Int.toNat_natCast]
  · have h' : isR a b = false := by simpa using h
    rw [h', Bool.false_or]
    by_cases h1 : a = 0 ∧ (b = 0 ∨ b = 1)
    · obtain ⟨rfl, h2⟩ := h1
      rcases h2 with rfl | rfl
      · rfl
      · rfl
    · rw [if_neg (by simpa using h1), if_neg (by simp), if_neg (by omega), if_neg (by omega)]

/-! two changes that are the same, and that the program answers at all -/
theorem awake : Ev (fun k => topiarylaw05_awake.f k) true := Ev.of topiarylaw05_awake.mono (k := 40) (by decide +kernel)

theorem qsize_len (a : ByteArray) : a.size = a.data.toList.length := rfl
theorem qbt (a : ByteArray) (i : Nat) (h : i < a.data.toList.length) : bt a (i : Int) = ((a.data.toList[i]).toNat : Int) := by
  have h' : ((i : Int)).toNat < a.size := by rw [Int.toNat_natCast]; exact h
  rw [← bt_at a (i : Int) h']
  rfl
def pl (x : UInt8) : Bool := decide (32 ≤ x.toNat) && (decide (x.toNat ≤ 126) && (decide (x.toNat ≠ 34) && decide (x.toNat ≠ 92)))
theorem ofn {n : Nat} (h : n < 256) : (UInt8.ofNat n).toNat = n := by
  simp [UInt8.toNat_ofNat']
  omega
theorem plain_f (n : Nat) (h : n < 256) : change_plain.f (n : Int) = some (pl (UInt8.ofNat n)) := by
  have hn : (UInt8.ofNat n).toNat = n := ofn h
  unfold change_plain.f pl
  rw [hn]
  by_cases h1 : 32 ≤ n
  · rw [if_pos (by omega)]
    by_cases h2 : n ≤ 126
    · rw [if_pos (by omega)]
      by_cases h3 : n = 34
      · subst h3; rfl
      · rw [if_neg (by omega)]
        by_cases h4 : n = 92
        · subst h4; rfl
        · have h5 : ((n : Int) != 92) = true := by rw [bne_iff_ne]; omega
          rw [h5]; simp [h1, h2, h3, h4]
    · rw [if_neg (by omega)]; simp [h2]
  · rw [if_neg (by omega)]; simp [h1]
theorem plain_u (x : UInt8) : change_plain.f (x.toNat : Int) = some (pl x) := by
  rw [plain_f _ x.toNat_lt]
  simp
def nums (l : List UInt8) : List Int := l.map fun b => (b.toNat : Int)
theorem nums_app (l m : List UInt8) : nums (l ++ m) = nums l ++ nums m := by simp [nums]
theorem nums_len (l : List UInt8) : (nums l).length = l.length := by simp [nums]
theorem str_nums (l : List UInt8) : strOfNums (nums l) = ⟨l.toArray⟩ := by
  unfold strOfNums nums
  rw [List.map_map, show ((fun n : Int => UInt8.ofNat n.toNat) ∘ fun b : UInt8 => (b.toNat : Int)) = id from funext fun b => by simp, List.map_id]
def hx (n : Nat) : UInt8 := if n < 10 then UInt8.ofNat (48 + n) else UInt8.ofNat (87 + n)
def quo1 (x : UInt8) : List UInt8 := if pl x then [x] else [92, hx (x.toNat / 16), hx (x.toNat % 16)]
def quoB (l : List UInt8) : List UInt8 := l.flatMap quo1
def quo (l : List UInt8) : List UInt8 := 34 :: (quoB l ++ [34])
theorem quo1_len (x : UInt8) : (quo1 x).length ≤ 3 := by unfold quo1; split <;> simp
theorem quoB_len : ∀ l : List UInt8, (quoB l).length ≤ 3 * l.length
  | [] => by simp [quoB]
  | x :: l => by
    have h1 := quo1_len x
    have h2 := quoB_len l
    simp only [quoB, List.flatMap_cons, List.length_append, List.length_cons] at *
    omega
theorem quoB_take (l : List UInt8) (i : Nat) (h : i < l.length) : quoB (l.take (i + 1)) = quoB (l.take i) ++ quo1 l[i] := by
  unfold quoB
  rw [List.take_succ_eq_append_getElem h, List.flatMap_append]
  simp only [List.flatMap_cons, List.flatMap_nil, List.append_nil]
theorem dig_tab (n : Nat) (h : n < 16) : bt (⟨#[48, 49, 50, 51, 52, 53, 54, 55, 56, 57, 97, 98, 99, 100, 101, 102]⟩ : ByteArray) (n : Int) = ((hx n).toNat : Int) := by
  have : ∀ m : Fin 16, bt (⟨#[48, 49, 50, 51, 52, 53, 54, 55, 56, 57, 97, 98, 99, 100, 101, 102]⟩ : ByteArray) (m.val : Int) = ((hx m.val).toNat : Int) := by decide +kernel
  exact this ⟨n, h⟩
theorem and15 (n : Nat) (h : n < 256) : Go.bits .and .u8 (n : Int) 15 = ((n % 16 : Nat) : Int) := by
  have : ∀ m : Fin 256, Go.bits .and .u8 (m.val : Int) 15 = ((m.val % 16 : Nat) : Int) := by decide +kernel
  exact this ⟨n, h⟩
theorem quote_l0 (s : ByteArray) (hs : s.size ≤ 1048576) : ∀ (d i k : Nat), i + d = s.size → d < k → change_Quote.l0 k s (nums (34 :: quoB (s.data.toList.take i))) (s.size : Int) (i : Int) = some ⟨(quo s.data.toList).toArray⟩
  | d, i, 0, hi, hk => by omega
  | 0, i, k + 1, hi, hk => by
    have hb := quoB_len s.data.toList
    rw [← qsize_len] at hb
    simp only [change_Quote.l0]
    rw [if_neg (by omega), List.take_of_length_le (by rw [← qsize_len]; omega), if_pos (by rw [nums_len]; simp only [List.length_cons]; omega)]
    rw [show (nums (34 :: quoB s.data.toList) ++ [34] : List Int) = nums (quo s.data.toList) from by simp [nums, quo], str_nums]
  | d + 1, i, k + 1, hi, hk => by
    have hl : i < s.data.toList.length := by rw [← qsize_len]; omega
    have hb := quoB_len (s.data.toList.take i)
    have hb2 : (s.data.toList.take i).length ≤ i := by simp; omega
    have hx' := (s.data.toList[i]).toNat_lt
    simp only [change_Quote.l0]
    rw [if_pos (by omega), if_pos (by omega), if_pos (by omega), qbt s i hl, plain_u]
    simp only [Option.bind_some]
    have hw : wrap64 ((i : Int) + 1) = ((i + 1 : Nat) : Int) := by unfold wrap64; omega
    have ih := quote_l0 s hs d (i + 1) k (by omega) (by omega)
    rw [quoB_take _ _ hl] at ih
    rw [hw]
    by_cases hp : pl s.data.toList[i] = true
    · rw [if_pos hp, if_pos (by rw [nums_len]; simp only [List.length_cons]; omega)]
      rw [show quo1 s.data.toList[i] = [s.data.toList[i]] from by unfold quo1; rw [if_pos hp]] at ih
      rw [← ih, ← List.cons_append, nums_app]
      rfl
    · rw [if_neg hp]
      have h16 : (((s.data.toList[i]).toNat : Int) / 16) = (((s.data.toList[i]).toNat / 16 : Nat) : Int) := by omega
      rw [h16, and15 _ hx', if_pos (by omega), if_pos (by omega), if_pos (by omega), if_pos (by omega), dig_tab _ (by omega), dig_tab _ (by omega)]
      simp only [Option.bind_some, List.length_cons, List.length_nil]
      rw [if_pos (by rw [nums_len]; simp only [List.length_cons]; omega)]
      rw [show quo1 s.data.toList[i] = [92, hx ((s.data.toList[i]).toNat / 16), hx ((s.data.toList[i]).toNat % 16)] from by unfold quo1; rw [if_neg hp]] at ih
      rw [← ih, ← List.cons_append, nums_app]
      rfl
theorem quote_f (s : ByteArray) (hs : s.size ≤ 1048576) : Ev (fun k => change_Quote.f k s) ⟨(quo s.data.toList).toArray⟩ :=
  ⟨s.size + 1, fun k hk => quote_l0 s hs s.size 0 k (by omega) (by omega)⟩

theorem rplain_u (n : Nat) (h : n < 256) : topiaryref05_plain.f (n : Int) = some (pl (UInt8.ofNat n)) := plain_f n h
theorem rdigit (n : Nat) (h : n < 16) : topiaryref05_digit.f (n : Int) = some ((hx n).toNat : Int) := by
  have : ∀ m : Fin 16, topiaryref05_digit.f (m.val : Int) = some ((hx m.val).toNat : Int) := by decide +kernel
  exact this ⟨n, h⟩
theorem rquote_l0 (s : ByteArray) (hs : s.size ≤ 1048576) : ∀ (d i k : Nat), i + d = s.size → d < k → topiaryref05_Quote.l0 k s (nums (34 :: quoB (s.data.toList.take i))) (i : Int) = some ⟨(quo s.data.toList).toArray⟩
  | d, i, 0, hi, hk => by omega
  | 0, i, k + 1, hi, hk => by
    have hb := quoB_len s.data.toList
    rw [← qsize_len] at hb
    simp only [topiaryref05_Quote.l0]
    rw [if_neg (by omega), List.take_of_length_le (by rw [← qsize_len]; omega), if_pos (by rw [nums_len]; simp only [List.length_cons]; omega)]
    rw [show (nums (34 :: quoB s.data.toList) ++ [34] : List Int) = nums (quo s.data.toList) from by simp [nums, quo], str_nums]
  | d + 1, i, k + 1, hi, hk => by
    have hl : i < s.data.toList.length := by rw [← qsize_len]; omega
    have hb := quoB_len (s.data.toList.take i)
    have hb2 : (s.data.toList.take i).length ≤ i := by simp; omega
    have hx' := (s.data.toList[i]).toNat_lt
    simp only [topiaryref05_Quote.l0]
    rw [if_pos (by omega), if_pos (by omega), qbt s i hl, rplain_u _ hx', UInt8.ofNat_toNat]
    simp only [Option.bind_some]
    have hw : wrap64 ((i : Int) + 1) = ((i + 1 : Nat) : Int) := by unfold wrap64; omega
    have ih := rquote_l0 s hs d (i + 1) k (by omega) (by omega)
    rw [quoB_take _ _ hl] at ih
    rw [hw]
    by_cases hp : pl s.data.toList[i] = true
    · rw [if_pos hp, if_pos (by rw [nums_len]; simp only [List.length_cons]; omega)]
      rw [show quo1 s.data.toList[i] = [s.data.toList[i]] from by unfold quo1; rw [if_pos hp]] at ih
      rw [← ih, ← List.cons_append, nums_app]
      rfl
    · rw [if_neg hp]
      have h16 : (Int.tdiv ((s.data.toList[i]).toNat : Int) 16) % 256 = (((s.data.toList[i]).toNat / 16 : Nat) : Int) := by
        rw [Int.tdiv_eq_ediv_of_nonneg (by omega)]; omega
      have h15 : Int.tmod ((s.data.toList[i]).toNat : Int) 16 = (((s.data.toList[i]).toNat % 16 : Nat) : Int) := by
        rw [Int.tmod_eq_emod_of_nonneg (by omega)]; omega
      rw [h16, h15, rdigit _ (by omega), rdigit _ (by omega)]
      simp only [Option.bind_some, List.length_cons, List.length_nil]
      rw [if_pos (by rw [nums_len]; simp only [List.length_cons]; omega)]
      rw [show quo1 s.data.toList[i] = [92, hx ((s.data.toList[i]).toNat / 16), hx ((s.data.toList[i]).toNat % 16)] from by unfold quo1; rw [if_neg hp]] at ih
      rw [← ih, ← List.cons_append, nums_app]
      rfl
theorem rquote_f (s : ByteArray) (hs : s.size ≤ 1048576) : Ev (fun k => topiaryref05_Quote.f k s) ⟨(quo s.data.toList).toArray⟩ :=
  ⟨s.size + 1, fun k hk => rquote_l0 s hs s.size 0 k (by omega) (by omega)⟩

def NB (w : List UInt8) : Prop := ∀ x ∈ w, x ≠ 32
theorem isD_nb {x : UInt8} (h : isD x = true) : x ≠ 32 := by rintro rfl; revert h; decide
theorem res_nb : ∀ (l : List UInt8) (n v : Nat), res n l = some v → NB l
  | [], n, v, h => by intro x hx; cases hx
  | x :: l, n, v, h => by
    simp only [res] at h
    split at h
    · rename_i hx
      intro y hy
      rcases List.mem_cons.mp hy with rfl | hy
      · exact isD_nb hx
      · exact res_nb l _ v h y hy
    · cases h
theorem dec_nb (n : Nat) : NB (Lib.decDigits n) := res_nb _ 0 n (dec_res n)
theorem nb_app {a b : List UInt8} (ha : NB a) (hb : NB b) : NB (a ++ b) := by
  intro x hx
  rcases List.mem_append.mp hx with h | h
  · exact ha x h
  · exact hb x h
theorem nb_cons {x : UInt8} {b : List UInt8} (ha : x ≠ 32) (hb : NB b) : NB (x :: b) := by
  intro y hy
  rcases List.mem_cons.mp hy with rfl | h
  · exact ha
  · exact hb y h
theorem joinb (x y : List UInt8) (r : List (List UInt8)) : Lib.join (x :: y :: r) [32] = x ++ 32 :: Lib.join (y :: r) [32] := by
  rw [Lib.join_cons, Lib.join_cons]
  simp [Lib.joinTail]

def stT (a b : Int) : List UInt8 := (text a b).1
def aft (a b : Int) : List UInt8 := if a = 0 ∧ b = 0 then [45] else stT a b
def kw (kd : Int) : List UInt8 := if kd = 1 then [99, 114, 101, 97, 116, 101] else if kd = 2 then [109, 111, 118, 101] else if kd = 3 then [115, 101, 116] else if kd = 4 then [99, 108, 101, 97, 114] else [116, 101, 120, 116]
theorem stT_nb (a b : Int) : NB (stT a b) := by
  unfold stT text
  split
  · exact nb_app (dec_nb _) (nb_cons (by decide) (dec_nb _))
  · split
    · show NB [114, 111, 111, 116]
      unfold NB; decide
    · split
      · show NB [116, 114, 97, 115, 104]
        unfold NB; decide
      · intro x hx; cases hx
theorem aft_nb (a b : Int) : NB (aft a b) := by
  unfold aft
  split
  · unfold NB; decide
  · exact stT_nb a b
theorem kw_nb (kd : Int) : NB (kw kd) := by
  unfold kw
  repeat' split
  all_goals (unfold NB; decide)
theorem jn_nb : ∀ t : List Int, NB (jn t)
  | [] => by intro x hx; simp [jn, Lib.join_nil] at hx
  | [x] => by rw [jn_one]; exact dec_nb _
  | x :: y :: r => by
    have e : jn (x :: y :: r) = dg x ++ 44 :: jn (y :: r) := by
      unfold jn
      rw [List.map_cons, List.map_cons, Lib.join_cons, Lib.join_cons]
      simp [Lib.joinTail]
    rw [e]
    exact nb_app (dec_nb _) (nb_cons (by decide) (jn_nb _))
theorem txt_nb (t : List Int) : NB (txt t).data.toList := by
  unfold txt
  split
  · show NB [45]
    unfold NB; decide
  · exact jn_nb t
/-- What stands behind the clock, word by word. -/
def tail (kd n1 n2 p1 p2 q1 q2 : Int) (nm vl : List UInt8) : List (List UInt8) := (if kd = 1 then [] else [stT n1 n2]) ++ ((if kd = 1 ∨ kd = 2 then [stT p1 p2, aft q1 q2] else []) ++ ((if nm = [] then [] else [nm]) ++ (if kd = 3 ∨ kd = 5 then [quo vl] else [])))
/-- A change's text. -/
def textL (a b s : Int) (ck : List UInt8) (kd n1 n2 p1 p2 q1 q2 : Int) (nm vl : List UInt8) : List UInt8 := Lib.join ([kw kd, stT a b, dg s, ck] ++ tail kd n1 n2 p1 p2 q1 q2 nm vl) [32]
theorem tail_1 {n1 n2 p1 p2 q1 q2 : Int} {nm vl : List UInt8} (h : nm ≠ []) : Lib.join (tail 1 n1 n2 p1 p2 q1 q2 nm vl) [32] = stT p1 p2 ++ 32 :: (aft q1 q2 ++ 32 :: nm) := by
  simp [tail, h, joinb, Lib.join_one]
theorem tail_2 {n1 n2 p1 p2 q1 q2 : Int} {vl : List UInt8} : Lib.join (tail 2 n1 n2 p1 p2 q1 q2 [] vl) [32] = stT n1 n2 ++ 32 :: (stT p1 p2 ++ 32 :: aft q1 q2) := by
  simp [tail, joinb, Lib.join_one]
theorem tail_3 {n1 n2 p1 p2 q1 q2 : Int} {nm vl : List UInt8} (h : nm ≠ []) : Lib.join (tail 3 n1 n2 p1 p2 q1 q2 nm vl) [32] = stT n1 n2 ++ 32 :: (nm ++ 32 :: quo vl) := by
  simp [tail, h, joinb, Lib.join_one]
theorem tail_4 {n1 n2 p1 p2 q1 q2 : Int} {nm vl : List UInt8} (h : nm ≠ []) : Lib.join (tail 4 n1 n2 p1 p2 q1 q2 nm vl) [32] = stT n1 n2 ++ 32 :: nm := by
  simp [tail, h, joinb, Lib.join_one]
theorem tail_5 {n1 n2 p1 p2 q1 q2 : Int} {vl : List UInt8} : Lib.join (tail 5 n1 n2 p1 p2 q1 q2 [] vl) [32] = stT n1 n2 ++ 32 :: quo vl := by
  simp [tail, joinb, Lib.join_one]
theorem tail_ne (kd n1 n2 p1 p2 q1 q2 : Int) (nm vl : List UInt8) : tail kd n1 n2 p1 p2 q1 q2 nm vl ≠ [] := by
  unfold tail
  by_cases h : kd = 1 <;> simp [h]
theorem text_words (a b s : Int) (ck : List UInt8) (kd n1 n2 p1 p2 q1 q2 : Int) (nm vl : List UInt8) : textL a b s ck kd n1 n2 p1 p2 q1 q2 nm vl = kw kd ++ 32 :: (stT a b ++ 32 :: (dg s ++ 32 :: (ck ++ 32 :: Lib.join (tail kd n1 n2 p1 p2 q1 q2 nm vl) [32]))) := by
  unfold textL
  rcases ht : tail kd n1 n2 p1 p2 q1 q2 nm vl with _ | ⟨y, r⟩
  · exact absurd ht (tail_ne kd n1 n2 p1 p2 q1 q2 nm vl)
  · simp only [List.cons_append, List.nil_append, joinb]
theorem join_le (ws : List (List UInt8)) : (Lib.join ws [32]).length ≤ ws.length + Lib.lens ws := by
  rcases ws with _ | ⟨x, r⟩
  · simp [Lib.join_nil]
  · rw [Lib.join_cons, List.length_append, Lib.joinTail_length]
    simp only [Lib.lens, List.map_cons, List.sum_cons, List.length_cons, List.length_nil]
    omega
theorem lens_app (a b : List (List UInt8)) : Lib.lens (a ++ b) = Lib.lens a + Lib.lens b := by simp [Lib.lens]
theorem aft_size (a b : Int) : (aft a b).length ≤ 40 := by
  unfold aft
  split
  · decide
  · exact text_size a b
theorem kw_size (kd : Int) : (kw kd).length ≤ 6 := by
  unfold kw
  repeat' split
  all_goals decide
theorem textL_len (a b s : Int) (ck : List UInt8) (kd n1 n2 p1 p2 q1 q2 : Int) (nm vl : List UInt8) (hs : s ≤ 1099511627776) (hc : ck.length ≤ 896) (hn : nm.length ≤ 32) (hv : (quo vl).length ≤ 770) : (textL a b s ck kd n1 n2 p1 p2 q1 q2 nm vl).length ≤ 2048 := by
  unfold textL
  refine Nat.le_trans (join_le _) ?_
  have h1 := kw_size kd
  have h2 : (stT a b).length ≤ 40 := text_size a b
  have h3 := dg_le hs
  have h4 : (stT n1 n2).length ≤ 40 := text_size n1 n2
  have h5 : (stT p1 p2).length ≤ 40 := text_size p1 p2
  have h6 := aft_size q1 q2
  have l0 : Lib.lens [kw kd, stT a b, dg s, ck] ≤ 955 := by simp [Lib.lens]; omega
  have l1 : (tail kd n1 n2 p1 p2 q1 q2 nm vl).length ≤ 5 ∧ Lib.lens (tail kd n1 n2 p1 p2 q1 q2 nm vl) ≤ 922 := by
    unfold tail
    simp only [lens_app, List.length_append]
    have a1 : (if kd = 1 then [] else [stT n1 n2]).length ≤ 1 ∧ Lib.lens (if kd = 1 then [] else [stT n1 n2]) ≤ 40 := by split <;> simp [Lib.lens] <;> omega
    have a2 : (if kd = 1 ∨ kd = 2 then [stT p1 p2, aft q1 q2] else []).length ≤ 2 ∧ Lib.lens (if kd = 1 ∨ kd = 2 then [stT p1 p2, aft q1 q2] else []) ≤ 80 := by split <;> simp [Lib.lens] <;> omega
    have a3 : (if nm = [] then [] else [nm]).length ≤ 1 ∧ Lib.lens (if nm = [] then [] else [nm]) ≤ 32 := by split <;> simp [Lib.lens] <;> omega
    have a4 : (if kd = 3 ∨ kd = 5 then [quo vl] else []).length ≤ 1 ∧ Lib.lens (if kd = 3 ∨ kd = 5 then [quo vl] else []) ≤ 770 := by split <;> simp [Lib.lens] <;> omega
    omega
  rw [List.length_append, lens_app]
  simp only [List.length_cons, List.length_nil]
  omega

/-! names -/
def lc (x : UInt8) : Bool := decide (97 ≤ x.toNat) && decide (x.toNat ≤ 122)
def nmc (x : UInt8) : Bool := lc x || (decide (48 ≤ x.toNat) && decide (x.toNat ≤ 57)) || decide (x.toNat = 45)
def nameB (l : List UInt8) : Bool := decide (l ≠ []) && (decide (l.length ≤ 32) && (l.head?.any lc && l.all nmc))
theorem nmc_nb {x : UInt8} (h : nmc x = true) : x ≠ 32 := by rintro rfl; revert h; decide
theorem nameB_spec {l : List UInt8} (h : nameB l = true) : l ≠ [] ∧ l.length ≤ 32 ∧ NB l := by
  unfold nameB at h
  simp only [Bool.and_eq_true, decide_eq_true_eq, List.all_eq_true] at h
  exact ⟨h.1, h.2.1, fun x hx => nmc_nb (h.2.2.2 x hx)⟩
theorem trim_self {ds : List Int} (h : ∀ a r, ds = r ++ [a] → a ≠ 0) : trim ds = ds := (trim_eq ⟨⟨0, by simp⟩, h⟩).symm
theorem txt_len {t : List Int} (hl : t.length ≤ 64) (hf : Fits t) : (txt t).data.toList.length ≤ 896 := by
  unfold txt
  split
  · show [(45 : UInt8)].length ≤ 896
    decide
  · have := jn_le t hf
    show (jn t).length ≤ 896
    omega

/-! may a change be? -/
def lessB (a b c d : Int) : Bool := decide (a < c ∨ (a = c ∧ b < d))
theorem less_f (a b c d : Int) : ident_Less.f a b c d = some (lessB a b c d) := by
  unfold ident_Less.f ident_Compare.f lessB
  by_cases h1 : a = c
  · subst h1
    by_cases h2 : b = d
    · subst h2; simp
    · by_cases h3 : b < d <;> simp [h2, h3]
  · by_cases h3 : a < c <;> simp [h1, h3]
def ndB (a b : Int) : Bool := isR a b || decide (a = 0 ∧ (b = 0 ∨ b = 1))
theorem node_ident_f (a b : Int) : ident_Node.f a b = some (ndB a b) := by
  unfold ident_Node.f ndB
  rw [right_f]
  simp only [Option.bind_some]
  by_cases h : isR a b = true
  · rw [if_pos h, h]; rfl
  · rw [if_neg h]
    have hf : isR a b = false := by simpa using h
    rw [hf]
    by_cases h1 : a = 0 <;> by_cases h2 : b = 0 <;> by_cases h3 : b = 1 <;> simp [h1, h2, h3]
def atV (ds : List Int) (i : Int) : Int := if 0 ≤ i ∧ i < ds.length then rd ds i else 0
def depsV (ds : List Int) (b s : Int) : Int := if chk ds = 0 then (if ds.getLast? = some 0 then 2 else if atV ds b = wrap64 (s - 1) then 0 else 2) else chk ds
theorem at_f (ds : List Int) (i : Int) : clock_At.f ds i = some (atV ds i) := pAt ds i
theorem last_rd (ds : List Int) (h : 0 < ds.length) : ds.getLast? = some (rd ds ((ds.length - 1 : Nat) : Int)) := by
  rw [rd_get _ _ (by omega), List.getLast?_eq_getElem?, List.getElem?_eq_getElem]
theorem deps_f (a b s : Int) (ds : List Int) (kd n1 n2 p1 p2 q1 q2 : Int) (nm vl : ByteArray) (hn : ds.length ≤ 17592186043904) : Ev (fun k => change_deps.f k a b s ds kd n1 n2 p1 p2 q1 q2 nm vl) (depsV ds b s) := by
  unfold change_deps.f depsV
  refine Ev.bind (pCheck ds hn) ?_
  by_cases hc : chk ds = 0
  · rw [if_pos hc]
    simp only [hc, if_true, at_f, Option.bind_some]
    generalize atV ds b = v
    by_cases h0 : ds.length = 0
    · have e : ds = [] := List.eq_nil_of_length_eq_zero h0
      subst e
      have e1 : ¬ ((([] : List Int).length : Int) > 0) := by simp
      have e2 : ¬ (([] : List Int).getLast? = some 0) := by simp
      rw [if_neg e1, if_neg e2]
      split <;> exact Ev.now _
    · have hw : wrap64 ((ds.length : Int) - 1) = ((ds.length - 1 : Nat) : Int) := by unfold wrap64; omega
      rw [if_pos (by omega), hw, if_pos (by omega), if_pos (by omega), last_rd ds (by omega)]
      by_cases h1 : rd ds ((ds.length - 1 : Nat) : Int) = 0
      · rw [if_pos h1, if_pos (show some (rd ds ((ds.length - 1 : Nat) : Int)) = some 0 from by rw [h1])]; exact Ev.now _
      · rw [if_neg h1, if_neg (show ¬ (some (rd ds ((ds.length - 1 : Nat) : Int)) = some 0) from fun e => h1 (Option.some.inj e))]
        split <;> exact Ev.now _
  · simp only [hc, if_false]; exact Ev.now _
def nodeV (a b kd n1 n2 : Int) : Bool := if kd = 1 then decide (n1 = a ∧ n2 = b) else if kd = 2 then isR n1 n2 && lessB n1 n2 a b else decide (n1 = 0 ∧ n2 = 0) || (isR n1 n2 && lessB n1 n2 a b)
theorem node_f (a b s : Int) (ds : List Int) (kd n1 n2 p1 p2 q1 q2 : Int) (nm vl : ByteArray) : change_node.f a b s ds kd n1 n2 p1 p2 q1 q2 nm vl = some (nodeV a b kd n1 n2) := by
  unfold change_node.f nodeV
  simp only [right_f, less_f, Option.bind_some, beq2]
  split
  · rfl
  · split
    · cases isR n1 n2 <;> rfl
    · by_cases hz : n1 = 0 ∧ n2 = 0
      · simp [hz]
      · simp only [hz, decide_false, Bool.false_eq_true, if_false, Bool.false_or]
        cases isR n1 n2 <;> rfl
def placeV (a b kd n1 n2 p1 p2 q1 q2 : Int) : Bool := if kd = 1 ∨ kd = 2 then (ndB p1 p2 && lessB p1 p2 a b && !decide (p1 = n1 ∧ p2 = n2)) && (decide (q1 = 0 ∧ q2 = 0) || (isR q1 q2 && lessB q1 q2 a b)) else decide (p1 = 0 ∧ p2 = 0) && decide (q1 = 0 ∧ q2 = 0)
theorem place_j1 (k : Nat) (x : Bool) (a b s : Int) (ds : List Int) (kd n1 n2 p1 p2 q1 q2 : Int) (nm vl : ByteArray) : change_place.j1 (k + 1) x a b s ds kd n1 n2 p1 p2 q1 q2 nm vl = some (!x && (decide (q1 = 0 ∧ q2 = 0) || (isR q1 q2 && lessB q1 q2 a b))) := by
  unfold change_place.j1
  simp only [right_f, less_f, Option.bind_some, beq2]
  cases x with
  | true => rfl
  | false =>
    simp only [Bool.false_eq_true, if_false, Bool.not_false, Bool.true_and]
    by_cases hz : q1 = 0 ∧ q2 = 0
    · simp [hz]
    · simp only [hz, decide_false, Bool.false_eq_true, if_false, Bool.false_or]
      cases isR q1 q2 <;> rfl
theorem place_f (k : Nat) (a b s : Int) (ds : List Int) (kd n1 n2 p1 p2 q1 q2 : Int) (nm vl : ByteArray) : change_place.f (k + 2) a b s ds kd n1 n2 p1 p2 q1 q2 nm vl = some (placeV a b kd n1 n2 p1 p2 q1 q2) := by
  have hj : ∀ x : Bool, change_place.j0 (k + 2) x a b s ds kd n1 n2 p1 p2 q1 q2 nm vl = some (if x = false then (ndB p1 p2 && lessB p1 p2 a b && !decide (p1 = n1 ∧ p2 = n2)) && (decide (q1 = 0 ∧ q2 = 0) || (isR q1 q2 && lessB q1 q2 a b)) else decide (p1 = 0 ∧ p2 = 0) && decide (q1 = 0 ∧ q2 = 0)) := by
    intro x
    unfold change_place.j0
    simp only [node_ident_f, less_f, Option.bind_some, beq2, place_j1]
    cases x with
    | true =>
      simp only [if_true, Bool.true_eq_false, if_false]
      by_cases hz : p1 = 0 ∧ p2 = 0
      · simp only [hz, and_self, decide_true, if_true, Bool.true_and]
      · simp only [hz, decide_false, Bool.false_eq_true, if_false, Bool.false_and]
    | false =>
      simp only [Bool.false_eq_true, if_false, if_true]
      cases ndB p1 p2 <;> cases lessB p1 p2 a b <;> simp
  unfold change_place.f placeV
  rw [hj, hj]
  by_cases h1 : kd = 1
  · simp [h1]
  · by_cases h2 : kd = 2
    · subst h2; simp
    · have hb : (kd != 2) = true := by rw [bne_iff_ne]; exact h2
      rw [if_neg h1, hb, if_neg (show ¬ (kd = 1 ∨ kd = 2) from by simp [h1, h2]), if_neg (show ¬ (true = false) from by simp)]
theorem name_l0 (s : ByteArray) (hs : s.size ≤ 32) : ∀ (d i k : Nat), i + d = s.size → d < k → change_Name.l0 k s (s.size : Int) (i : Int) = some ((s.data.toList.drop i).all nmc)
  | d, i, 0, hi, hk => by omega
  | 0, i, k + 1, hi, hk => by
    simp only [change_Name.l0]
    rw [if_neg (by omega), List.drop_eq_nil_of_le (by rw [← qsize_len]; omega)]
    rfl
  | d + 1, i, k + 1, hi, hk => by
    have hl : i < s.data.toList.length := by rw [← qsize_len]; omega
    have hw : wrap64 ((i : Int) + 1) = ((i + 1 : Nat) : Int) := by unfold wrap64; omega
    have ih := name_l0 s hs d (i + 1) k (by omega) (by omega)
    simp only [change_Name.l0]
    rw [if_pos (by omega), if_pos (by omega), if_pos (by omega), qbt s i hl, hw, ih, List.drop_eq_getElem_cons hl, List.all_cons]
    generalize (List.drop (i + 1) s.data.toList).all nmc = r
    generalize s.data.toList[i] = x
    unfold nmc lc
    by_cases h1 : (x.toNat : Int) < 97
    · rw [if_pos h1]
      by_cases h2 : (x.toNat : Int) < 48
      · rw [if_pos h2]
        by_cases h3 : (x.toNat : Int) = 45
        · have h3' : x.toNat = 45 := by omega
          rw [if_pos h3]; simp [h3']
        · rw [if_neg h3]
          have a1 : ¬ 97 ≤ x.toNat := by omega
          have a2 : ¬ 48 ≤ x.toNat := by omega
          have a3 : ¬ x.toNat = 45 := by omega
          simp [a1, a2, a3]
      · rw [if_neg h2]
        by_cases h4 : (x.toNat : Int) > 57
        · rw [if_pos h4, if_neg (by omega)]
          have a1 : ¬ 97 ≤ x.toNat := by omega
          have a2 : ¬ x.toNat ≤ 57 := by omega
          have a3 : ¬ x.toNat = 45 := by omega
          simp [a1, a2, a3]
        · rw [if_neg h4]
          have a2 : 48 ≤ x.toNat := by omega
          have a3 : x.toNat ≤ 57 := by omega
          simp [a2, a3]
    · rw [if_neg h1]
      by_cases h2 : (x.toNat : Int) > 122
      · rw [if_pos h2, if_neg (by omega), if_pos (by omega), if_neg (by omega)]
        have a1 : ¬ x.toNat ≤ 122 := by omega
        have a2 : ¬ x.toNat ≤ 57 := by omega
        have a3 : ¬ x.toNat = 45 := by omega
        simp [a1, a2, a3]
      · rw [if_neg h2]
        have a1 : 97 ≤ x.toNat := by omega
        have a2 : x.toNat ≤ 122 := by omega
        simp [a1, a2]
theorem name_f (s : ByteArray) (k : Nat) : change_Name.f (k + 40) s = some (nameB s.data.toList) := by
  unfold change_Name.f nameB
  have hz : s.size = s.data.toList.length := rfl
  by_cases h0 : s.size = 0
  · have e : s.data.toList = [] := List.eq_nil_of_length_eq_zero (by omega)
    rw [if_pos (by omega), e]
    simp [change_Name.j0]
  · rw [if_neg (by omega)]
    have hne : s.data.toList ≠ [] := fun e => h0 (by rw [hz, e]; rfl)
    by_cases h1 : s.size > 32
    · rw [if_pos (by omega)]
      have : ¬ s.data.toList.length ≤ 32 := by omega
      rw [decide_eq_false this, Bool.false_and, Bool.and_false]
      simp only [change_Name.j0, if_true]
    · have hl : 0 < s.data.toList.length := by omega
      have hh : s.data.toList.head? = some s.data.toList[0] := List.head?_eq_getElem? ▸ List.getElem?_eq_getElem hl
      have hb : bt s 0 = ((s.data.toList[0]).toNat : Int) := by simpa using qbt s 0 hl
      have hrun : change_Name.l0 (k + 39) s (s.size : Int) 0 = some (s.data.toList.all nmc) := by
        have := name_l0 s (by omega) s.size 0 (k + 39) (by omega) (by omega)
        simpa using this
      have hle : s.data.toList.length ≤ 32 := by omega
      rw [if_neg (by omega), if_pos (by omega), hb, hh]
      simp only [Option.any_some, hne, hle, ne_eq, not_false_eq_true, decide_true, Bool.true_and]
      generalize s.data.toList[0] = x
      unfold lc
      by_cases h2 : (x.toNat : Int) < 97
      · rw [if_pos h2]
        have a1 : ¬ 97 ≤ x.toNat := by omega
        simp [change_Name.j0, a1]
      · rw [if_neg h2]
        have a1 : 97 ≤ x.toNat := by omega
        by_cases h3 : (x.toNat : Int) > 122
        · have a2 : ¬ x.toNat ≤ 122 := by omega
          rw [decide_eq_true h3]
          simp [change_Name.j0, a2]
        · have a2 : x.toNat ≤ 122 := by omega
          rw [decide_eq_false h3]
          simp only [change_Name.j0, Bool.false_eq_true, if_false]
          rw [hrun]
          simp [a1, a2]
def named (kd : Int) : Bool := decide (kd = 1 ∨ kd = 3 ∨ kd = 4)
def valued (kd : Int) : Bool := decide (kd = 3 ∨ kd = 5)
def wordsV (kd : Int) (nm vl : List UInt8) : Int := if (if named kd = true then nameB nm else decide (nm = [])) = true then (if vl.length > 256 then 3 else if valued kd = true then 0 else if vl = [] then 0 else 2) else 8
theorem isE {l : List UInt8} : (!l.isEmpty) = !decide (l = []) := by cases l <;> simp
theorem words_ok (kd : Int) (nm vl : ByteArray) (k : Nat) : words_f (k + 40) kd nm vl = some (wordsV kd nm.data.toList vl.data.toList) := by
  unfold words_f words_bad wordsV words_rest named valued
  have hz : vl.size = vl.data.toList.length := rfl
  simp only [name_f, Option.bind_some, isE, ByteArray.toList_eq, hz]
  have hr : (if ((vl.data.toList.length : Nat) : Int) > 256 then (3 : Int) else if kd = 3 ∨ kd = 5 then 0 else if (!decide (vl.data.toList = [])) = true then 2 else 0) = (if vl.data.toList.length > 256 then 3 else if decide (kd = 3 ∨ kd = 5) = true then 0 else if vl.data.toList = [] then 0 else 2) := by
    simp only [decide_eq_true_eq, Bool.not_eq_true', decide_eq_false_iff_not]
    by_cases h1 : vl.data.toList.length > 256
    · rw [if_pos (by omega), if_pos h1]
    · rw [if_neg (by omega), if_neg h1]
      by_cases h2 : kd = 3 ∨ kd = 5
      · rw [if_pos h2, if_pos h2]
      · rw [if_neg h2, if_neg h2]
        by_cases h3 : vl.data.toList = [] <;> simp [h3]
  rw [hr]
  by_cases hk : kd = 1 ∨ kd = 3 ∨ kd = 4
  · simp only [hk, if_true, decide_true, Option.bind_some]
    cases nameB nm.data.toList <;> rfl
  · simp only [hk, if_false, decide_false, Bool.false_eq_true, Option.bind_some]
    by_cases he : nm.data.toList = [] <;> simp [he]
/-- Why a change may not be. -/
def checkV (a b s : Int) (ds : List Int) (kd n1 n2 p1 p2 q1 q2 : Int) (nm vl : List UInt8) : Int := if kd < 1 ∨ kd > 5 then 1 else if isR a b = true then (if s < 1 ∨ s > a then 1 else if depsV ds b s = 0 then (if nodeV a b kd n1 n2 = true then (if placeV a b kd n1 n2 p1 p2 q1 q2 = true then wordsV kd nm vl else 2) else 2) else depsV ds b s) else 2
theorem check_f (a b s : Int) (ds : List Int) (kd n1 n2 p1 p2 q1 q2 : Int) (nm vl : ByteArray) (hn : ds.length ≤ 17592186043904) : Ev (fun k => change_Check.f k a b s ds kd n1 n2 p1 p2 q1 q2 nm vl) (checkV a b s ds kd n1 n2 p1 p2 q1 q2 nm.data.toList vl.data.toList) := by
  have hj : ∀ x : Bool, Ev (fun k => change_Check.j0 k x a b s ds kd n1 n2 p1 p2 q1 q2 nm vl) (if x = true then 1 else if isR a b = true then (if s < 1 ∨ s > a then 1 else if depsV ds b s = 0 then (if nodeV a b kd n1 n2 = true then (if placeV a b kd n1 n2 p1 p2 q1 q2 = true then wordsV kd nm.data.toList vl.data.toList else 2) else 2) else depsV ds b s) else 2) := by
    intro x
    refine Ev.step (fun k => by unfold change_Check.j0; rfl) ?_
    cases x with
    | true => exact Ev.now _
    | false =>
      simp only [Bool.false_eq_true, if_false, right_f, Option.bind_some, node_f]
      by_cases hR : isR a b = true
      · simp only [hR, if_true]
        by_cases h1 : s < 1
        · simp only [h1, if_true, true_or]; exact Ev.now _
        · by_cases h2 : s > a
          · simp only [h1, if_false, h2, if_true, or_true]; exact Ev.now _
          · simp only [h1, if_false, h2, or_self]
            refine Ev.bind (deps_f a b s ds kd n1 n2 p1 p2 q1 q2 nm vl hn) ?_
            by_cases h3 : depsV ds b s = 0
            · simp only [h3, if_true]
              by_cases h4 : nodeV a b kd n1 n2 = true
              · simp only [h4, if_true]
                refine Ev.bind ⟨2, fun k hk => by obtain ⟨k, rfl⟩ : ∃ m, k = m + 2 := ⟨k - 2, by omega⟩; exact place_f k a b s ds kd n1 n2 p1 p2 q1 q2 nm vl⟩ ?_
                by_cases h5 : placeV a b kd n1 n2 p1 p2 q1 q2 = true
                · simp only [h5, if_true]
                  refine Ev.bind ⟨40, fun k hk => by obtain ⟨k, rfl⟩ : ∃ m, k = m + 40 := ⟨k - 40, by omega⟩; exact words_ok kd nm vl k⟩ ?_
                  exact Ev.now _
                · simp only [h5]; exact Ev.now _
              · simp only [h4]; exact Ev.now _
            · simp only [h3, if_false]; exact Ev.now _
      · simp only [hR]; exact Ev.now _
  unfold change_Check.f checkV
  by_cases h1 : kd < 1
  · simp only [h1, if_true, true_or]
    exact hj true
  · simp only [h1, if_false, false_or]
    have := hj (decide (kd > 5))
    simp only [decide_eq_true_eq] at this
    exact this

/-! the document's check -/
theorem rless_f (a b c d : Int) : topiaryref01_Less.f a b c d = some (lessB a b c d) := by
  unfold topiaryref01_Less.f lessB
  by_cases h1 : a < c
  · rw [if_pos h1, decide_eq_true (.inl h1)]
  · rw [if_neg h1]
    by_cases h2 : a = c
    · rw [if_pos h2]; simp [h2]
    · rw [if_neg h2]; simp [h1, h2]
theorem rahead_f (a b c d : Int) : topiaryref05_ahead.f a b c d = some (isR a b && lessB a b c d) := by
  unfold topiaryref05_ahead.f
  rw [refright_f, rless_f]
  simp only [Option.bind_some]
  cases isR a b <;> rfl
theorem rnd_f (a b : Int) : topiaryref01_Node.f a b = some (ndB a b) := refnode_f a b
theorem rname_l0 (s : ByteArray) (hs : s.size ≤ 9223372036854775807) : ∀ (d i k : Nat), 1 ≤ i → i + d = s.size → d < k → topiaryref05_Name.l0 k s (i : Int) = some ((s.data.toList.drop i).all nmc && decide (s.size ≤ 32))
  | d, i, 0, h1, hi, hk => by omega
  | 0, i, k + 1, h1, hi, hk => by
    simp only [topiaryref05_Name.l0]
    rw [if_neg (by omega), if_pos (by omega), List.drop_eq_nil_of_le (by rw [← qsize_len]; omega)]
    have : decide ((s.size : Int) ≤ 32) = decide (s.size ≤ 32) := decide_eq_decide.mpr (by omega)
    rw [this]; rfl
  | d + 1, i, k + 1, h1, hi, hk => by
    have hl : i < s.data.toList.length := by rw [← qsize_len]; omega
    have hw : wrap64 ((i : Int) + 1) = ((i + 1 : Nat) : Int) := by unfold wrap64; omega
    have ih := rname_l0 s hs d (i + 1) k (by omega) (by omega) (by omega)
    have e0 : ¬ ((i : Int) = 0) := by omega
    simp only [topiaryref05_Name.l0]
    rw [if_pos (by omega), if_pos (by omega), qbt s i hl, hw, ih, List.drop_eq_getElem_cons hl, List.all_cons, if_neg e0]
    generalize (List.drop (i + 1) s.data.toList).all nmc = r
    generalize decide (s.size ≤ 32) = t
    generalize s.data.toList[i] = x
    have key : (if (x.toNat : Int) = 45 then some (r && t) else if (x.toNat : Int) < 48 then some false else if (x.toNat : Int) > 57 then some false else some (r && t)) = some ((((decide (48 ≤ x.toNat) && decide (x.toNat ≤ 57)) || decide (x.toNat = 45)) && r) && t) := by
      by_cases h3 : x.toNat = 45
      · rw [if_pos (by omega)]; simp [h3]
      · rw [if_neg (by omega)]
        by_cases h4 : x.toNat < 48
        · have a1 : ¬ 48 ≤ x.toNat := by omega
          rw [if_pos (by omega)]; simp [a1, h3]
        · rw [if_neg (by omega)]
          by_cases h5 : x.toNat > 57
          · have a1 : ¬ x.toNat ≤ 57 := by omega
            rw [if_pos (by omega)]; simp [a1, h3]
          · have a1 : x.toNat ≤ 57 := by omega
            have a2 : 48 ≤ x.toNat := by omega
            rw [if_neg (by omega)]; simp [a1, a2]
    unfold nmc lc
    by_cases h2 : (x.toNat : Int) ≥ 97
    · rw [if_pos h2]
      by_cases h3 : (x.toNat : Int) ≤ 122
      · have a1 : 97 ≤ x.toNat := by omega
        have a2 : x.toNat ≤ 122 := by omega
        rw [if_pos h3]; simp [a1, a2]
      · have a2 : ¬ x.toNat ≤ 122 := by omega
        rw [if_neg h3, key, decide_eq_false a2, Bool.and_false, Bool.false_or]
    · have a1 : ¬ 97 ≤ x.toNat := by omega
      rw [if_neg h2, key, decide_eq_false a1, Bool.false_and, Bool.false_or]
theorem all_head : ∀ (l : List UInt8) (h : 0 < l.length), l.all nmc = (nmc l[0] && (l.drop 1).all nmc)
  | [], h => by simp at h
  | x :: r, h => by simp
theorem rname_f (s : ByteArray) (hs : s.size ≤ 9223372036854775807) : Ev (fun k => topiaryref05_Name.f k s) (nameB s.data.toList) := by
  refine ⟨s.size + 2, fun k hk => ?_⟩
  obtain ⟨k, rfl⟩ : ∃ m, k = m + 1 := ⟨k - 1, by omega⟩
  have hz : s.size = s.data.toList.length := rfl
  simp only [topiaryref05_Name.f, topiaryref05_Name.l0]
  unfold nameB
  by_cases h0 : s.size = 0
  · have e : s.data.toList = [] := List.eq_nil_of_length_eq_zero (by omega)
    rw [if_neg (by omega), if_neg (by omega), e]; rfl
  · have hl : 0 < s.data.toList.length := by omega
    have hne : s.data.toList ≠ [] := fun e => h0 (by rw [hz, e]; rfl)
    have hh : s.data.toList.head? = some s.data.toList[0] := List.head?_eq_getElem? ▸ List.getElem?_eq_getElem hl
    have hb : bt s 0 = ((s.data.toList[0]).toNat : Int) := by simpa using qbt s 0 hl
    have hw : wrap64 ((0 : Int) + 1) = ((1 : Nat) : Int) := by unfold wrap64; omega
    have hall : s.data.toList.all nmc = (nmc s.data.toList[0] && (s.data.toList.drop 1).all nmc) := all_head _ hl
    have hr := rname_l0 s hs (s.size - 1) 1 k (by omega) (by omega) (by omega)
    rw [if_pos (by omega), if_pos (by omega), hb, hw, hr, hh, hall, decide_eq_true hne, ← hz]
    simp only [Option.any_some, Bool.true_and, if_true]
    generalize (List.drop 1 s.data.toList).all nmc = r
    generalize decide (s.size ≤ 32) = t
    generalize s.data.toList[0] = x
    unfold nmc lc
    by_cases h2 : (x.toNat : Int) ≥ 97
    · rw [if_pos h2]
      have a1 : 97 ≤ x.toNat := by omega
      by_cases h3 : (x.toNat : Int) ≤ 122
      · have a2 : x.toNat ≤ 122 := by omega
        rw [if_pos h3]; simp [a1, a2, Bool.and_comm]
      · have a2 : ¬ x.toNat ≤ 122 := by omega
        rw [if_neg h3]; simp [a2]
    · have a1 : ¬ 97 ≤ x.toNat := by omega
      rw [if_neg h2]; simp [a1]
theorem nbeq (a b c d : Int) : (!(a == c) || !(b == d)) = !decide (a = c ∧ b = d) := by
  by_cases h1 : a = c <;> by_cases h2 : b = d <;> simp [h1, h2]
theorem placed_f (k : Nat) (a b s : Int) (ds : List Int) (kd n1 n2 p1 p2 q1 q2 : Int) (nm vl : ByteArray) (h1 : 1 ≤ kd) : topiaryref05_placed.f (k + 1) a b s ds kd n1 n2 p1 p2 q1 q2 nm vl = some (nodeV a b kd n1 n2 && placeV a b kd n1 n2 p1 p2 q1 q2) := by
  have hj : ∀ x : Bool, topiaryref05_placed.j0 (k + 1) x a b s ds kd n1 n2 p1 p2 q1 q2 nm vl 0 0 = some (!x && placeV a b kd n1 n2 p1 p2 q1 q2) := by
    intro x
    unfold topiaryref05_placed.j0 placeV
    simp only [rnd_f, rless_f, rahead_f, Option.bind_some, beq2, nbeq]
    cases x with
    | true => rfl
    | false =>
      simp only [Bool.false_eq_true, if_false, Bool.not_false, Bool.true_and]
      by_cases h2 : kd > 2
      · rw [if_pos h2, if_neg (show ¬ (kd = 1 ∨ kd = 2) from by omega)]
        by_cases hz : p1 = 0 ∧ p2 = 0
        · simp only [hz, and_self, decide_true, if_true, Bool.true_and]
        · simp only [hz, decide_false, Bool.false_eq_true, if_false, Bool.false_and]
      · rw [if_neg h2, if_pos (show kd = 1 ∨ kd = 2 from by omega)]
        generalize ndB p1 p2 = u1
        generalize lessB p1 p2 a b = u2
        generalize decide (p1 = n1 ∧ p2 = n2) = u3
        generalize decide (q1 = 0 ∧ q2 = 0) = u4
        generalize (isR q1 q2 && lessB q1 q2 a b) = u5
        cases u1 <;> cases u2 <;> cases u3 <;> cases u4 <;> cases u5 <;> rfl
  unfold topiaryref05_placed.f nodeV
  simp only [rahead_f, Option.bind_some, beq2, nbeq, hj]
  generalize placeV a b kd n1 n2 p1 p2 q1 q2 = pv
  generalize (isR n1 n2 && lessB n1 n2 a b) = av
  by_cases k1 : kd = 1
  · subst k1
    generalize decide (n1 = a ∧ n2 = b) = u
    cases u <;> cases pv <;> rfl
  · by_cases k2 : kd = 2
    · subst k2
      cases av <;> cases pv <;> rfl
    · rw [if_neg k1, if_neg k2, if_neg k1, if_neg k2, if_pos (by omega)]
      generalize decide (n1 = 0 ∧ n2 = 0) = u
      cases u <;> cases av <;> cases pv <;> rfl
theorem trim_len (ds : List Int) : (trim ds).length = ds.length ↔ ¬ ds.getLast? = some 0 := by
  obtain ⟨⟨z, hz⟩, hn⟩ := trim_is ds
  constructor
  · intro h hl
    have hz0 : z = 0 := by
      have := congrArg List.length hz
      simp at this; omega
    subst hz0
    simp only [List.replicate_zero, List.append_nil] at hz
    rcases hd : ds with _ | ⟨x, r⟩
    · rw [hd] at hl; cases hl
    · obtain ⟨r', y, hy⟩ : ∃ r' y, ds = r' ++ [y] := ⟨ds.dropLast, ds.getLast (by rw [hd]; simp), (List.dropLast_concat_getLast (by rw [hd]; simp)).symm⟩
      have h0 : y = 0 := by rw [hy, List.getLast?_append] at hl; simpa using hl
      exact hn y r' (by rw [← hz]; exact hy) h0
  · intro h
    rw [trim_self]
    rintro a r e rfl
    exact h (by rw [e]; simp)
theorem rat_f (ds : List Int) (i : Int) : topiaryref02_At.f ds i = some (atV ds i) := rAt ds i
theorem rcheck_f (a b s : Int) (ds : List Int) (kd n1 n2 p1 p2 q1 q2 : Int) (nm vl : ByteArray) (hn : ds.length ≤ 17592186043904) (hm : nm.size ≤ 9223372036854775807) : Ev (fun k => topiaryref05_Check.f k a b s ds kd n1 n2 p1 p2 q1 q2 nm vl) (checkV a b s ds kd n1 n2 p1 p2 q1 q2 nm.data.toList vl.data.toList) := by
  have hz : vl.size = vl.data.toList.length := rfl
  have h4 : ∀ x : Bool, Ev (fun k => topiaryref05_Check.j4 k x a b s ds kd n1 n2 p1 p2 q1 q2 nm vl) (if x = true then 8 else if vl.data.toList.length > 256 then 3 else if valued kd = true then 0 else if vl.data.toList = [] then 0 else 2) := by
    intro x
    refine Ev.step (fun k => by unfold topiaryref05_Check.j4; rfl) ?_
    cases x with
    | true => exact Ev.now _
    | false =>
      simp only [Bool.false_eq_true, if_false, ByteArray.toList_eq, hz, valued, decide_eq_true_eq]
      by_cases h1 : vl.data.toList.length > 256
      · rw [if_pos (by omega), if_pos h1]; exact Ev.now _
      · rw [if_neg (by omega), if_neg h1]
        by_cases h2 : kd = 3
        · rw [if_pos h2, if_pos (.inl h2)]; exact Ev.now _
        · rw [if_neg h2]
          by_cases h3 : kd = 5
          · rw [if_pos h3, if_pos (.inr h3)]; exact Ev.now _
          · rw [if_neg h3, if_neg (show ¬ (kd = 3 ∨ kd = 5) from by omega)]
            split <;> exact Ev.now _
  have h3 : ∀ x : Bool, x = named kd → Ev (fun k => topiaryref05_Check.j3 k x a b s ds kd n1 n2 p1 p2 q1 q2 nm vl) (wordsV kd nm.data.toList vl.data.toList) := by
    rintro x rfl
    refine Ev.step (fun k => by unfold topiaryref05_Check.j3; rfl) ?_
    unfold wordsV
    cases named kd with
    | true =>
      simp only [if_true]
      refine Ev.bind (rname_f nm hm) ?_
      cases nameB nm.data.toList with
      | true => simp only [if_true]; exact h4 false
      | false => simp only [Bool.false_eq_true, if_false]; exact h4 true
    | false =>
      simp only [Bool.false_eq_true, if_false, ByteArray.toList_eq, decide_eq_true_eq]
      by_cases he : nm.data.toList = []
      · have e : (nm.data.toList != []) = false := by simp [he]
        rw [e, if_pos he]; exact h4 false
      · have e : (nm.data.toList != []) = true := by rw [bne_iff_ne]; exact he
        rw [e, if_neg he]; exact h4 true
  have h2 : ∀ x : Bool, Ev (fun k => topiaryref05_Check.j2 k x a b s ds kd n1 n2 p1 p2 q1 q2 nm vl) (if x = true then 2 else wordsV kd nm.data.toList vl.data.toList) := by
    intro x
    refine Ev.step (fun k => by unfold topiaryref05_Check.j2; rfl) ?_
    cases x with
    | true => exact Ev.now _
    | false =>
      simp only [Bool.false_eq_true, if_false]
      by_cases k1 : kd = 1
      · simp only [k1, if_true]; subst k1; exact h3 true rfl
      · by_cases k3 : kd = 3
        · simp only [k1, k3, if_false, if_true]; subst k3; exact h3 true rfl
        · simp only [k1, k3, if_false]
          exact h3 _ (by unfold named; by_cases k4 : kd = 4 <;> simp [k1, k3, k4])
  have h1 : ∀ x : Bool, 1 ≤ kd → Ev (fun k => topiaryref05_Check.j1 k x a b s ds kd n1 n2 p1 p2 q1 q2 nm vl) (if x = true then 1 else if depsV ds b s = 0 then (if nodeV a b kd n1 n2 = true then (if placeV a b kd n1 n2 p1 p2 q1 q2 = true then wordsV kd nm.data.toList vl.data.toList else 2) else 2) else depsV ds b s) := by
    intro x hk
    refine Ev.step (fun k => by unfold topiaryref05_Check.j1; rfl) ?_
    cases x with
    | true => exact Ev.now _
    | false =>
      simp only [Bool.false_eq_true, if_false]
      refine Ev.bind (rCheck ds hn) ?_
      unfold depsV
      by_cases hc : chk ds = 0
      · simp only [hc, if_true]
        refine Ev.bind (rTrim ds hn) ?_
        by_cases ht : (trim ds).length = ds.length
        · have hl := (trim_len ds).mp ht
          rw [if_neg hl]
          refine Ev.congr (fun k => if_pos (by omega)) ?_
          simp only [rat_f, Option.bind_some]
          by_cases ha : atV ds b = wrap64 (s - 1)
          · simp only [ha, if_true]
            refine Ev.bind ⟨1, fun k hk' => by obtain ⟨k, rfl⟩ : ∃ m, k = m + 1 := ⟨k - 1, by omega⟩; exact placed_f k a b s ds kd n1 n2 p1 p2 q1 q2 nm vl hk⟩ ?_
            have := h2 (!(nodeV a b kd n1 n2 && placeV a b kd n1 n2 p1 p2 q1 q2))
            revert this
            cases nodeV a b kd n1 n2 <;> cases placeV a b kd n1 n2 p1 p2 q1 q2 <;> exact id
          · simp only [ha, if_false]
            exact h2 true
        · have hl : ds.getLast? = some 0 := Classical.byContradiction fun e => ht ((trim_len ds).mpr e)
          rw [if_pos hl]
          refine Ev.congr (fun k => if_neg (by omega)) ?_
          exact h2 true
      · simp only [hc, if_false]
        exact Ev.bind (rCheck ds hn) (Ev.now _)
  have h0 : ∀ x : Bool, (x = false → 1 ≤ kd) → Ev (fun k => topiaryref05_Check.j0 k x a b s ds kd n1 n2 p1 p2 q1 q2 nm vl) (if x = true then 1 else if isR a b = true then (if s < 1 ∨ s > a then 1 else if depsV ds b s = 0 then (if nodeV a b kd n1 n2 = true then (if placeV a b kd n1 n2 p1 p2 q1 q2 = true then wordsV kd nm.data.toList vl.data.toList else 2) else 2) else depsV ds b s) else 2) := by
    intro x hx
    refine Ev.step (fun k => by unfold topiaryref05_Check.j0; rfl) ?_
    cases x with
    | true => exact Ev.now _
    | false =>
      simp only [Bool.false_eq_true, if_false, refright_f, Option.bind_some]
      by_cases hR : isR a b = true
      · simp only [hR, if_true]
        by_cases hs1 : s < 1
        · simp only [hs1, if_true, true_or]; exact h1 true (hx rfl)
        · by_cases hs2 : s > a
          · simp only [hs1, if_false, hs2, or_true, if_true]
            exact h1 _ (hx rfl)
          · simp only [hs1, if_false, hs2, or_self]
            exact h1 _ (hx rfl)
      · simp only [hR]; exact Ev.now _
  unfold topiaryref05_Check.f checkV
  by_cases k1 : kd < 1
  · simp only [k1, if_true, true_or]
    exact h0 true (fun e => by cases e)
  · simp only [k1, if_false, false_or]
    have := h0 (decide (kd > 5)) (fun _ => by omega)
    simp only [decide_eq_true_eq] at this
    exact this

/-! a change's text -/
theorem word_f (kd : Int) : change_word.f kd = some ⟨(kw kd).toArray⟩ := by
  unfold change_word.f kw
  repeat' split
  all_goals rfl
theorem stamp_f (a b : Int) : change_stamp.f a b false = some ⟨(stT a b).toArray⟩ := by
  unfold change_stamp.f
  rw [if_neg Bool.false_ne_true, text_f]
  rfl
theorem stampN_f (a b : Int) : change_stamp.f a b true = some ⟨(aft a b).toArray⟩ := by
  unfold change_stamp.f aft
  rw [if_pos rfl, beq2, text_f]
  by_cases h : a = 0 ∧ b = 0
  · rw [if_pos (decide_eq_true h), if_pos h]
  · rw [if_neg (by simpa using h), if_neg h]
    rfl
def mp (L : List ByteArray) : List (List UInt8) := L.map (·.data.toList)
theorem mp_app (L M : List ByteArray) : mp (L ++ M) = mp L ++ mp M := by simp [mp]
theorem mp_len (L : List ByteArray) : (mp L).length = L.length := by simp [mp]
theorem join_f (L : List ByteArray) (hL : L.length ≤ 30) (hB : (Lib.join (mp L) [32]).length ≤ 1048576) : strings_Join.f L (⟨#[32]⟩ : ByteArray) = some ⟨(Lib.join (mp L) [32]).toArray⟩ := by
  unfold strings_Join.f
  rw [if_pos (by omega)]
  change (if (Lib.join (mp L) [32]).length ≤ 140737488355328 then some (⟨(Lib.join (mp L) [32]).toArray⟩ : ByteArray) else none) = _
  rw [if_pos (by omega)]
def t4 (kd : Int) (vl : List UInt8) : List (List UInt8) := if kd = 3 ∨ kd = 5 then [quo vl] else []
def t3 (kd : Int) (nm vl : List UInt8) : List (List UInt8) := (if nm = [] then [] else [nm]) ++ t4 kd vl
def t2 (kd p1 p2 q1 q2 : Int) (nm vl : List UInt8) : List (List UInt8) := (if kd = 1 ∨ kd = 2 then [stT p1 p2, aft q1 q2] else []) ++ t3 kd nm vl
theorem tail_t (kd n1 n2 p1 p2 q1 q2 : Int) (nm vl : List UInt8) : tail kd n1 n2 p1 p2 q1 q2 nm vl = (if kd = 1 then [] else [stT n1 n2]) ++ t2 kd p1 p2 q1 q2 nm vl := rfl
def bl (l : List UInt8) : ByteArray := ⟨l.toArray⟩
theorem text_j4 (L : List ByteArray) (x : Bool) (a b s : Int) (ds : List Int) (kd n1 n2 p1 p2 q1 q2 : Int) (nm vl : ByteArray) (hL : L.length ≤ 20) (hv : vl.size ≤ 1048576) (hx : x = decide (kd = 3 ∨ kd = 5)) (hB : (Lib.join (mp L ++ t4 kd vl.data.toList) [32]).length ≤ 1048576) : Ev (fun k => change_Text.j4 k L x a b s ds kd n1 n2 p1 p2 q1 q2 nm vl) (bl (Lib.join (mp L ++ t4 kd vl.data.toList) [32]), 0) := by
  refine Ev.step (fun k => by unfold change_Text.j4; rfl) ?_
  unfold t4 at hB ⊢
  by_cases h : kd = 3 ∨ kd = 5
  · rw [if_pos h] at hB ⊢
    rw [show x = true from by rw [hx]; exact decide_eq_true h]
    simp only [if_true]
    refine Ev.bind (quote_f vl hv) ?_
    rw [if_pos (by omega)]
    have e : mp (L ++ [⟨(quo vl.data.toList).toArray⟩]) = mp L ++ [quo vl.data.toList] := by rw [mp_app]; rfl
    rw [join_f _ (by simp; omega) (by rw [e]; exact hB), e]
    exact Ev.now _
  · rw [if_neg h, List.append_nil] at hB
    rw [if_neg h, List.append_nil, show x = false from by rw [hx]; exact decide_eq_false h]
    simp only [Bool.false_eq_true, if_false]
    rw [join_f _ (by omega) hB]
    exact Ev.now _
theorem text_j3 (L : List ByteArray) (a b s : Int) (ds : List Int) (kd n1 n2 p1 p2 q1 q2 : Int) (nm vl : ByteArray) (hL : L.length ≤ 20) (hv : vl.size ≤ 1048576) (hB : (Lib.join (mp L ++ t4 kd vl.data.toList) [32]).length ≤ 1048576) : Ev (fun k => change_Text.j3 k L a b s ds kd n1 n2 p1 p2 q1 q2 nm vl) (bl (Lib.join (mp L ++ t4 kd vl.data.toList) [32]), 0) := by
  refine Ev.step (fun k => by unfold change_Text.j3; rfl) ?_
  by_cases h : kd = 3
  · simp only [h, if_true]
    exact text_j4 L true a b s ds 3 n1 n2 p1 p2 q1 q2 nm vl hL hv (by simp) (h ▸ hB)
  · simp only [h, if_false]
    exact text_j4 L _ a b s ds kd n1 n2 p1 p2 q1 q2 nm vl hL hv (by simp [h]; rfl) hB
theorem text_j2 (L : List ByteArray) (a b s : Int) (ds : List Int) (kd n1 n2 p1 p2 q1 q2 : Int) (nm vl : ByteArray) (hL : L.length ≤ 19) (hv : vl.size ≤ 1048576) (hB : (Lib.join (mp L ++ t3 kd nm.data.toList vl.data.toList) [32]).length ≤ 1048576) : Ev (fun k => change_Text.j2 k L a b s ds kd n1 n2 p1 p2 q1 q2 nm vl) (bl (Lib.join (mp L ++ t3 kd nm.data.toList vl.data.toList) [32]), 0) := by
  refine Ev.step (fun k => by unfold change_Text.j2; rfl) ?_
  unfold t3 at hB ⊢
  simp only [ByteArray.toList_eq]
  by_cases h : nm.data.toList = []
  · rw [if_pos h, List.nil_append] at hB
    rw [if_pos h, List.nil_append]
    refine Ev.congr (fun k => if_pos h) ?_
    exact text_j3 L a b s ds kd n1 n2 p1 p2 q1 q2 nm vl (by omega) hv hB
  · rw [if_neg h] at hB
    have e : mp L ++ ([nm.data.toList] ++ t4 kd vl.data.toList) = mp (L ++ [nm]) ++ t4 kd vl.data.toList := by rw [mp_app, List.append_assoc]; rfl
    rw [e] at hB
    rw [if_neg h, e]
    refine Ev.congr (fun k => (if_neg h).trans (if_pos (by omega))) ?_
    exact text_j3 (L ++ [nm]) a b s ds kd n1 n2 p1 p2 q1 q2 nm vl (by simp; omega) hv hB
theorem text_j1 (L : List ByteArray) (x : Bool) (a b s : Int) (ds : List Int) (kd n1 n2 p1 p2 q1 q2 : Int) (nm vl : ByteArray) (hL : L.length ≤ 17) (hv : vl.size ≤ 1048576) (hx : x = decide (kd = 1 ∨ kd = 2)) (hB : (Lib.join (mp L ++ t2 kd p1 p2 q1 q2 nm.data.toList vl.data.toList) [32]).length ≤ 1048576) : Ev (fun k => change_Text.j1 k L x a b s ds kd n1 n2 p1 p2 q1 q2 nm vl) (bl (Lib.join (mp L ++ t2 kd p1 p2 q1 q2 nm.data.toList vl.data.toList) [32]), 0) := by
  refine Ev.step (fun k => by unfold change_Text.j1; rfl) ?_
  unfold t2 at hB ⊢
  by_cases h : kd = 1 ∨ kd = 2
  · rw [if_pos h] at hB ⊢
    have e : mp L ++ ([stT p1 p2, aft q1 q2] ++ t3 kd nm.data.toList vl.data.toList) = mp (L ++ [⟨(stT p1 p2).toArray⟩, ⟨(aft q1 q2).toArray⟩]) ++ t3 kd nm.data.toList vl.data.toList := by rw [mp_app, List.append_assoc]; rfl
    rw [e] at hB ⊢
    rw [show x = true from by rw [hx]; exact decide_eq_true h]
    simp only [if_true, stamp_f, stampN_f, Option.bind_some, List.length_cons, List.length_nil]
    refine Ev.congr (fun k => if_pos (by omega)) ?_
    exact text_j2 _ a b s ds kd n1 n2 p1 p2 q1 q2 nm vl (by simp; omega) hv hB
  · rw [if_neg h, List.nil_append] at hB
    rw [if_neg h, List.nil_append, show x = false from by rw [hx]; exact decide_eq_false h]
    simp only [Bool.false_eq_true, if_false]
    exact text_j2 L a b s ds kd n1 n2 p1 p2 q1 q2 nm vl (by omega) hv hB
theorem text_j0 (L : List ByteArray) (a b s : Int) (ds : List Int) (kd n1 n2 p1 p2 q1 q2 : Int) (nm vl : ByteArray) (hL : L.length ≤ 17) (hv : vl.size ≤ 1048576) (hB : (Lib.join (mp L ++ t2 kd p1 p2 q1 q2 nm.data.toList vl.data.toList) [32]).length ≤ 1048576) : Ev (fun k => change_Text.j0 k L a b s ds kd n1 n2 p1 p2 q1 q2 nm vl) (bl (Lib.join (mp L ++ t2 kd p1 p2 q1 q2 nm.data.toList vl.data.toList) [32]), 0) := by
  refine Ev.step (fun k => by unfold change_Text.j0; rfl) ?_
  by_cases h : kd = 1
  · simp only [h, if_true]
    exact text_j1 L true a b s ds 1 n1 n2 p1 p2 q1 q2 nm vl hL hv (by simp) (h ▸ hB)
  · simp only [h, if_false]
    exact text_j1 L _ a b s ds kd n1 n2 p1 p2 q1 q2 nm vl hL hv (by simp [h]; rfl) hB
/-! what a change that may be is -/
theorem check_ok {a b s : Int} {ds : List Int} {kd n1 n2 p1 p2 q1 q2 : Int} {nm vl : List UInt8} (h : checkV a b s ds kd n1 n2 p1 p2 q1 q2 nm vl = 0) : (1 ≤ kd ∧ kd ≤ 5) ∧ isR a b = true ∧ (1 ≤ s ∧ s ≤ a) ∧ depsV ds b s = 0 ∧ nodeV a b kd n1 n2 = true ∧ placeV a b kd n1 n2 p1 p2 q1 q2 = true ∧ wordsV kd nm vl = 0 := by
  unfold checkV at h
  split at h
  · cases h
  · split at h
    · split at h
      · cases h
      · split at h
        · split at h
          · split at h
            · exact ⟨by omega, by assumption, by omega, by assumption, by assumption, by assumption, h⟩
            · cases h
          · cases h
        · contradiction
    · cases h
theorem words_ok0 {kd : Int} {nm vl : List UInt8} (h : wordsV kd nm vl = 0) : (named kd = true → nameB nm = true) ∧ (named kd = false → nm = []) ∧ vl.length ≤ 256 ∧ (valued kd = false → vl = []) := by
  unfold wordsV at h
  by_cases hn : (if named kd = true then nameB nm else decide (nm = [])) = true
  · rw [if_pos hn] at h
    by_cases hl : vl.length > 256
    · rw [if_pos hl] at h; cases h
    · rw [if_neg hl] at h
      refine ⟨fun e => by rw [if_pos e] at hn; exact hn, fun e => by rw [e, if_neg Bool.false_ne_true] at hn; exact of_decide_eq_true hn, by omega, fun e => ?_⟩
      rw [e, if_neg Bool.false_ne_true] at h
      by_cases hv : vl = []
      · exact hv
      · rw [if_neg hv] at h; cases h
  · rw [if_neg hn] at h; cases h
theorem deps_ok0 {ds : List Int} {b s : Int} (h : depsV ds b s = 0) : chk ds = 0 ∧ trim ds = ds ∧ ds.length ≤ 64 ∧ Fits ds ∧ (∀ a r, ds = r ++ [a] → a ≠ 0) := by
  unfold depsV at h
  split at h
  · rename_i hc
    split at h
    · cases h
    · rename_i hl
      have hz : ∀ a r, ds = r ++ [a] → a ≠ 0 := by
        rintro a r e rfl
        exact hl (by rw [e]; simp)
      exact ⟨hc, trim_self hz, (chk_ok hc).1, (chk_ok hc).2, hz⟩
  · contradiction
theorem name_len {kd : Int} {nm vl : List UInt8} (h : wordsV kd nm vl = 0) : nm.length ≤ 32 := by
  obtain ⟨h1, h2, _⟩ := words_ok0 h
  cases hn : named kd with
  | true => exact (nameB_spec (h1 hn)).2.1
  | false => rw [h2 hn]; simp
theorem quo_len (l : List UInt8) : (quo l).length ≤ 3 * l.length + 2 := by
  have := quoB_len l
  simp only [quo, List.length_cons, List.length_append, List.length_nil]; omega
/-- The clock's text. -/
def ckT (ds : List Int) : List UInt8 := (txt ds).data.toList
theorem text_small {a b s : Int} {ds : List Int} {kd n1 n2 p1 p2 q1 q2 : Int} {nm vl : List UInt8} (h : checkV a b s ds kd n1 n2 p1 p2 q1 q2 nm vl = 0) : (textL a b s (ckT ds) kd n1 n2 p1 p2 q1 q2 nm vl).length ≤ 2048 := by
  obtain ⟨_, hR, hs, hd, _, _, hw⟩ := check_ok h
  obtain ⟨_, _, hl, hf, _⟩ := deps_ok0 hd
  simp only [isR, Bool.and_eq_true, decide_eq_true_eq] at hR
  have hq := quo_len vl
  have hv := (words_ok0 hw).2.2.1
  exact textL_len a b s (ckT ds) kd n1 n2 p1 p2 q1 q2 nm vl (by omega) (txt_len hl hf) (name_len hw) (by omega)
/-- A change's text, and why there is none. -/
def chText (a b s : Int) (ds : List Int) (kd n1 n2 p1 p2 q1 q2 : Int) (nm vl : List UInt8) : ByteArray × Int := if checkV a b s ds kd n1 n2 p1 p2 q1 q2 nm vl = 0 then (bl (textL a b s (ckT ds) kd n1 n2 p1 p2 q1 q2 nm vl), 0) else (⟨#[]⟩, checkV a b s ds kd n1 n2 p1 p2 q1 q2 nm vl)
theorem chtext_f (a b s : Int) (ds : List Int) (kd n1 n2 p1 p2 q1 q2 : Int) (nm vl : ByteArray) (hn : ds.length ≤ 17592186043904) : Ev (fun k => change_Text.f k a b s ds kd n1 n2 p1 p2 q1 q2 nm vl) (chText a b s ds kd n1 n2 p1 p2 q1 q2 nm.data.toList vl.data.toList) := by
  unfold change_Text.f chText
  refine Ev.bind (check_f a b s ds kd n1 n2 p1 p2 q1 q2 nm vl hn) ?_
  by_cases h : checkV a b s ds kd n1 n2 p1 p2 q1 q2 nm.data.toList vl.data.toList = 0
  · rw [if_pos h]
    simp only [h, if_true]
    obtain ⟨_, hR, hs, hd, _, _, hw⟩ := check_ok h
    obtain ⟨hc, ht, hl, hf, _⟩ := deps_ok0 hd
    simp only [isR, Bool.and_eq_true, decide_eq_true_eq] at hR
    have hsm := text_small h
    have hv := (words_ok0 hw).2.2.1
    have hvz : vl.size = vl.data.toList.length := rfl
    refine Ev.bind (pText ds hn) ?_
    have htx : textV ds = (txt ds, 0) := by unfold textV; rw [if_pos hc, ht]
    rw [htx]
    obtain ⟨m, rfl⟩ : ∃ n : Nat, s = n := ⟨s.toNat, by omega⟩
    simp only [word_f, stamp_f, itoaN_f m (by omega), Option.bind_some, List.length_cons, List.length_nil]
    have e : textL a b (m : Int) (ckT ds) kd n1 n2 p1 p2 q1 q2 nm.data.toList vl.data.toList = Lib.join (mp [bl (kw kd), bl (stT a b), bl (Lib.decDigits m), txt ds] ++ ((if kd = 1 then [] else [stT n1 n2]) ++ t2 kd p1 p2 q1 q2 nm.data.toList vl.data.toList)) [32] := rfl
    rw [e] at hsm ⊢
    by_cases h1 : kd = 1
    · rw [if_pos h1, List.nil_append] at hsm
      rw [if_pos h1, List.nil_append]
      refine Ev.congr (fun k => if_pos h1) ?_
      exact text_j0 _ a b m ds kd n1 n2 p1 p2 q1 q2 nm vl (by simp) (by omega) (Nat.le_trans hsm (by decide))
    · have e2 : mp [bl (kw kd), bl (stT a b), bl (Lib.decDigits m), txt ds] ++ ([stT n1 n2] ++ t2 kd p1 p2 q1 q2 nm.data.toList vl.data.toList) = mp ([bl (kw kd), bl (stT a b), bl (Lib.decDigits m), txt ds] ++ [bl (stT n1 n2)]) ++ t2 kd p1 p2 q1 q2 nm.data.toList vl.data.toList := rfl
      rw [if_neg h1, e2] at hsm
      rw [if_neg h1, e2]
      refine Ev.congr (fun k => (if_neg h1).trans (if_pos (by simp))) ?_
      exact text_j0 _ a b m ds kd n1 n2 p1 p2 q1 q2 nm vl (by simp) (by omega) (Nat.le_trans hsm (by decide))
  · simp only [h, if_false]; exact Ev.now _

theorem bl_l (l : List UInt8) : (bl l).data.toList = l := by simp [bl]
theorem bl_b (s : ByteArray) : bl s.data.toList = s := by simp [bl]
theorem bl_size (l : List UInt8) : (bl l).size = l.length := by simp [bl, ByteArray.size]

/-! the document's text -/
theorem Ev.lim_ {α : Type} {c : Prop} [Decidable c] {f g : Nat → Option α} {r : α} (h : c) (hf : Ev f r) : Ev (fun k => if c then f k else g k) r := Ev.congr (fun k => if_pos h) hf
theorem Ev.els_ {α : Type} {c : Prop} [Decidable c] {f g : Nat → Option α} {r : α} (h : ¬ c) (hf : Ev g r) : Ev (fun k => if c then f k else g k) r := Ev.congr (fun k => if_neg h) hf
theorem Ev.cast_ {α : Type} {f : Nat → Option α} {r s : α} (h : r = s) (hf : Ev f r) : Ev f s := h ▸ hf
theorem fin_bl {X : ByteArray} {l : List UInt8} (h : X.data.toList = l) : X = bl l := by
  rw [← h]
  exact (bl_b X).symm
theorem ba_l (x y : ByteArray) : (x ++ y).data.toList = x.data.toList ++ y.data.toList := by
  rw [ByteArray.data_append, Array.toList_append]
theorem rstamp_e (a b : Int) : Ev (fun k => topiaryref05_Stamp.f k a b) (bl (stT a b)) := by
  unfold topiaryref05_Stamp.f
  refine Ev.bind (show Ev (fun k => topiaryref01_Text.f k a b) (⟨(text a b).1.toArray⟩, (text a b).2) from ⟨20, fun k hk => by obtain ⟨k, rfl⟩ : ∃ m, k = m + 20 := ⟨k - 20, by omega⟩; exact reftext_f k a b⟩) ?_
  exact Ev.now _
theorem rafter_e (a b : Int) : Ev (fun k => topiaryref05_After.f k a b) (bl (aft a b)) := by
  unfold topiaryref05_After.f aft
  by_cases h1 : a = 0
  · refine Ev.lim_ h1 ?_
    by_cases h2 : b = 0
    · rw [if_pos ⟨h1, h2⟩]
      exact Ev.lim_ h2 (Ev.now _)
    · rw [if_neg (fun e => h2 e.2)]
      exact Ev.els_ h2 (Ev.bind (rstamp_e a b) (Ev.now _))
  · rw [if_neg (fun e => h1 e.1)]
    exact Ev.els_ h1 (Ev.bind (rstamp_e a b) (Ev.now _))
theorem rdig_e (n : Nat) (h : n < 10 ^ 15) : Ev (fun k => topiaryref01_Digits.f k (n : Int)) (bl (Lib.decDigits n)) := ⟨20, fun k hk => by obtain ⟨k, rfl⟩ : ∃ m, k = m + 20 := ⟨k - 20, by omega⟩; exact digits_f k n h⟩
theorem rtext_f (a b s : Int) (ds : List Int) (kd n1 n2 p1 p2 q1 q2 : Int) (nm vl : ByteArray) (hn : ds.length ≤ 17592186043904) (hm : nm.size ≤ 9223372036854775807) : Ev (fun k => topiaryref05_Text.f k a b s ds kd n1 n2 p1 p2 q1 q2 nm vl) (chText a b s ds kd n1 n2 p1 p2 q1 q2 nm.data.toList vl.data.toList) := by
  unfold topiaryref05_Text.f chText
  refine Ev.bind (rcheck_f a b s ds kd n1 n2 p1 p2 q1 q2 nm vl hn hm) ?_
  by_cases h : checkV a b s ds kd n1 n2 p1 p2 q1 q2 nm.data.toList vl.data.toList = 0
  · rw [if_pos h]
    refine Ev.lim_ h ?_
    obtain ⟨hk, hR, hs, hd, _, _, hw⟩ := check_ok h
    obtain ⟨hc, ht, hl, hf, _⟩ := deps_ok0 hd
    simp only [isR, Bool.and_eq_true, decide_eq_true_eq] at hR
    obtain ⟨w1, w2, hv, w3⟩ := words_ok0 hw
    have hvz : vl.size = vl.data.toList.length := rfl
    have hnz : nm.size = nm.data.toList.length := rfl
    have b6 := name_len hw
    refine Ev.bind (rText ds hn) ?_
    have htx : textV ds = (txt ds, 0) := by unfold textV; rw [if_pos hc, ht]
    rw [htx]
    obtain ⟨m, rfl⟩ : ∃ n : Nat, s = n := ⟨s.toNat, by omega⟩
    have hck : txt ds = bl (ckT ds) := (bl_b _).symm
    simp only
    rw [hck]
    have b1 : (stT a b).length ≤ 40 := text_size a b
    have b2 : (Lib.decDigits m).length ≤ 15 := dec_length 15 m (by omega) (by omega)
    have b3 : (ckT ds).length ≤ 896 := txt_len hl hf
    have b4 : (stT n1 n2).length ≤ 40 := text_size n1 n2
    have b5 : (stT p1 p2).length ≤ 40 := text_size p1 p2
    have b7 := aft_size q1 q2
    have b8 := quo_len vl.data.toList
    have z0 : (⟨#[32]⟩ : ByteArray).size = 1 := rfl
    have z1 : (⟨#[99, 114, 101, 97, 116, 101, 32]⟩ : ByteArray).size = 7 := rfl
    have z2 : (⟨#[109, 111, 118, 101, 32]⟩ : ByteArray).size = 5 := rfl
    have z3 : (⟨#[115, 101, 116, 32]⟩ : ByteArray).size = 4 := rfl
    have z4 : (⟨#[99, 108, 101, 97, 114, 32]⟩ : ByteArray).size = 6 := rfl
    have z5 : (⟨#[116, 101, 120, 116, 32]⟩ : ByteArray).size = 5 := rfl
    refine Ev.bind (rstamp_e a b) ?_
    refine Ev.lim_ (by simp only [ByteArray.size_append, bl_size]; omega) ?_
    refine Ev.bind (rdig_e m (by omega)) ?_
    refine Ev.lim_ (by simp only [ByteArray.size_append, bl_size]; omega) ?_
    refine Ev.lim_ (by simp only [ByteArray.size_append, bl_size]; omega) ?_
    refine Ev.lim_ (by simp only [ByteArray.size_append, bl_size]; omega) ?_
    refine Ev.lim_ (by simp only [ByteArray.size_append, bl_size]; omega) ?_
    have hdg : dg (m : Int) = Lib.decDigits m := rfl
    have : kd = 1 ∨ kd = 2 ∨ kd = 3 ∨ kd = 4 ∨ kd = 5 := by omega
    rcases this with rfl | rfl | rfl | rfl | rfl
    · have m1 := (nameB_spec (w1 rfl)).1
      refine Ev.lim_ rfl ?_
      refine Ev.lim_ (by simp only [ByteArray.size_append, bl_size]; omega) ?_
      refine Ev.bind (rstamp_e p1 p2) ?_
      refine Ev.lim_ (by simp only [ByteArray.size_append, bl_size]; omega) ?_
      refine Ev.lim_ (by simp only [ByteArray.size_append, bl_size]; omega) ?_
      refine Ev.bind (rafter_e q1 q2) ?_
      refine Ev.lim_ (by simp only [ByteArray.size_append, bl_size]; omega) ?_
      refine Ev.lim_ (by simp only [ByteArray.size_append, bl_size]; omega) ?_
      refine Ev.lim_ (by simp only [ByteArray.size_append, bl_size]; omega) ?_
      refine Ev.cast_ ?_ (Ev.now _)
      refine Prod.ext (fin_bl ?_) rfl
      rw [text_words, tail_1 m1, hdg]
      simp only [ba_l, bl_l]
      simp [kw]
    · have hm0 := w2 rfl
      refine Ev.els_ (by decide) (Ev.lim_ rfl ?_)
      refine Ev.lim_ (by simp only [ByteArray.size_append, bl_size]; omega) ?_
      refine Ev.bind (rstamp_e n1 n2) ?_
      refine Ev.lim_ (by simp only [ByteArray.size_append, bl_size]; omega) ?_
      refine Ev.lim_ (by simp only [ByteArray.size_append, bl_size]; omega) ?_
      refine Ev.bind (rstamp_e p1 p2) ?_
      refine Ev.lim_ (by simp only [ByteArray.size_append, bl_size]; omega) ?_
      refine Ev.lim_ (by simp only [ByteArray.size_append, bl_size]; omega) ?_
      refine Ev.bind (rafter_e q1 q2) ?_
      refine Ev.lim_ (by simp only [ByteArray.size_append, bl_size]; omega) ?_
      refine Ev.cast_ ?_ (Ev.now _)
      refine Prod.ext (fin_bl ?_) rfl
      rw [text_words, hm0, tail_2, hdg]
      simp only [ba_l, bl_l]
      simp [kw]
    · have m1 := (nameB_spec (w1 rfl)).1
      refine Ev.els_ (by decide) (Ev.els_ (by decide) (Ev.lim_ rfl ?_))
      refine Ev.lim_ (by simp only [ByteArray.size_append, bl_size]; omega) ?_
      refine Ev.bind (rstamp_e n1 n2) ?_
      refine Ev.lim_ (by simp only [ByteArray.size_append, bl_size]; omega) ?_
      refine Ev.lim_ (by simp only [ByteArray.size_append, bl_size]; omega) ?_
      refine Ev.lim_ (by simp only [ByteArray.size_append, bl_size]; omega) ?_
      refine Ev.lim_ (by simp only [ByteArray.size_append, bl_size]; omega) ?_
      refine Ev.bind (show Ev (fun k => topiaryref05_Quote.f k vl) (bl (quo vl.data.toList)) from rquote_f vl (by omega)) ?_
      refine Ev.lim_ (by simp only [ByteArray.size_append, bl_size]; omega) ?_
      refine Ev.cast_ ?_ (Ev.now _)
      refine Prod.ext (fin_bl ?_) rfl
      rw [text_words, tail_3 m1, hdg]
      simp only [ba_l, bl_l]
      simp [kw]
    · have m1 := (nameB_spec (w1 rfl)).1
      refine Ev.els_ (by decide) (Ev.els_ (by decide) (Ev.els_ (by decide) (Ev.lim_ rfl ?_)))
      refine Ev.lim_ (by simp only [ByteArray.size_append, bl_size]; omega) ?_
      refine Ev.bind (rstamp_e n1 n2) ?_
      refine Ev.lim_ (by simp only [ByteArray.size_append, bl_size]; omega) ?_
      refine Ev.lim_ (by simp only [ByteArray.size_append, bl_size]; omega) ?_
      refine Ev.lim_ (by simp only [ByteArray.size_append, bl_size]; omega) ?_
      refine Ev.cast_ ?_ (Ev.now _)
      refine Prod.ext (fin_bl ?_) rfl
      rw [text_words, tail_4 m1, hdg]
      simp only [ba_l, bl_l]
      simp [kw]
    · have hm0 := w2 rfl
      refine Ev.els_ (by decide) (Ev.els_ (by decide) (Ev.els_ (by decide) (Ev.els_ (by decide) ?_)))
      refine Ev.lim_ (by simp only [ByteArray.size_append, bl_size]; omega) ?_
      refine Ev.bind (rstamp_e n1 n2) ?_
      refine Ev.lim_ (by simp only [ByteArray.size_append, bl_size]; omega) ?_
      refine Ev.lim_ (by simp only [ByteArray.size_append, bl_size]; omega) ?_
      refine Ev.bind (show Ev (fun k => topiaryref05_Quote.f k vl) (bl (quo vl.data.toList)) from rquote_f vl (by omega)) ?_
      refine Ev.lim_ (by simp only [ByteArray.size_append, bl_size]; omega) ?_
      refine Ev.cast_ ?_ (Ev.now _)
      refine Prod.ext (fin_bl ?_) rfl
      rw [text_words, hm0, tail_5, hdg]
      simp only [ba_l, bl_l]
      simp [kw]
  · rw [if_neg h]
    refine Ev.els_ h ?_
    refine Ev.bind (rcheck_f a b s ds kd n1 n2 p1 p2 q1 q2 nm vl hn hm) ?_
    exact Ev.now _

/-! the law -/
theorem law (a b s : Int) (ds : List Int) (kd n1 n2 p1 p2 q1 q2 : Int) (nm vl : ByteArray) (hn : ds.length ≤ 17592186043904) (hm : nm.size ≤ 9223372036854775807) : Ev (fun k => topiarylaw05_ChangeTexts.f k a b s ds kd n1 n2 p1 p2 q1 q2 nm vl) true := by
  unfold topiarylaw05_ChangeTexts.f
  refine Ev.bind (chtext_f a b s ds kd n1 n2 p1 p2 q1 q2 nm vl hn) ?_
  refine Ev.bind (rtext_f a b s ds kd n1 n2 p1 p2 q1 q2 nm vl hn hm) ?_
  simp only [if_true]
  exact Ev.bind awake (Ev.now _)

end Go.Proofs.YtgoolgmcbnikkaaGreatDoor.PureChangeTexts
