/- a change's text, read, is the change; what was read is told as it stood. -/
import Derived.Test.YtgoolgmcbnikkaaDoorQChangeBackx
namespace Go.Proofs.YtgoolgmcbnikkaaDoor.PureChangeBack
open Go.RowKit Go.Proofs.YtgoolgmcbnikkaaDoor.QChangeBack Go.Proofs.YtgoolgmcbnikkaaDoorW.PrintWords Go.Proofs.YtgoolgmcbnikkaaDoorW.PrintLast
set_option linter.unusedVariables false
set_option linter.unusedSimpArgs false
theorem wrap_in {n : Int} (h0 : -9223372036854775808 ≤ n) (h1 : n ≤ 9223372036854775807) : wrap64 n = n := by unfold wrap64; omega
theorem step_nat (i : Nat) : (i : Int) + 1 = ((i + 1 : Nat) : Int) := by omega
theorem rd_get (xs : List Int) (i : Nat) (h : i < xs.length) : rd xs (i : Int) = xs[i] := by simp [rd, List.getD_eq_getElem?_getD, h]
theorem mx_max (a b : Int) : mx a b = max a b := by unfold mx; omega

/-- the first number that is out of its range -/
def chkL : List Int → Int
  | [] => 0
  | x :: r => if x < 0 then 1 else if x > 1099511627776 then 1 else chkL r
def chk (xs : List Int) : Int := if (xs.length : Int) > 64 then 3 else chkL xs
theorem chkL_ok : ∀ (xs : List Int), chkL xs = 0 → ∀ x ∈ xs, 0 ≤ x ∧ x ≤ 1099511627776
  | [], _, x, hx => by simp at hx
  | y :: r, h, x, hx => by
    simp only [chkL] at h
    split at h
    · omega
    · split at h
      · omega
      · rcases List.mem_cons.1 hx with rfl | hx
        · omega
        · exact chkL_ok r h x hx
theorem chk_ok {xs : List Int} (h : chk xs = 0) : xs.length ≤ 64 ∧ ∀ x ∈ xs, 0 ≤ x ∧ x ≤ 1099511627776 := by
  unfold chk at h
  split at h
  · omega
  · exact ⟨by omega, chkL_ok xs h⟩

theorem pCheck_l0 (xs : List Int) (hn : xs.length ≤ 17592186043904) : ∀ (d i k : Nat), i + d = xs.length → d < k →
    clock_Check.l0 k xs (xs.length : Int) (i : Int) = some (chkL (xs.drop i)) := by
  intro d
  induction d with
  | zero =>
    intro i k h hk
    obtain ⟨k, rfl⟩ : ∃ m, k = m + 1 := ⟨k - 1, by omega⟩
    simp only [clock_Check.l0]
    rw [if_neg (by omega), List.drop_eq_nil_of_le (by omega)]; rfl
  | succ d ih =>
    intro i k h hk
    obtain ⟨k, rfl⟩ : ∃ m, k = m + 1 := ⟨k - 1, by omega⟩
    have hi : i < xs.length := by omega
    simp only [clock_Check.l0]
    rw [if_pos (by omega), if_pos (by omega), if_pos (by omega), rd_get xs i hi, List.drop_eq_getElem_cons hi]
    simp only [chkL]
    split
    · rfl
    · split
      · rfl
      · rw [wrap_in (by omega) (by omega), step_nat]; exact ih (i + 1) k (by omega) (by omega)
theorem pCheck (xs : List Int) (hn : xs.length ≤ 17592186043904) : Ev (fun k => clock_Check.f k xs) (chk xs) := by
  refine ⟨xs.length + 1, fun k hk => ?_⟩
  simp only [clock_Check.f, chk]
  split
  · rfl
  · have := pCheck_l0 xs hn xs.length 0 k (by omega) (by omega); simpa using this

theorem pAt (xs : List Int) (i : Int) : clock_At.f xs i = some (if 0 ≤ i ∧ i < xs.length then rd xs i else 0) := by
  simp only [clock_At.f]
  by_cases h0 : i < 0
  · rw [if_pos h0, if_neg (by omega)]
  · rw [if_neg h0]
    by_cases h1 : i ≥ (xs.length : Int)
    · rw [if_pos h1, if_neg (by omega)]
    · rw [if_neg h1, if_pos (by omega), if_pos (by omega), if_pos (by omega)]
/-- a replica's number -/
def at_ (xs : List Int) (i : Nat) : Int := xs.getD i 0
theorem pAt_nat (xs : List Int) (i : Nat) : clock_At.f xs (i : Int) = some (at_ xs i) := by
  rw [pAt]; congr 1
  by_cases h : i < xs.length
  · rw [if_pos (by omega)]; simp [rd, at_]
  · rw [if_neg (by omega)]; simp [at_, List.getD_eq_getElem?_getD, h]

theorem rSame_l0 (xs ys : List Int) (hl : xs.length = ys.length) (hn : xs.length ≤ 17592186044416) : ∀ (d i k : Nat), i + d = xs.length → d < k →
    topiaryref02_Same.l0 k xs ys (i : Int) = some (decide (xs.drop i = ys.drop i)) := by
  intro d
  induction d with
  | zero =>
    intro i k h hk
    obtain ⟨k, rfl⟩ : ∃ m, k = m + 1 := ⟨k - 1, by omega⟩
    simp only [topiaryref02_Same.l0]
    rw [if_neg (by omega), List.drop_eq_nil_of_le (by omega), List.drop_eq_nil_of_le (by omega)]; rfl
  | succ d ih =>
    intro i k h hk
    obtain ⟨k, rfl⟩ : ∃ m, k = m + 1 := ⟨k - 1, by omega⟩
    have hi : i < xs.length := by omega
    have hj : i < ys.length := by omega
    simp only [topiaryref02_Same.l0]
    rw [if_pos (by omega), if_pos (by omega), if_pos (by omega), rd_get xs i hi, rd_get ys i hj, List.drop_eq_getElem_cons hi, List.drop_eq_getElem_cons hj]
    by_cases e : xs[i] = ys[i]
    · rw [if_pos e, wrap_in (by omega) (by omega), step_nat, ih (i + 1) k (by omega) (by omega), e]
      exact congrArg some (by rw [decide_eq_decide]; simp only [List.cons.injEq, true_and])
    · rw [if_neg e]
      exact congrArg some (decide_eq_false (by simp only [List.cons.injEq, e, false_and, not_false_eq_true])).symm
theorem rSame (xs ys : List Int) (hn : xs.length ≤ 17592186044416) : Ev (fun k => topiaryref02_Same.f k xs ys) (decide (xs = ys)) := by
  refine ⟨xs.length + 1, fun k hk => ?_⟩
  simp only [topiaryref02_Same.f]
  split
  · rename_i e
    have := rSame_l0 xs ys (by omega) hn xs.length 0 k (by omega) (by omega); simpa using this
  · rename_i e
    have : xs ≠ ys := fun h => e (by rw [h])
    simp [this]

/-- t is the list without the noughts at its end -/
def IsTrim (t xs : List Int) : Prop := (∃ z, xs = t ++ List.replicate z 0) ∧ ∀ a r, t = r ++ [a] → a ≠ 0
theorem IsTrim.unique : ∀ {xs t u : List Int}, IsTrim t xs → IsTrim u xs → t = u := by
  have key : ∀ (xs t u : List Int), IsTrim t xs → IsTrim u xs → t.length ≤ u.length → t = u := by
    intro xs t u ⟨⟨z, h⟩, ht⟩ ⟨⟨y, g⟩, hu⟩ hl
    have e : u = t ++ List.replicate (z - y) 0 := by
      have hlen := congrArg List.length h
      have hlen' := congrArg List.length g
      simp at hlen hlen'
      have e1 : xs.take u.length = u := by rw [g]; simp
      have e2 : xs.take u.length = t ++ List.replicate (z - y) 0 := by
        rw [h, List.take_append, List.take_of_length_le hl, List.take_replicate]
        congr 2; omega
      rw [← e1, e2]
    cases hz : z - y with
    | zero => rw [hz] at e; simpa using e.symm
    | succ m =>
      rw [hz, List.replicate_succ', ← List.append_assoc] at e
      exact absurd rfl (hu 0 _ e)
  intro xs t u h g
  rcases Nat.le_total t.length u.length with hl | hl
  · exact key xs t u h g hl
  · exact (key xs u t g h hl).symm
theorem IsTrim.length_le {t xs : List Int} (h : IsTrim t xs) : t.length ≤ xs.length := by
  obtain ⟨⟨z, rfl⟩, _⟩ := h; simp
theorem IsTrim.pad {t xs : List Int} (h : IsTrim t xs) (n : Nat) : IsTrim t (xs ++ List.replicate n 0) := by
  obtain ⟨⟨z, rfl⟩, h2⟩ := h
  exact ⟨⟨z + n, by rw [List.append_assoc, List.replicate_append_replicate]⟩, h2⟩
theorem IsTrim.exists : ∀ xs : List Int, ∃ t, IsTrim t xs := by
  intro xs
  induction hn : xs.length using Nat.strongRecOn generalizing xs with
  | _ n ih =>
    rcases List.eq_nil_or_concat xs with rfl | ⟨r, a, rfl⟩
    · exact ⟨[], ⟨⟨0, rfl⟩, fun a r h => by simp at h⟩⟩
    · by_cases ha : a = 0
      · obtain ⟨t, ht⟩ := ih r.length (by simp at hn; omega) r rfl
        exact ⟨t, by have := ht.pad 1; simpa [ha] using this⟩
      · exact ⟨r ++ [a], ⟨⟨0, by simp⟩, fun b s h => by
          have := List.append_inj' h rfl
          have h2 := this.2; injection h2 with h2 _; rw [← h2]; exact ha⟩⟩
noncomputable def trim (xs : List Int) : List Int := (IsTrim.exists xs).choose
theorem trim_is (xs : List Int) : IsTrim (trim xs) xs := (IsTrim.exists xs).choose_spec
theorem trim_eq {t xs : List Int} (h : IsTrim t xs) : t = trim xs := h.unique (trim_is xs)

theorem pTrim_l0 (xs : List Int) (hn : xs.length ≤ 17592186044415) : ∀ (n k : Nat), n ≤ xs.length → n < k → (∀ j, n ≤ j → j < xs.length → at_ xs j = 0) →
    clock_Trim.l0 k xs (n : Int) = some (trim xs) := by
  intro n
  induction n with
  | zero =>
    intro k _ hk hz
    obtain ⟨k, rfl⟩ : ∃ m, k = m + 1 := ⟨k - 1, by omega⟩
    simp only [clock_Trim.l0]
    rw [if_neg (by omega)]
    simp only [Option.bind_some]
    rw [if_pos (by omega), if_pos (by omega), if_pos (by simp)]
    refine congrArg some (trim_eq ?_)
    show IsTrim [] xs
    refine ⟨⟨xs.length, ?_⟩, fun a r h => by simp at h⟩
    refine List.ext_getElem (by simp) fun j h1 h2 => ?_
    have := hz j (by omega) h1
    simpa [at_, List.getD_eq_getElem?_getD, h1] using this
  | succ n ih =>
    intro k hl hk hz
    obtain ⟨k, rfl⟩ : ∃ m, k = m + 1 := ⟨k - 1, by omega⟩
    have hi : n < xs.length := by omega
    have hw : wrap64 (((n + 1 : Nat) : Int) - 1) = (n : Int) := by rw [wrap_in (by omega) (by omega)]; omega
    simp only [clock_Trim.l0, hw]
    rw [if_pos (by omega), if_pos (by omega), if_pos (by omega), rd_get xs n hi]
    by_cases e : xs[n] = 0
    · rw [if_pos e]
      refine ih k (by omega) (by omega) fun j h1 h2 => ?_
      rcases Nat.lt_or_ge n j with h | h
      · exact hz j (by omega) h2
      · have : j = n := by omega
        subst this; simpa [at_, List.getD_eq_getElem?_getD, h2] using e
    · rw [if_neg e]
      simp only [Option.bind_some]
      rw [if_pos (by omega), if_pos (by omega), if_pos (by simp; omega)]
      congr 1
      refine trim_eq ⟨⟨xs.length - (n + 1), ?_⟩, fun a r h => ?_⟩
      · have e1 : xs.drop (n + 1) = List.replicate (xs.length - (n + 1)) 0 := by
          refine List.ext_getElem (by simp) fun j h1 h2 => ?_
          simp at h1
          have := hz (n + 1 + j) (by omega) (by omega)
          have h3 : n + 1 + j < xs.length := by omega
          simpa [at_, List.getD_eq_getElem?_getD, h3] using this
        rw [← e1, Int.toNat_natCast]; simp
      · simp only [Int.toNat_natCast, List.nil_append] at h
        rw [List.take_succ_eq_append_getElem hi] at h
        have := (List.append_inj' h rfl).2
        injection this with h2 _; rw [← h2]; exact e
theorem pTrim (xs : List Int) (hn : xs.length ≤ 17592186044415) : Ev (fun k => clock_Trim.f k xs) (trim xs) :=
  ⟨xs.length + 1, fun k hk => pTrim_l0 xs hn xs.length k (Nat.le_refl _) (by omega) (fun j h1 h2 => by omega)⟩

/-! numerals, as lists of bytes -/
def isD (x : UInt8) : Bool := decide (48 ≤ x.toNat) && decide (x.toNat ≤ 57)
/-- The number that goes on from n by these digits, if all are digits. -/
def res : Nat → List UInt8 → Option Nat
  | n, [] => some n
  | n, x :: l => if isD x = true then res (10 * n + (x.toNat - 48)) l else none
theorem res_append : ∀ (l m : List UInt8) (n : Nat), res n (l ++ m) = (res n l).bind fun k => res k m
  | [], m, n => rfl
  | x :: l, m, n => by
    simp only [List.cons_append, res]
    split
    · exact res_append l m _
    · rfl
theorem toNat_of {n : Nat} (h : n < 10) : (UInt8.ofNat (48 + n)).toNat = 48 + n := by
  rw [UInt8.toNat_ofNat']; omega
theorem isD_of {n : Nat} (h : n < 10) : isD (UInt8.ofNat (48 + n)) = true := by
  unfold isD; rw [toNat_of h]; simp; omega
theorem of_isD {x : UInt8} (h : isD x = true) : UInt8.ofNat (48 + (x.toNat - 48)) = x ∧ x.toNat - 48 < 10 := by
  unfold isD at h
  simp only [Bool.and_eq_true, decide_eq_true_eq] at h
  refine ⟨?_, by omega⟩
  rw [show 48 + (x.toNat - 48) = x.toNat from by omega]
  exact UInt8.ofNat_toNat
/-- The one form of a numeral: not empty, no nought ahead. -/
def canon (l : List UInt8) : Prop := l ≠ [] ∧ (l.length = 1 ∨ l.head? ≠ some 48)
theorem dec_small {u : Nat} (h : u < 10) : Lib.decDigits u = [UInt8.ofNat (48 + u)] := by rw [Lib.decDigits, dif_pos h]
theorem dec_big {u : Nat} (h : ¬ u < 10) : Lib.decDigits u = Lib.decDigits (u / 10) ++ [UInt8.ofNat (48 + u % 10)] := by rw [Lib.decDigits, dif_neg h]
theorem dec_res : ∀ (u : Nat), res 0 (Lib.decDigits u) = some u := by
  intro u
  induction u using Nat.strongRecOn with
  | _ u ih =>
    by_cases h : u < 10
    · rw [dec_small h]
      simp only [res, isD_of h, if_true, toNat_of h]
      congr 1; omega
    · rw [dec_big h, res_append, ih (u / 10) (by omega)]
      simp only [Option.bind_some, res, isD_of (show u % 10 < 10 by omega), if_true, toNat_of (show u % 10 < 10 by omega)]
      congr 1; omega
theorem dec_ne (u : Nat) : Lib.decDigits u ≠ [] := by
  by_cases h : u < 10
  · rw [dec_small h]; simp
  · rw [dec_big h]; simp
theorem dec_head : ∀ (u : Nat), 1 ≤ u → (Lib.decDigits u).head? ≠ some 48 := by
  intro u
  induction u using Nat.strongRecOn with
  | _ u ih =>
    intro h1
    by_cases h : u < 10
    · rw [dec_small h]
      simp only [List.head?_cons, ne_eq, Option.some.injEq]
      intro he
      have := congrArg UInt8.toNat he
      rw [toNat_of h] at this
      simp at this
      omega
    · rw [dec_big h]
      have hi := ih (u / 10) (by omega) (by omega)
      rcases hd : Lib.decDigits (u / 10) with _ | ⟨y, m⟩
      · exact absurd hd (dec_ne _)
      · rw [hd] at hi; simpa using hi
theorem dec_canon (u : Nat) : canon (Lib.decDigits u) := by
  refine ⟨dec_ne u, ?_⟩
  by_cases h : u < 10
  · left; rw [dec_small h]; rfl
  · right; exact dec_head u (by omega)
theorem dec_length : ∀ (n u : Nat), 1 ≤ n → u < 10 ^ n → (Lib.decDigits u).length ≤ n := by
  intro n
  induction n with
  | zero => intro u h; omega
  | succ n ih =>
    intro u _ hu
    by_cases h : u < 10
    · rw [dec_small h]; simp
    · rw [dec_big h]
      have hn : 1 ≤ n := by
        rcases n with _ | n
        · simp at hu; omega
        · omega
      have := ih (u / 10) hn (by rw [Nat.pow_succ] at hu; omega)
      simp; omega
theorem res_le : ∀ (l : List UInt8) (n v : Nat), res n l = some v → n ≤ v
  | [], n, v, h => by simp only [res, Option.some.injEq] at h; omega
  | x :: l, n, v, h => by
    simp only [res] at h
    split at h
    · have := res_le l _ v h; omega
    · cases h
/-- A numeral in its one form is the numeral of its number. -/
theorem dec_of_res : ∀ (k : Nat) (l : List UInt8) (v : Nat), l.length = k → canon l → res 0 l = some v → Lib.decDigits v = l := by
  intro k
  induction k with
  | zero => intro l v hl hc; exact absurd (List.eq_nil_of_length_eq_zero hl) hc.1
  | succ k ih =>
    intro l v hl hc hv
    obtain ⟨m, x, rfl⟩ : ∃ m x, l = m ++ [x] := ⟨l.dropLast, l.getLast hc.1, (List.dropLast_concat_getLast hc.1).symm⟩
    rw [res_append] at hv
    obtain ⟨q, hq, hz⟩ := Option.bind_eq_some_iff.mp hv
    clear hv
    simp only [res] at hz
    split at hz
    · rename_i hx
      have hv := Option.some.inj hz
      obtain ⟨hx1, hx2⟩ := of_isD hx
      have hml : m.length = k := by simpa using hl
      rcases m with _ | ⟨y, m⟩
      · simp only [res, Option.some.injEq] at hq
        subst hq
        subst hv
        rw [dec_small (by omega)]
        simp only [Nat.mul_zero, Nat.zero_add, List.nil_append, hx1]
      · have hh : (y :: m).head? ≠ some 48 := by
          rcases hc.2 with h | h
          · simp at h
          · simpa using h
        have hi := ih (y :: m) q hml ⟨by simp, .inr hh⟩ hq
        have hq1 : 1 ≤ q := by
          rcases Nat.eq_zero_or_pos q with h0 | h0
          · subst h0
            rw [dec_small (by omega)] at hi
            simp only [List.cons.injEq] at hi
            obtain ⟨hy, _⟩ := hi
            exact absurd (by rw [← hy]; rfl) hh
          · exact h0
        subst hv
        rw [dec_big (by omega), show (10 * q + (x.toNat - 48)) / 10 = q from by omega, show (10 * q + (x.toNat - 48)) % 10 = x.toNat - 48 from by omega, hx1, hi]
    · cases hz
theorem res_lt : ∀ (l : List UInt8) (n v j : Nat), res n l = some v → n < 10 ^ j → v < 10 ^ (j + l.length)
  | [], n, v, j, h, hn => by simp only [res, Option.some.injEq] at h; subst h; simpa using hn
  | x :: l, n, v, j, h, hn => by
    simp only [res] at h
    split at h
    · rename_i hx
      have h2 := (of_isD hx).2
      have := res_lt l _ v (j + 1) h (by rw [Nat.pow_succ]; omega)
      simpa [Nat.add_assoc, Nat.add_comm 1] using this
    · cases h

theorem size_len (a : ByteArray) : a.size = a.data.toList.length := rfl
theorem bt_list (a : ByteArray) (i : Nat) (h : i < a.data.toList.length) : bt a (i : Int) = ((a.data.toList[i]).toNat : Int) := by
  unfold bt
  rw [dif_pos (show ((i : Int)).toNat < a.size from by rw [Int.toNat_natCast]; exact h)]
  rfl
theorem bt_isD {x : UInt8} : (¬ ((x.toNat : Int) < 48) ∧ ¬ ((x.toNat : Int) > 57)) ↔ isD x = true := by
  unfold isD; simp only [Bool.and_eq_true, decide_eq_true_eq]; omega
/-- What 'whole' says of a text: up to so many digits. -/
def whole (mx_ : Nat) (l : List UInt8) : Option Nat := if l.length = 0 ∨ l.length > mx_ ∨ (l.head? = some 48 ∧ l.length > 1) then none else res 0 l
theorem head48 : ∀ (l : List UInt8) (h : 0 < l.length), ((l[0].toNat : Int) = 48 ↔ l.head? = some 48)
  | [], h => by simp at h
  | x :: l, h => by
    simp only [List.getElem_cons_zero, List.head?_cons, Option.some.injEq]
    constructor
    · intro e; exact UInt8.toNat_inj.mp (show x.toNat = (48 : UInt8).toNat from by simp; omega)
    · rintro rfl; rfl
theorem bt_head (a : ByteArray) (h : a.size ≠ 0) : bt a 0 = 48 ↔ a.data.toList.head? = some 48 := by
  have hl : 0 < a.data.toList.length := by rw [← size_len]; omega
  have := bt_list a 0 hl
  rw [show bt a 0 = ((a.data.toList[0]).toNat : Int) from this]
  exact head48 _ hl

def out13 (o : Option Nat) : Int × Bool := match o with | some v => ((v : Int), decide ((v : Int) ≤ 1099511627776)) | none => (0, false)
theorem number_l0 (a : ByteArray) (ha : a.size ≤ 13) : ∀ (m i n k : Nat), i + m = a.size → n < 10 ^ i → m < k → clock_number.l0 k a (n : Int) (a.size : Int) (i : Int) = some (out13 (res n (a.data.toList.drop i)))
  | 0, i, n, k, hi, hn, hk => by
    obtain ⟨k, rfl⟩ : ∃ q, k = q + 1 := ⟨k - 1, by omega⟩
    simp only [clock_number.l0]
    rw [if_neg (by omega), List.drop_eq_nil_of_le (by rw [← size_len]; omega)]
    rfl
  | m + 1, i, n, k, hi, hn, hk => by
    obtain ⟨k, rfl⟩ : ∃ q, k = q + 1 := ⟨k - 1, by omega⟩
    have hil : i < a.data.toList.length := by rw [← size_len]; omega
    have hp : 10 ^ i ≤ 10 ^ 13 := Nat.pow_le_pow_right (by omega) (by omega)
    simp only [clock_number.l0]
    rw [if_pos (by omega), if_pos (by omega), if_pos (by omega), bt_list a i hil, List.drop_eq_getElem_cons hil]
    generalize a.data.toList[i] = x
    by_cases hx : isD x = true
    · obtain ⟨h1, h2⟩ := bt_isD.mpr hx
      rw [if_neg h1, if_neg h2]
      have hb := (of_isD hx).2
      have e1 : wrap64 (wrap64 (10 * (n : Int)) + (((x.toNat : Int) - 48) % 256)) = ((10 * n + (x.toNat - 48) : Nat) : Int) := by
        rw [IntWalk.wrap64_in (10 * (n : Int)) ⟨by omega, by omega⟩, show ((x.toNat : Int) - 48) % 256 = (x.toNat : Int) - 48 from by omega, IntWalk.wrap64_in _ ⟨by omega, by omega⟩]
        omega
      have e2 : wrap64 ((i : Int) + 1) = ((i + 1 : Nat) : Int) := by rw [IntWalk.wrap64_in _ ⟨by omega, by omega⟩]; omega
      rw [e1, e2, number_l0 a ha m (i + 1) _ k (by omega) (by rw [Nat.pow_succ]; omega) (by omega)]
      simp only [res, hx, if_true]
    · simp only [res, hx, Bool.false_eq_true, if_false, out13]
      by_cases h1 : (x.toNat : Int) < 48
      · rw [if_pos h1]
      · rw [if_neg h1]
        by_cases h2 : (x.toNat : Int) > 57
        · rw [if_pos h2]
        · exact absurd (bt_isD.mp ⟨h1, h2⟩) hx
theorem number_f (k : Nat) (a : ByteArray) : clock_number.f (k + 20) a = some (out13 (whole 13 a.data.toList)) := by
  unfold clock_number.f whole
  rw [← size_len]
  by_cases h0 : a.size = 0
  · rw [if_pos (by omega), if_pos (.inl h0)]; simp [clock_number.j0, out13]
  · rw [if_neg (by omega)]
    by_cases h1 : a.size > 13
    · rw [if_pos (by omega), if_pos (.inr (.inl h1))]; simp [clock_number.j0, out13]
    · rw [if_neg (by omega), if_pos (by omega)]
      have hrun : clock_number.j0 (k + 20) a false = some (out13 (res 0 a.data.toList)) := by
        simp only [clock_number.j0, Bool.false_eq_true, if_false]
        have := number_l0 a (by omega) a.size 0 0 (k + 19) (by omega) (by omega) (by omega)
        simpa using this
      by_cases h2 : bt a 0 = 48
      · rw [if_pos h2]
        have h3 := (bt_head a h0).mp h2
        by_cases h4 : a.size > 1
        · rw [if_pos (.inr (.inr ⟨h3, h4⟩)), decide_eq_true (show (a.size : Int) > 1 from by omega)]
          simp [clock_number.j0, out13]
        · rw [decide_eq_false (show ¬ (a.size : Int) > 1 from by omega), hrun, if_neg (by rintro (h | h | h) <;> omega)]
      · rw [if_neg h2, hrun, if_neg (by
          rintro (h | h | h)
          · omega
          · omega
          · exact h2 ((bt_head a h0).mpr h.1))]


/-! the text of a clock -/
def dg (x : Int) : List UInt8 := Lib.decDigits x.toNat
def jn (t : List Int) : List UInt8 := Lib.join (t.map dg) [44]
theorem join_snoc (l : List (List UInt8)) (y sep : List UInt8) (h : l ≠ []) : Lib.join (l ++ [y]) sep = Lib.join l sep ++ sep ++ y := by
  rcases l with _ | ⟨x, r⟩
  · exact absurd rfl h
  · rw [List.cons_append, Lib.join_cons, Lib.join_cons]
    simp [Lib.joinTail, List.append_assoc]
theorem jn_snoc (t : List Int) (x : Int) (h : t ≠ []) : jn (t ++ [x]) = jn t ++ 44 :: dg x := by
  unfold jn
  rw [List.map_append, List.map_cons, List.map_nil, join_snoc _ _ _ (by simpa using h)]
  simp
theorem jn_one (x : Int) : jn [x] = dg x := by unfold jn; rw [List.map_cons, List.map_nil, Lib.join_one]
def Fits (t : List Int) : Prop := ∀ x ∈ t, 0 ≤ x ∧ x ≤ 1099511627776
theorem dg_le {x : Int} (h : x ≤ 1099511627776) : (dg x).length ≤ 13 := dec_length 13 _ (by omega) (by omega)
theorem jn_le_ : ∀ (n : Nat) (t : List Int), t.length = n → Fits t → (jn t).length ≤ 14 * t.length
  | 0, t, hn, _ => by
    obtain rfl := List.eq_nil_of_length_eq_zero hn
    simp [jn, Lib.join_nil]
  | n + 1, t, hn, h => by
    have hne : t ≠ [] := by rintro rfl; simp at hn
    obtain ⟨m, x, rfl⟩ : ∃ m x, t = m ++ [x] := ⟨t.dropLast, t.getLast hne, (List.dropLast_concat_getLast hne).symm⟩
    have hx := (h x (by simp)).2
    have hl := dg_le hx
    by_cases ht : m = []
    · subst ht; rw [List.nil_append, jn_one]; simp; omega
    · rw [jn_snoc m x ht]
      have := jn_le_ n m (by simpa using hn) (fun y hy => h y (by simp [hy]))
      simp; omega
theorem jn_le (t : List Int) (h : Fits t) : (jn t).length ≤ 14 * t.length := jn_le_ _ t rfl h
theorem jn_ne (t : List Int) (h : t ≠ []) : jn t ≠ [] := by
  rcases t with _ | ⟨x, r⟩
  · exact absurd rfl h
  · unfold jn
    rw [List.map_cons, Lib.join_cons]
    have := dec_ne x.toNat
    simp [dg, this]
def txt (t : List Int) : ByteArray := if t = [] then ⟨#[45]⟩ else ⟨(jn t).toArray⟩
def wordOf (x : Int) : ByteArray := ⟨(dg x).toArray⟩
theorem itoa_f (x : Int) (h0 : 0 ≤ x) (h1 : x ≤ 1099511627776) : strconv_Itoa_25.f x = some (wordOf x) := by
  unfold strconv_Itoa_25.f
  rw [if_pos h0, if_pos (by omega)]
  obtain ⟨n, rfl⟩ : ∃ n : Nat, x = n := ⟨x.toNat, by omega⟩
  rw [Lib.itoa_nonneg]; rfl
theorem pText_l0 (t : List Int) (hl : t.length ≤ 64) (hf : Fits t) : ∀ (d i k : Nat), i + d = t.length → d < k → clock_Text.l0 k ((t.take i).map wordOf) t (t.length : Int) (i : Int) = some (txt t, 0)
  | 0, i, 0, hi, hk => by omega
  | 0, i, k + 1, hi, hk => by
    simp only [clock_Text.l0]
    rw [if_neg (by omega), List.take_of_length_le (by omega)]
    unfold txt
    by_cases ht : t = []
    · subst ht; rfl
    · rw [if_neg (by intro e; exact ht (List.eq_nil_of_length_eq_zero (by simpa using e))), if_neg ht]
      unfold strings_Join.f
      have e : ((t.map wordOf).map (·.data.toList)) = t.map dg := by rw [List.map_map]; rfl
      rw [if_pos (by simp; omega), e, show (⟨#[44]⟩ : ByteArray).data.toList = [44] from rfl, if_pos (by have := jn_le t hf; unfold jn at this; omega)]
      rfl
  | d + 1, i, 0, hi, hk => by omega
  | d + 1, i, k + 1, hi, hk => by
    have hil : i < t.length := by omega
    simp only [clock_Text.l0]
    have hm := hf t[i] (List.getElem_mem hil)
    rw [if_pos (by omega), if_pos (by omega), if_pos (by omega), rd_get t i hil, itoa_f _ hm.1 hm.2]
    simp only [Option.bind_some]
    rw [if_pos (by simp; omega), wrap_in (by omega) (by omega), step_nat]
    have := pText_l0 t hl hf d (i + 1) k (by omega) (by omega)
    rw [List.take_succ_eq_append_getElem hil, List.map_append] at this
    exact this
noncomputable def textV (xs : List Int) : ByteArray × Int := if chk xs = 0 then (txt (trim xs), 0) else (⟨#[]⟩, chk xs)
theorem trim_fits (xs : List Int) (h : chk xs = 0) : (trim xs).length ≤ 64 ∧ Fits (trim xs) := by
  obtain ⟨h1, h2⟩ := chk_ok h
  have hl := (trim_is xs).length_le
  obtain ⟨⟨z, hz⟩, _⟩ := trim_is xs
  exact ⟨by omega, fun x hx => h2 x (by rw [hz]; exact List.mem_append_left _ hx)⟩
theorem pText (xs : List Int) (hn : xs.length ≤ 17592186043904) : Ev (fun k => clock_Text.f k xs) (textV xs) := by
  unfold clock_Text.f textV
  refine Ev.bind (pCheck xs hn) ?_
  by_cases h : chk xs = 0
  · rw [if_pos h]
    simp only [h, if_true]
    obtain ⟨h1, h2⟩ := trim_fits xs h
    refine Ev.bind (pTrim xs (by omega)) ⟨(trim xs).length + 1, fun k hk => ?_⟩
    exact pText_l0 (trim xs) h1 h2 (trim xs).length 0 k (by omega) (by omega)
  · simp only [h, if_false]
    exact Ev.now _


/-! the clock of a text -/
def spl : List UInt8 → List (List UInt8)
  | [] => [[]]
  | x :: l => if x = 44 then [] :: spl l else match spl l with | [] => [[x]] | w :: ws => (x :: w) :: ws
theorem spl_ne (l : List UInt8) : spl l ≠ [] := by
  rcases l with _ | ⟨x, l⟩
  · simp [spl]
  · simp only [spl]
    split
    · simp
    · split <;> simp
theorem spl_index : ∀ l : List UInt8, (Lib.index l [44] = -1 ∧ spl l = [l]) ∨ ∃ i : Nat, Lib.index l [44] = i ∧ i < l.length ∧ spl l = l.take i :: spl (l.drop (i + 1))
  | [] => .inl ⟨by simp [Lib.index], rfl⟩
  | x :: l => by
    by_cases hx : x = 44
    · subst hx
      exact .inr ⟨0, by simp [Lib.index], by simp, by simp [spl]⟩
    · have hp : List.isPrefixOf [44] (x :: l) = false := by simp [List.isPrefixOf, Ne.symm hx]
      rcases spl_index l with ⟨h1, h2⟩ | ⟨i, h1, h2, h3⟩
      · left
        refine ⟨?_, ?_⟩
        · simp [Lib.index, hp, h1]
        · simp only [spl, if_neg hx, h2]
      · right
        refine ⟨i + 1, ?_, by simp; omega, ?_⟩
        · simp only [Lib.index, hp, h1, Bool.false_eq_true, if_false]
          rw [if_neg (by simp)]
          omega
        · simp only [spl, if_neg hx, h3, List.take_succ_cons, List.drop_succ_cons]
theorem split_spl : ∀ (k : Nat) (s : ByteArray), Lib.countB s ⟨#[44]⟩ = k → (Lib.splitB ⟨#[44]⟩ 0 k s).map (·.data.toList) = spl s.data.toList := by
  intro k
  induction k with
  | zero =>
    intro s hk
    rcases spl_index s.data.toList with ⟨h1, h2⟩ | ⟨i, h1, h2, h3⟩
    · rw [Lib.splitB_miss _ _ _ _ h1, h2]; rfl
    · have := Lib.countB_hit s ⟨#[44]⟩ i (by decide) h1
      omega
  | succ k ih =>
    intro s hk
    rcases spl_index s.data.toList with ⟨h1, h2⟩ | ⟨i, h1, h2, h3⟩
    · rw [Lib.splitB_miss _ _ _ _ h1, h2]; rfl
    · have hc := Lib.countB_hit s ⟨#[44]⟩ i (by decide) h1
      rw [Lib.splitB_hit _ _ _ _ i h1, List.map_cons, ih _ (by omega), h3, Lib.extract_from_zero, Lib.extract_to_end]
      rfl
def final (out : List Int) : List Int × Int := if rd out ((out.length : Int) - 1) = 0 then ([], 2) else (out, 0)
def runP (out : List Int) : List (List UInt8) → List Int × Int
  | [] => final out
  | w :: ws => if (out13 (whole 13 w)).2 = true then runP (out ++ [(out13 (whole 13 w)).1]) ws else ([], 2)
theorem pParse_l0 (ws : List ByteArray) (hl : ws.length ≤ 64) : ∀ (d i k : Nat) (out : List Int), i + d = ws.length → d + 40 < k → out.length = i → (d = 0 → out ≠ []) →
    clock_Parse.l0 k out ws (ws.length : Int) (i : Int) = some (runP out ((ws.drop i).map (·.data.toList)))
  | 0, i, 0, out, hi, hk, ho, hne => by omega
  | 0, i, k + 1, out, hi, hk, ho, hne => by
    have hp : 1 ≤ out.length := List.length_pos_iff.mpr (hne rfl)
    simp only [clock_Parse.l0]
    rw [if_neg (by omega), wrap_in (by omega) (by omega), if_pos (by omega), if_pos (by omega), List.drop_eq_nil_of_le (by omega)]
    simp only [List.map_nil, runP, final]
    split <;> rfl
  | d + 1, i, 0, out, hi, hk, ho, hne => by omega
  | d + 1, i, k + 1, out, hi, hk, ho, hne => by
    have hil : i < ws.length := by omega
    obtain ⟨k, rfl⟩ : ∃ q, k = q + 20 := ⟨k - 20, by omega⟩
    simp only [clock_Parse.l0]
    rw [if_pos (by omega), if_pos (by omega), if_pos (by omega), show rdOf ByteArray.empty ws (i : Int) = ws[i] from by simp [rdOf, List.getD_eq_getElem?_getD, hil], number_f]
    simp only [Option.bind_some]
    rw [List.drop_eq_getElem_cons hil, List.map_cons]
    simp only [runP]
    by_cases hw : (out13 (whole 13 (ws[i]).data.toList)).2 = true
    · rw [if_pos hw, if_pos hw, if_pos (by omega), wrap_in (by omega) (by omega), step_nat]
      exact pParse_l0 ws hl d (i + 1) (k + 20) _ (by omega) (by omega) (by simp [ho]) (by simp)
    · rw [if_neg hw, if_neg hw]
noncomputable def parseV (l : List UInt8) : List Int × Int := if l = [45] then ([], 0) else if (spl l).length > 64 then ([], 2) else runP [] (spl l)
theorem pParse (s : ByteArray) (hs : s.size ≤ 1048576) : Ev (fun k => clock_Parse.f k s) (parseV s.data.toList) := by
  unfold clock_Parse.f parseV
  rw [ByteArray.toList_eq]
  by_cases h1 : s.data.toList = [45]
  · rw [if_pos h1]
    simp only [h1, if_true]
    exact Ev.now _
  · rw [if_neg h1]
    simp only [h1, if_false]
    unfold strings_Split.f
    simp only [hs, if_true, show 1 ≤ (⟨#[44]⟩ : ByteArray).size from by decide, Option.bind_some]
    have hsp := split_spl _ s rfl
    have hlen := congrArg List.length hsp
    rw [List.length_map] at hlen
    generalize hws : Lib.splitB ⟨#[44]⟩ 0 (Lib.countB s ⟨#[44]⟩) s = ws at hsp hlen
    by_cases h2 : ws.length > 64
    · rw [if_pos (by omega)]
      simp only [show (ws.length : Int) > 64 from by omega, if_true]
      exact Ev.now _
    · rw [if_neg (by omega)]
      simp only [show ¬ ((ws.length : Int) > 64) from by omega, if_false]
      have hp : 1 ≤ ws.length := by rw [hlen]; exact List.length_pos_iff.mpr (spl_ne _)
      refine ⟨ws.length + 41, fun k hk => ?_⟩
      have := pParse_l0 ws (by omega) ws.length 0 k [] (by omega) (by omega) rfl (by omega)
      rw [List.drop_zero, hsp] at this
      exact this
theorem runP_len : ∀ (ws : List (List UInt8)) (out : List Int), (runP out ws).1.length ≤ out.length + ws.length
  | [], out => by
    simp only [runP, final]
    split <;> simp
  | w :: ws, out => by
    simp only [runP]
    split
    · have := runP_len ws (out ++ [(out13 (whole 13 w)).1])
      simp at this ⊢; omega
    · simp
theorem parseV_len (l : List UInt8) : (parseV l).1.length ≤ 64 := by
  unfold parseV
  split
  · simp
  · split
    · simp
    · have := runP_len (spl l) []
      simp at this; omega


/-! a clock's text, read -/
theorem res_no44 : ∀ (l : List UInt8) (n v : Nat), res n l = some v → ∀ x ∈ l, x ≠ 44
  | [], n, v, h, x, hx => by simp at hx
  | y :: l, n, v, h, x, hx => by
    simp only [res] at h
    split at h
    · rename_i hy
      rcases List.mem_cons.mp hx with rfl | hx
      · rintro rfl
        exact absurd hy (by decide)
      · exact res_no44 l _ v h x hx
    · cases h
theorem spl_word : ∀ (w l : List UInt8), (∀ x ∈ w, x ≠ 44) → spl (w ++ 44 :: l) = w :: spl l
  | [], l, h => by simp [spl]
  | x :: w, l, h => by
    simp only [List.cons_append, spl, if_neg (h x (by simp)), spl_word w l (fun y hy => h y (by simp [hy]))]
theorem spl_last : ∀ (w : List UInt8), (∀ x ∈ w, x ≠ 44) → spl w = [w]
  | [], h => rfl
  | x :: w, h => by
    simp only [spl, if_neg (h x (by simp)), spl_last w (fun y hy => h y (by simp [hy]))]
theorem dg_no44 (x : Int) : ∀ y ∈ dg x, y ≠ 44 := res_no44 _ 0 _ (dec_res x.toNat)
theorem jn_cons (x : Int) (r : List Int) (h : r ≠ []) : jn (x :: r) = dg x ++ 44 :: jn r := by
  rcases r with _ | ⟨y, r⟩
  · exact absurd rfl h
  · unfold jn
    rw [List.map_cons, List.map_cons, Lib.join_cons, Lib.join_cons]
    simp [Lib.joinTail]
theorem spl_jn : ∀ (t : List Int), t ≠ [] → spl (jn t) = t.map dg
  | [], h => absurd rfl h
  | [x], _ => by rw [jn_one, spl_last _ (dg_no44 x)]; rfl
  | x :: y :: r, _ => by
    rw [jn_cons x (y :: r) (by simp), spl_word _ _ (dg_no44 x), spl_jn (y :: r) (by simp)]
    rfl
theorem whole_dg {x : Int} (h0 : 0 ≤ x) (h1 : x ≤ 1099511627776) : out13 (whole 13 (dg x)) = (x, true) := by
  have hl := dg_le h1
  obtain ⟨c1, c2⟩ := dec_canon x.toNat
  have hw : whole 13 (dg x) = some x.toNat := by
    unfold whole
    rw [if_neg]
    · exact dec_res x.toNat
    · rintro (h3 | h3 | h3)
      · exact c1 (List.eq_nil_of_length_eq_zero h3)
      · omega
      · rcases c2 with c2 | c2
        · have := h3.2
          rw [show (dg x).length = 1 from c2] at this
          omega
        · exact c2 h3.1
  rw [hw]
  simp only [out13]
  rw [show ((x.toNat : Nat) : Int) = x from by omega, decide_eq_true h1]
theorem runP_dg : ∀ (t out : List Int), Fits t → runP out (t.map dg) = final (out ++ t)
  | [], out, h => by simp [runP]
  | x :: t, out, h => by
    have hx := h x (by simp)
    simp only [List.map_cons, runP, whole_dg hx.1 hx.2, if_true]
    rw [runP_dg t _ (fun y hy => h y (by simp [hy]))]
    simp
theorem jn_head (t : List Int) (h : t ≠ []) : jn t ≠ [45] := by
  rcases t with _ | ⟨x, r⟩
  · exact absurd rfl h
  · have hr := dec_res x.toNat
    have hn := dec_ne x.toNat
    unfold jn
    rw [List.map_cons, Lib.join_cons]
    unfold dg
    rcases hd : Lib.decDigits x.toNat with _ | ⟨y, m⟩
    · exact absurd hd hn
    · rw [hd] at hr
      simp only [res] at hr
      split at hr
      · rename_i hy
        intro e
        simp only [List.cons_append, List.cons.injEq] at e
        rw [e.1] at hy
        exact absurd hy (by decide)
      · cases hr
theorem parse_txt (t : List Int) (hl : t.length ≤ 64) (hf : Fits t) (hz : ∀ a r, t = r ++ [a] → a ≠ 0) : parseV (txt t).data.toList = (t, 0) := by
  unfold txt
  by_cases h : t = []
  · subst h; rfl
  · rw [if_neg h]
    show parseV (jn t) = (t, 0)
    unfold parseV
    rw [if_neg (jn_head t h), spl_jn t h, if_neg (by simp; omega), runP_dg t [] hf]
    unfold final
    simp only [List.nil_append]
    obtain ⟨m, x, rfl⟩ : ∃ m x, t = m ++ [x] := ⟨t.dropLast, t.getLast h, (List.dropLast_concat_getLast h).symm⟩
    rw [if_neg]
    rw [show (((m ++ [x]).length : Nat) : Int) - 1 = (m.length : Int) from by simp, rd_get _ m.length (by simp)]
    simpa using hz x m rfl
theorem txt_size (t : List Int) (hl : t.length ≤ 64) (hf : Fits t) : (txt t).size ≤ 1048576 := by
  unfold txt
  split
  · decide
  · have := jn_le t hf
    simp only [ByteArray.size, List.size_toArray]; omega

/-- Is a stamp right, as a plain test. -/
def isR (a b : Int) : Bool := decide (1 ≤ a) && (decide (a ≤ 1099511627776) && (decide (0 ≤ b) && decide (b < 64)))
theorem right_f (a b : Int) : ident_Right.f a b = some (isR a b) := by
  unfold ident_Right.f ident_replica.f isR
  by_cases h1 : 1 ≤ a <;> by_cases h2 : a ≤ 1099511627776 <;> by_cases h3 : 0 ≤ b <;> simp [h1, h2, h3]

def out (o : Option Nat) : Int × Bool := match o with | some v => ((v : Int), true) | none => (0, false)
theorem whole_l0 (a : ByteArray) (ha : a.size ≤ 14) : ∀ (m i n k : Nat), i + m = a.size → n < 10 ^ i → m < k → ident_whole.l0 k a (n : Int) (a.size : Int) (i : Int) = some (out (res n (a.data.toList.drop i)))
  | 0, i, n, k, hi, hn, hk => by
    obtain ⟨k, rfl⟩ : ∃ q, k = q + 1 := ⟨k - 1, by omega⟩
    simp only [ident_whole.l0]
    rw [if_neg (by omega), List.drop_eq_nil_of_le (by rw [← size_len]; omega)]
    rfl
  | m + 1, i, n, k, hi, hn, hk => by
    obtain ⟨k, rfl⟩ : ∃ q, k = q + 1 := ⟨k - 1, by omega⟩
    have hil : i < a.data.toList.length := by rw [← size_len]; omega
    have hp : 10 ^ i ≤ 10 ^ 13 := Nat.pow_le_pow_right (by omega) (by omega)
    simp only [ident_whole.l0]
    rw [if_pos (by omega), if_pos (by omega), if_pos (by omega), bt_list a i hil, List.drop_eq_getElem_cons hil]
    generalize a.data.toList[i] = x
    by_cases hx : isD x = true
    · obtain ⟨h1, h2⟩ := bt_isD.mpr hx
      rw [if_neg h1, if_neg h2]
      have hb := (of_isD hx).2
      have e1 : wrap64 (wrap64 (10 * (n : Int)) + (((x.toNat : Int) - 48) % 256)) = ((10 * n + (x.toNat - 48) : Nat) : Int) := by
        rw [IntWalk.wrap64_in (10 * (n : Int)) ⟨by omega, by omega⟩, show ((x.toNat : Int) - 48) % 256 = (x.toNat : Int) - 48 from by omega, IntWalk.wrap64_in _ ⟨by omega, by omega⟩]
        omega
      have e2 : wrap64 ((i : Int) + 1) = ((i + 1 : Nat) : Int) := by rw [IntWalk.wrap64_in _ ⟨by omega, by omega⟩]; omega
      rw [e1, e2, whole_l0 a ha m (i + 1) _ k (by omega) (by rw [Nat.pow_succ]; omega) (by omega)]
      simp only [res, hx, if_true]
    · simp only [res, hx, Bool.false_eq_true, if_false, out]
      by_cases h1 : (x.toNat : Int) < 48
      · rw [if_pos h1]
      · rw [if_neg h1]
        by_cases h2 : (x.toNat : Int) > 57
        · rw [if_pos h2]
        · exact absurd (bt_isD.mp ⟨h1, h2⟩) hx
theorem whole_f (k : Nat) (a : ByteArray) : ident_whole.f (k + 20) a = some (out (whole 14 a.data.toList)) := by
  unfold ident_whole.f whole
  rw [← size_len]
  by_cases h0 : a.size = 0
  · rw [if_pos (by omega), if_pos (.inl h0)]; simp [ident_whole.j0, out]
  · rw [if_neg (by omega)]
    by_cases h1 : a.size > 14
    · rw [if_pos (by omega), if_pos (.inr (.inl h1))]; simp [ident_whole.j0, out]
    · rw [if_neg (by omega), if_pos (by omega)]
      have hrun : ident_whole.j0 (k + 20) a false = some (out (res 0 a.data.toList)) := by
        simp only [ident_whole.j0, Bool.false_eq_true, if_false]
        have := whole_l0 a (by omega) a.size 0 0 (k + 19) (by omega) (by omega) (by omega)
        simpa using this
      by_cases h2 : bt a 0 = 48
      · rw [if_pos h2]
        have h3 := (bt_head a h0).mp h2
        by_cases h4 : a.size > 1
        · rw [if_pos (.inr (.inr ⟨h3, h4⟩)), decide_eq_true (show (a.size : Int) > 1 from by omega)]
          simp [ident_whole.j0, out]
        · rw [decide_eq_false (show ¬ (a.size : Int) > 1 from by omega), hrun, if_neg (by rintro (h | h | h) <;> omega)]
      · rw [if_neg h2, hrun, if_neg (by
          rintro (h | h | h)
          · omega
          · omega
          · exact h2 ((bt_head a h0).mpr h.1))]
/-! the text of a stamp, cut in two -/
def fin : Option Nat → Option Nat → Int × Int × Int
  | some n, some m => if isR n m = true then ((n : Int), (m : Int), 0) else (0, 0, 2)
  | _, _ => (0, 0, 2)
theorem whole_14 (l : List UInt8) : whole 14 l = whole 13 l ∨ (whole 13 l = none ∧ ∃ v, whole 14 l = some v ∧ 10 ^ 13 ≤ v) := by
  by_cases h : l.length = 14
  · have h13 : whole 13 l = none := by unfold whole; rw [if_pos (.inr (.inl (by omega)))]
    rw [h13]
    by_cases h1 : l.head? = some 48
    · left; unfold whole; rw [if_pos (.inr (.inr ⟨h1, by omega⟩))]
    · rcases hw : whole 14 l with _ | v
      · left; rfl
      · right
        refine ⟨rfl, v, rfl, ?_⟩
        unfold whole at hw
        split at hw
        · cases hw
        · have hd := dec_of_res l.length l v rfl ⟨by intro e; rw [e] at h; simp at h, .inr h1⟩ hw
          rcases Nat.lt_or_ge v (10 ^ 13) with hv | hv
          · have := dec_length 13 v (by omega) hv
            rw [hd] at this; omega
          · exact hv
  · left
    unfold whole
    by_cases h2 : l.length = 0 ∨ l.length > 14 ∨ (l.head? = some 48 ∧ l.length > 1)
    · rw [if_pos h2, if_pos (by
        rcases h2 with h2 | h2 | h2
        · exact .inl h2
        · exact .inr (.inl (by omega))
        · exact .inr (.inr h2))]
    · rw [if_neg h2, if_neg (by
        rintro (h3 | h3 | h3)
        · exact h2 (.inl h3)
        · exact h2 (.inr (.inl (by omega)))
        · exact h2 (.inr (.inr h3)))]
theorem fin_same (x y : List UInt8) : fin (whole 14 x) (whole 14 y) = fin (whole 13 x) (whole 13 y) := by
  rcases whole_14 x with hx | ⟨hx, v, hv, hb⟩ <;> rcases whole_14 y with hy | ⟨hy, u, hu, hc⟩
  · rw [hx, hy]
  · rw [hx, hy, hu]
    rcases whole 13 x with _ | n
    · rfl
    · simp only [fin]
      rw [if_neg (by simp only [isR, Bool.and_eq_true, decide_eq_true_eq]; omega)]
  · rw [hx, hv]
    rcases whole 14 y with _ | n
    · rcases whole 13 y with _ | n <;> rfl
    · simp only [fin]
      rw [if_neg (by simp only [isR, Bool.and_eq_true, decide_eq_true_eq]; omega)]
  · rw [hx, hv, hu]
    simp only [fin]
    rw [if_neg (by simp only [isR, Bool.and_eq_true, decide_eq_true_eq]; omega)]
def sp : List UInt8 → Option (List UInt8 × List UInt8)
  | [] => none
  | x :: l => if x = 46 then some ([], l) else (sp l).map fun p => (x :: p.1, p.2)
theorem cut_sp : ∀ l : List UInt8, Lib.cut l [46] = match sp l with | some (a, b) => (a, b, true) | none => (l, [], false)
  | [] => by simp [Lib.cut, Lib.index, sp]
  | x :: l => by
    have ih := cut_sp l
    have hg := Lib.index_ge l [46]
    unfold Lib.cut at ih ⊢
    by_cases hx : x = 46
    · subst hx
      simp [Lib.index, sp]
    · have hp : List.isPrefixOf [46] (x :: l) = false := by simp [List.isPrefixOf, Ne.symm hx]
      simp only [Lib.index, hp, Bool.false_eq_true, if_false, sp, if_neg hx]
      by_cases hi : 0 ≤ Lib.index l [46]
      · rw [if_pos hi] at ih
        have h1 : (Lib.index l [46] == -1) = false := by simp; omega
        simp only [h1, Bool.false_eq_true, if_false]
        rw [if_pos (by omega)]
        rcases hs : sp l with _ | ⟨a, b⟩
        · rw [hs] at ih; simp at ih
        · rw [hs] at ih
          simp only [Prod.mk.injEq] at ih
          obtain ⟨ha, hb, _⟩ := ih
          simp only [Option.map_some, Prod.mk.injEq]
          rw [show (Lib.index l [46] + 1).toNat = (Lib.index l [46]).toNat + 1 from by omega]
          refine ⟨by rw [List.take_succ_cons, ha], ?_, trivial⟩
          rw [Nat.add_right_comm, List.drop_succ_cons, ← hb]
      · rw [if_neg hi] at ih
        have h1 : (Lib.index l [46] == -1) = true := by simp; omega
        simp only [h1, if_true]
        rw [if_neg (by omega)]
        rcases hs : sp l with _ | ⟨a, b⟩
        · rfl
        · rw [hs] at ih; simp at ih
def parse (l : List UInt8) : Int × Int × Int := if l = [114, 111, 111, 116] then (0, 0, 0) else if l = [116, 114, 97, 115, 104] then (0, 1, 0) else match sp l with | some (a, b) => fin (whole 14 a) (whole 14 b) | none => (0, 0, 2)
theorem parse_f (k : Nat) (a : ByteArray) (ha : a.size ≤ 1048576) : ident_Parse.f (k + 20) a = some (parse a.data.toList) := by
  unfold ident_Parse.f parse
  rw [ByteArray.toList_eq]
  by_cases h1 : a.data.toList = [114, 111, 111, 116]
  · rw [if_pos h1, if_pos h1]
  · rw [if_neg h1, if_neg h1]
    by_cases h2 : a.data.toList = [116, 114, 97, 115, 104]
    · rw [if_pos h2, if_pos h2]
    · rw [if_neg h2, if_neg h2]
      unfold strings_Cut.f
      rw [if_pos ha, show (⟨#[46]⟩ : ByteArray).data.toList = [46] from rfl, cut_sp]
      simp only [Option.bind_some, whole_f]
      rcases sp a.data.toList with _ | ⟨x, y⟩
      · simp
      · simp only [if_true]
        rcases whole 14 x with _ | n
        · simp [out, fin]
        · rcases whole 14 y with _ | m
          · simp [out, fin]
          · simp only [out, if_true, right_f, Option.bind_some, fin]
            split <;> rfl
/-! the text of a stamp -/
theorem itoaN_f (n : Nat) (h : n < 9223372036854775808) : strconv_Itoa_25.f (n : Int) = some ⟨(Lib.decDigits n).toArray⟩ := by
  unfold strconv_Itoa_25.f
  rw [if_pos (by omega), if_pos (by omega), Lib.itoa_nonneg]
def textOf (n m : Nat) : List UInt8 := Lib.decDigits n ++ 46 :: Lib.decDigits m
def text (a b : Int) : List UInt8 × Int := if isR a b = true then (textOf a.toNat b.toNat, 0) else if a = 0 ∧ b = 0 then ([114, 111, 111, 116], 0) else if a = 0 ∧ b = 1 then ([116, 114, 97, 115, 104], 0) else ([], 2)
theorem beq2 (a b c d : Int) : (a == c && (b == d)) = decide (a = c ∧ b = d) := by
  by_cases h1 : a = c <;> by_cases h2 : b = d <;> simp [h1, h2]
theorem joinT (x y : List UInt8) : (⟨x.toArray⟩ : ByteArray) ++ (⟨#[46]⟩ : ByteArray) ++ ⟨y.toArray⟩ = ⟨(x ++ 46 :: y).toArray⟩ := by
  apply ByteArray.ext
  simp [ByteArray.data_append]
theorem text_f (a b : Int) : ident_Text.f a b = some (⟨(text a b).1.toArray⟩, (text a b).2) := by
  unfold ident_Text.f text
  rw [right_f]
  simp only [Option.bind_some]
  by_cases h : isR a b = true
  · rw [if_pos h, if_pos h]
    have hR := h
    simp only [isR, Bool.and_eq_true, decide_eq_true_eq] at hR
    obtain ⟨n, rfl⟩ : ∃ n : Nat, a = n := ⟨a.toNat, by omega⟩
    obtain ⟨m, rfl⟩ : ∃ n : Nat, b = n := ⟨b.toNat, by omega⟩
    rw [itoaN_f n (by omega), itoaN_f m (by omega)]
    have l1 := dec_length 19 n (by omega) (by omega)
    have l2 := dec_length 19 m (by omega) (by omega)
    have s1 : (⟨(Lib.decDigits n).toArray⟩ : ByteArray).size ≤ 19 := by simpa [ByteArray.size] using l1
    have s2 : (⟨(Lib.decDigits m).toArray⟩ : ByteArray).size ≤ 19 := by simpa [ByteArray.size] using l2
    simp only [Option.bind_some]
    rw [if_pos (by omega), if_pos (by rw [ByteArray.size_append]; have : (⟨#[46]⟩ : ByteArray).size = 1 := rfl; omega), joinT]
    simp only [textOf, Int.toNat_natCast]
  · rw [if_neg h, if_neg h]
    simp only [beq2, decide_eq_true_eq]
    split
    · rfl
    · split <;> rfl
/-! both ways -/
theorem isD_46 : isD 46 = false := by decide
theorem dec_isD (m : List UInt8) : ∀ (l : List UInt8) (n v : Nat), res n l = some v → sp (l ++ 46 :: m) = some (l, m)
  | [], n, v, h => by simp [sp]
  | x :: l, n, v, h => by
    simp only [res] at h
    split at h
    · rename_i hx
      have hne : x ≠ 46 := by rintro rfl; rw [isD_46] at hx; cases hx
      simp only [List.cons_append, sp, if_neg hne, dec_isD m l _ v h, Option.map_some]
    · cases h
theorem whole_dec (n : Nat) (h : n < 10 ^ 14) : whole 14 (Lib.decDigits n) = some n := by
  unfold whole
  have hl := dec_length 14 n (by omega) h
  obtain ⟨h1, h2⟩ := dec_canon n
  rw [if_neg, dec_res]
  rintro (h3 | h3 | h3)
  · exact h1 (List.eq_nil_of_length_eq_zero h3)
  · omega
  · rcases h2 with h2 | h2
    · omega
    · exact h2 h3.1
theorem textOf_head (n m : Nat) : ∃ x l, textOf n m = x :: l ∧ isD x = true := by
  have hr := dec_res n
  unfold textOf
  rcases hd : Lib.decDigits n with _ | ⟨x, l⟩
  · exact absurd hd (dec_ne n)
  · rw [hd] at hr
    simp only [res] at hr
    split at hr
    · rename_i hx
      exact ⟨x, l ++ 46 :: Lib.decDigits m, rfl, hx⟩
    · cases hr
theorem parse_text (n m : Nat) (h : isR n m = true) : parse (textOf n m) = ((n : Int), (m : Int), 0) := by
  have hR := h
  simp only [isR, Bool.and_eq_true, decide_eq_true_eq] at hR
  obtain ⟨x, l, hx, hd⟩ := textOf_head n m
  unfold parse
  rw [if_neg (by rw [hx]; rintro e; simp only [List.cons.injEq] at e; rw [e.1] at hd; exact absurd hd (by decide)), if_neg (by rw [hx]; rintro e; simp only [List.cons.injEq] at e; rw [e.1] at hd; exact absurd hd (by decide))]
  unfold textOf
  rw [dec_isD _ _ 0 n (dec_res n)]
  simp only
  rw [whole_dec n (by omega), whole_dec m (by omega)]
  simp only [fin]
  rw [if_pos h]
theorem sp_join : ∀ (l a b : List UInt8), sp l = some (a, b) → l = a ++ 46 :: b
  | [], a, b, h => by simp [sp] at h
  | x :: l, a, b, h => by
    simp only [sp] at h
    split at h
    · rename_i hx
      simp only [Option.some.injEq, Prod.mk.injEq] at h
      obtain ⟨rfl, rfl⟩ := h
      rw [hx]; rfl
    · obtain ⟨⟨c, d⟩, hc, e⟩ := Option.map_eq_some_iff.mp h
      simp only [Prod.mk.injEq] at e
      obtain ⟨rfl, rfl⟩ := e
      rw [sp_join l c d hc]; rfl
theorem whole_canon (l : List UInt8) (v : Nat) (h : whole 14 l = some v) : Lib.decDigits v = l := by
  unfold whole at h
  split at h
  · cases h
  · rename_i hn
    refine dec_of_res l.length l v rfl ⟨fun e => hn (.inl (by rw [e]; rfl)), ?_⟩ h
    by_cases h1 : l.length = 1
    · exact .inl h1
    · exact .inr fun e => hn (.inr (.inr ⟨e, by
        rcases l with _ | ⟨x, l⟩
        · exact absurd (.inl rfl) hn
        · simp at h1 ⊢; rcases l with _ | ⟨y, l⟩
          · exact absurd rfl h1
          · simp⟩))
theorem text_parse (l : List UInt8) (a b : Int) (h : parse l = (a, b, 0)) : text a b = (l, 0) := by
  unfold parse at h
  split at h
  · rename_i e
    simp only [Prod.mk.injEq] at h
    obtain ⟨rfl, rfl, _⟩ := h
    rw [e]; rfl
  · split at h
    · rename_i e
      simp only [Prod.mk.injEq] at h
      obtain ⟨rfl, rfl, _⟩ := h
      rw [e]; rfl
    · split at h
      · rename_i x y hs
        rcases hx : whole 14 x with _ | n
        · rw [hx] at h; simp [fin] at h
        · rcases hy : whole 14 y with _ | m
          · rw [hx, hy] at h; simp [fin] at h
          · rw [hx, hy] at h
            simp only [fin] at h
            split at h
            · rename_i hR
              simp only [Prod.mk.injEq] at h
              obtain ⟨rfl, rfl, _⟩ := h
              unfold text
              rw [if_pos hR]
              simp only [Int.toNat_natCast, textOf, Prod.mk.injEq, and_true]
              rw [whole_canon x n hx, whole_canon y m hy, ← sp_join l x y hs]
            · simp at h
      · simp at h
theorem parse_of_text (a b : Int) (h : (text a b).2 = 0) : parse (text a b).1 = (a, b, 0) := by
  unfold text at h ⊢
  by_cases h1 : isR a b = true
  · have hR := h1
    simp only [isR, Bool.and_eq_true, decide_eq_true_eq] at hR
    rw [if_pos h1]
    obtain ⟨n, rfl⟩ : ∃ n : Nat, a = n := ⟨a.toNat, by omega⟩
    obtain ⟨m, rfl⟩ : ∃ n : Nat, b = n := ⟨b.toNat, by omega⟩
    simp only [Int.toNat_natCast]
    exact parse_text n m h1
  · rw [if_neg h1] at h ⊢
    by_cases h2 : a = 0 ∧ b = 0
    · obtain ⟨rfl, rfl⟩ := h2; rfl
    · rw [if_neg h2] at h ⊢
      by_cases h3 : a = 0 ∧ b = 1
      · obtain ⟨rfl, rfl⟩ := h3; rfl
      · rw [if_neg h3] at h; cases h
theorem text_size (a b : Int) : (text a b).1.length ≤ 40 := by
  unfold text
  split
  · rename_i hR
    simp only [isR, Bool.and_eq_true, decide_eq_true_eq] at hR
    have l1 := dec_length 19 a.toNat (by omega) (by omega)
    have l2 := dec_length 19 b.toNat (by omega) (by omega)
    simp only [textOf, List.length_append, List.length_cons]; omega
  · split
    · decide
    · split <;> decide

/-! two changes that are the same, and that the program answers at all -/
theorem awake : Ev (fun k => topiarylaw05_awake.f k) true := Ev.of topiarylaw05_awake.mono (k := 40) (by decide +kernel)

/-! quoting, on lists of bytes -/
theorem qsize_len (a : ByteArray) : a.size = a.data.toList.length := rfl
theorem qbt (a : ByteArray) (i : Nat) (h : i < a.data.toList.length) : bt a (i : Int) = ((a.data.toList[i]).toNat : Int) := by
  have h' : ((i : Int)).toNat < a.size := by rw [Int.toNat_natCast]; exact h
  rw [← bt_at a (i : Int) h']
  rfl
def pl (x : UInt8) : Bool := decide (32 ≤ x.toNat) && (decide (x.toNat ≤ 126) && (decide (x.toNat ≠ 34) && decide (x.toNat ≠ 92)))
theorem ofn {n : Nat} (h : n < 256) : (UInt8.ofNat n).toNat = n := by
  simp [UInt8.toNat_ofNat']
  omega
theorem plain_f (n : Nat) (h : n < 256) : change_plain.f (n : Int) = some (pl (UInt8.ofNat n)) := by
  have hn : (UInt8.ofNat n).toNat = n := ofn h
  unfold change_plain.f pl
  rw [hn]
  by_cases h1 : 32 ≤ n
  · rw [if_pos (by omega)]
    by_cases h2 : n ≤ 126
    · rw [if_pos (by omega)]
      by_cases h3 : n = 34
      · subst h3; rfl
      · rw [if_neg (by omega)]
        by_cases h4 : n = 92
        · subst h4; rfl
        · have h5 : ((n : Int) != 92) = true := by rw [bne_iff_ne]; omega
          rw [h5]; simp [h1, h2, h3, h4]
    · rw [if_neg (by omega)]; simp [h2]
  · rw [if_neg (by omega)]; simp [h1]
theorem plain_u (x : UInt8) : change_plain.f (x.toNat : Int) = some (pl x) := by
  rw [plain_f _ x.toNat_lt]
  simp
def nums (l : List UInt8) : List Int := l.map fun b => (b.toNat : Int)
theorem nums_app (l m : List UInt8) : nums (l ++ m) = nums l ++ nums m := by simp [nums]
theorem nums_len (l : List UInt8) : (nums l).length = l.length := by simp [nums]
theorem str_nums (l : List UInt8) : strOfNums (nums l) = ⟨l.toArray⟩ := by
  unfold strOfNums nums
  rw [List.map_map, show ((fun n : Int => UInt8.ofNat n.toNat) ∘ fun b : UInt8 => (b.toNat : Int)) = id from funext fun b => by simp, List.map_id]
def hx (n : Nat) : UInt8 := if n < 10 then UInt8.ofNat (48 + n) else UInt8.ofNat (87 + n)
def quo1 (x : UInt8) : List UInt8 := if pl x then [x] else [92, hx (x.toNat / 16), hx (x.toNat % 16)]
def quoB (l : List UInt8) : List UInt8 := l.flatMap quo1
def quo (l : List UInt8) : List UInt8 := 34 :: (quoB l ++ [34])
theorem quo1_len (x : UInt8) : (quo1 x).length ≤ 3 := by unfold quo1; split <;> simp
theorem quoB_len : ∀ l : List UInt8, (quoB l).length ≤ 3 * l.length
  | [] => by simp [quoB]
  | x :: l => by
    have h1 := quo1_len x
    have h2 := quoB_len l
    simp only [quoB, List.flatMap_cons, List.length_append, List.length_cons] at *
    omega
theorem quoB_take (l : List UInt8) (i : Nat) (h : i < l.length) : quoB (l.take (i + 1)) = quoB (l.take i) ++ quo1 l[i] := by
  unfold quoB
  rw [List.take_succ_eq_append_getElem h, List.flatMap_append]
  simp only [List.flatMap_cons, List.flatMap_nil, List.append_nil]
theorem dig_tab (n : Nat) (h : n < 16) : bt (⟨#[48, 49, 50, 51, 52, 53, 54, 55, 56, 57, 97, 98, 99, 100, 101, 102]⟩ : ByteArray) (n : Int) = ((hx n).toNat : Int) := by
  have : ∀ m : Fin 16, bt (⟨#[48, 49, 50, 51, 52, 53, 54, 55, 56, 57, 97, 98, 99, 100, 101, 102]⟩ : ByteArray) (m.val : Int) = ((hx m.val).toNat : Int) := by decide +kernel
  exact this ⟨n, h⟩
theorem and15 (n : Nat) (h : n < 256) : Go.bits .and .u8 (n : Int) 15 = ((n % 16 : Nat) : Int) := by
  have : ∀ m : Fin 256, Go.bits .and .u8 (m.val : Int) 15 = ((m.val % 16 : Nat) : Int) := by decide +kernel
  exact this ⟨n, h⟩
theorem quote_l0 (s : ByteArray) (hs : s.size ≤ 1048576) : ∀ (d i k : Nat), i + d = s.size → d < k → change_Quote.l0 k s (nums (34 :: quoB (s.data.toList.take i))) (s.size : Int) (i : Int) = some ⟨(quo s.data.toList).toArray⟩
  | d, i, 0, hi, hk => by omega
  | 0, i, k + 1, hi, hk => by
    have hb := quoB_len s.data.toList
    rw [← qsize_len] at hb
    simp only [change_Quote.l0]
    rw [if_neg (by omega), List.take_of_length_le (by rw [← qsize_len]; omega), if_pos (by rw [nums_len]; simp only [List.length_cons]; omega)]
    rw [show (nums (34 :: quoB s.data.toList) ++ [34] : List Int) = nums (quo s.data.toList) from by simp [nums, quo], str_nums]
  | d + 1, i, k + 1, hi, hk => by
    have hl : i < s.data.toList.length := by rw [← qsize_len]; omega
    have hb := quoB_len (s.data.toList.take i)
    have hb2 : (s.data.toList.take i).length ≤ i := by simp; omega
    have hx' := (s.data.toList[i]).toNat_lt
    simp only [change_Quote.l0]
    rw [if_pos (by omega), if_pos (by omega), if_pos (by omega), qbt s i hl, plain_u]
    simp only [Option.bind_some]
    have hw : wrap64 ((i : Int) + 1) = ((i + 1 : Nat) : Int) := by unfold wrap64; omega
    have ih := quote_l0 s hs d (i + 1) k (by omega) (by omega)
    rw [quoB_take _ _ hl] at ih
    rw [hw]
    by_cases hp : pl s.data.toList[i] = true
    · rw [if_pos hp, if_pos (by rw [nums_len]; simp only [List.length_cons]; omega)]
      rw [show quo1 s.data.toList[i] = [s.data.toList[i]] from by unfold quo1; rw [if_pos hp]] at ih
      rw [← ih, ← List.cons_append, nums_app]
      rfl
    · rw [if_neg hp]
      have h16 : (((s.data.toList[i]).toNat : Int) / 16) = (((s.data.toList[i]).toNat / 16 : Nat) : Int) := by omega
      rw [h16, and15 _ hx', if_pos (by omega), if_pos (by omega), if_pos (by omega), if_pos (by omega), dig_tab _ (by omega), dig_tab _ (by omega)]
      simp only [Option.bind_some, List.length_cons, List.length_nil]
      rw [if_pos (by rw [nums_len]; simp only [List.length_cons]; omega)]
      rw [show quo1 s.data.toList[i] = [92, hx ((s.data.toList[i]).toNat / 16), hx ((s.data.toList[i]).toNat % 16)] from by unfold quo1; rw [if_neg hp]] at ih
      rw [← ih, ← List.cons_append, nums_app]
      rfl
theorem quote_f (s : ByteArray) (hs : s.size ≤ 1048576) : Ev (fun k => change_Quote.f k s) ⟨(quo s.data.toList).toArray⟩ :=
  ⟨s.size + 1, fun k hk => quote_l0 s hs s.size 0 k (by omega) (by omega)⟩
/-! and back -/
def hv (x : UInt8) : Option Nat := if 48 ≤ x.toNat ∧ x.toNat ≤ 57 then some (x.toNat - 48) else if 97 ≤ x.toNat ∧ x.toNat ≤ 102 then some (x.toNat - 87) else none
theorem hv_lt {x : UInt8} {u : Nat} (h : hv x = some u) : u < 16 := by
  unfold hv at h
  split at h
  · simp at h; omega
  · split at h
    · simp at h; omega
    · cases h
def esc (a b : UInt8) : Option UInt8 := match hv a, hv b with | some u, some v => if pl (UInt8.ofNat (16 * u + v)) then none else some (UInt8.ofNat (16 * u + v)) | _, _ => none
def unq : List UInt8 → Option (List UInt8)
  | [] => some []
  | [x] => if pl x then some [x] else none
  | [x, y] => if pl x then (unq [y]).map (x :: ·) else none
  | x :: a :: b :: r => if pl x then (unq (a :: b :: r)).map (x :: ·) else if x = 92 then (esc a b).bind fun z => (unq r).map (z :: ·) else none
theorem unq_plain {x : UInt8} (h : pl x = true) (r : List UInt8) : unq (x :: r) = (unq r).map (x :: ·) := by
  rcases r with _ | ⟨a, _ | ⟨b, r⟩⟩
  · simp [unq, h]
  · simp [unq, h]
  · rw [unq, if_pos h]
theorem unq_esc (a b : UInt8) (r : List UInt8) : unq (92 :: a :: b :: r) = (esc a b).bind fun z => (unq r).map (z :: ·) := by
  rw [unq, if_neg (by decide), if_pos rfl]
theorem unq_bad {x : UInt8} (h : pl x = false) (hx : x ≠ 92) (r : List UInt8) : unq (x :: r) = none := by
  rcases r with _ | ⟨a, _ | ⟨b, r⟩⟩
  · rw [unq, if_neg (by simp [h])]
  · rw [unq, if_neg (by simp [h])]
  · rw [unq, if_neg (by simp [h]), if_neg hx]
theorem unq_short {r : List UInt8} (h : r.length < 2) : unq (92 :: r) = none := by
  rcases r with _ | ⟨a, _ | ⟨b, r⟩⟩
  · rfl
  · rfl
  · simp at h; omega
theorem ix_tab (x : UInt8) : Lib.indexByte [48, 49, 50, 51, 52, 53, 54, 55, 56, 57, 97, 98, 99, 100, 101, 102] x = match hv x with | some u => (u : Int) | none => -1 := by
  have : ∀ m : Fin 256, Lib.indexByte [48, 49, 50, 51, 52, 53, 54, 55, 56, 57, 97, 98, 99, 100, 101, 102] (UInt8.ofNat m.val) = match hv (UInt8.ofNat m.val) with | some u => (u : Int) | none => -1 := by decide +kernel
  have h := this ⟨x.toNat, x.toNat_lt⟩
  simpa using h
theorem or16 (u v : Nat) (hu : u < 16) (hv : v < 16) : (Go.bits .or .i64 (wrap64 ((u : Int) * 16)) (v : Int)) % 256 = ((16 * u + v : Nat) : Int) := by
  have : ∀ a : Fin 16, ∀ b : Fin 16, (Go.bits .or .i64 (wrap64 ((a.val : Int) * 16)) (b.val : Int)) % 256 = ((16 * a.val + b.val : Nat) : Int) := by decide +kernel
  exact this ⟨u, hu⟩ ⟨v, hv⟩
theorem hv_hx : ∀ x : UInt8, hv (hx (x.toNat / 16)) = some (x.toNat / 16) ∧ hv (hx (x.toNat % 16)) = some (x.toNat % 16) := by
  have : ∀ m : Fin 16, hv (hx m.val) = some m.val := by decide +kernel
  intro x
  have := x.toNat_lt
  exact ⟨this' ⟨x.toNat / 16, by omega⟩, this' ⟨x.toNat % 16, by omega⟩⟩
where this' : ∀ m : Fin 16, hv (hx m.val) = some m.val := by decide +kernel
theorem unq_quo : ∀ l : List UInt8, unq (quoB l) = some l
  | [] => rfl
  | x :: l => by
    have ih := unq_quo l
    have e : quoB (x :: l) = quo1 x ++ quoB l := by simp [quoB]
    rw [e]
    unfold quo1
    by_cases hp : pl x = true
    · rw [if_pos hp, List.cons_append, List.nil_append]
      rw [unq_plain hp, ih]; rfl
    · rw [if_neg hp]
      obtain ⟨h1, h2⟩ := hv_hx x
      have hx' : UInt8.ofNat (16 * (x.toNat / 16) + x.toNat % 16) = x := by
        rw [show 16 * (x.toNat / 16) + x.toNat % 16 = x.toNat from by omega]; simp
      have he : esc (hx (x.toNat / 16)) (hx (x.toNat % 16)) = some x := by
        unfold esc
        rw [h1, h2]
        simp only [hx', hp, Bool.false_eq_true, if_false]
      rw [List.cons_append, List.cons_append, List.cons_append, List.nil_append, unq_esc, he, ih]
      rfl
def unqOut (p : List UInt8) : Option (List UInt8) → ByteArray × Bool
  | some q => (⟨(p ++ q).toArray⟩, true)
  | none => (⟨#[]⟩, false)
theorem unq_l0 (n : ByteArray) (hs : n.size ≤ 4194304) : ∀ (d i k : Nat) (p : List UInt8), i + d = n.size → 2 * d < k → p.length ≤ i → change_Unquote.l0 k (nums p) n (i : Int) = some (unqOut p (unq (n.data.toList.drop i))) := by
  intro d
  induction d using Nat.strongRecOn with
  | _ d ih =>
    intro i k p hi hk hp
    obtain ⟨k, rfl⟩ : ∃ m, k = m + 1 := ⟨k - 1, by omega⟩
    simp only [change_Unquote.l0]
    by_cases hd : d = 0
    · subst hd
      rw [if_neg (by omega), List.drop_eq_nil_of_le (by rw [← qsize_len]; omega), str_nums]
      simp [unq, unqOut]
    have hl : i < n.data.toList.length := by rw [← qsize_len]; omega
    have hx' := (n.data.toList[i]).toNat_lt
    rw [if_pos (by omega), if_pos (by omega), qbt n i hl, plain_u]
    simp only [Option.bind_some]
    have hw : wrap64 ((i : Int) + 1) = ((i + 1 : Nat) : Int) := by unfold wrap64; omega
    have hw2 : wrap64 ((i : Int) + 2) = ((i + 2 : Nat) : Int) := by unfold wrap64; omega
    rw [hw, hw2, List.drop_eq_getElem_cons hl]
    generalize hg : n.data.toList[i] = x at *
    by_cases hpl : pl x = true
    · rw [if_pos hpl, if_pos (by rw [nums_len]; omega)]
      rw [show nums p ++ [(x.toNat : Int)] = nums (p ++ [x]) from by simp [nums], ih (d - 1) (by omega) (i + 1) k (p ++ [x]) (by omega) (by omega) (by simp; omega)]
      rw [unq_plain hpl]
      cases unq (List.drop (i + 1) n.data.toList) <;> simp [unqOut]
    · rw [if_neg hpl]
      obtain ⟨k, rfl⟩ : ∃ m, k = m + 1 := ⟨k - 1, by omega⟩
      have hpf : pl x = false := by simpa using hpl
      clear hx'
      by_cases h92 : x = 92
      · have hc : (x.toNat : Int) = 92 := by rw [h92]; rfl
        rw [if_pos hc]
        clear hg hc
        subst h92
        simp only [change_Unquote.j2]
        by_cases h2 : i + 2 < n.data.toList.length
        · have hi1 : i + 1 < n.data.toList.length := by omega
          have hz : n.size = n.data.toList.length := rfl
          have e1 : d - 3 < d := by omega
          have e2 : i + 3 + (d - 3) = n.size := by omega
          have e3 : 2 * (d - 3) < k := by omega
          have e4 : p.length + 1 ≤ i + 3 := by omega
          have e5 : p.length < 140737488355328 := by omega
          have hw3 : wrap64 (((i + 2 : Nat) : Int) + 1) = ((i + 3 : Nat) : Int) := by unfold wrap64; omega
          rw [if_neg (by simp; omega), hw, hw2, if_pos (by omega), if_pos (by omega), List.drop_eq_getElem_cons hi1, List.drop_eq_getElem_cons h2, qbt n (i + 1) hi1, qbt n (i + 2) h2]
          unfold strings_IndexByte.f
          simp only [Int.toNat_natCast, Option.bind_some, UInt8.ofNat_toNat, Nat.toUInt8_eq, ix_tab, List.toList_toArray]
          rw [if_pos (by omega), if_pos (by omega)]
          generalize hga : n.data.toList[i + 1] = a
          generalize hgb : n.data.toList[i + 2] = b
          rw [unq_esc]
          unfold esc
          cases ha : hv a with
          | none => simp [unqOut]
          | some u =>
            cases hb : hv b with
            | none => simp [unqOut]
            | some v =>
              have hu := hv_lt ha
              have hv' := hv_lt hb
              simp only []
              rw [if_neg (by omega), if_neg (by omega), or16 u v hu hv', plain_f _ (by omega)]
              simp only [Option.bind_some]
              by_cases hq : pl (UInt8.ofNat (16 * u + v)) = true
              · rw [if_pos hq, if_pos hq]; simp [unqOut]
              · rw [if_neg hq, if_neg hq, if_pos (by rw [nums_len]; exact e5)]
                generalize hzz : UInt8.ofNat (16 * u + v) = zz
                have hn : ((16 * u + v : Nat) : Int) = (zz.toNat : Int) := by rw [← hzz, ofn (by omega)]
                rw [hw3, hn, show nums p ++ [(zz.toNat : Int)] = nums (p ++ [zz]) from by simp [nums], ih (d - 3) e1 (i + 3) k _ e2 e3 (by rw [List.length_append]; exact e4)]
                cases unq (List.drop (i + 2 + 1) n.data.toList) <;> simp [unqOut]
        · have hz : n.size = n.data.toList.length := rfl
          rw [if_pos (by simp; omega), unq_short (by simp; omega)]
          rfl
      · rw [if_neg (by intro h; exact h92 (UInt8.toNat_inj.mp (by show x.toNat = 92; omega)))]
        rw [unq_bad hpf h92]
        simp [change_Unquote.j2, unqOut]
/-- the text of a quoted one, on lists -/
def unqV (l : List UInt8) : ByteArray × Bool := if 2 ≤ l.length ∧ l.head? = some 34 ∧ l.getLast? = some 34 then unqOut [] (unq ((l.take (l.length - 1)).drop 1)) else (⟨#[]⟩, false)
theorem unquote_f (s : ByteArray) (hs : s.size ≤ 4194304) : Ev (fun k => change_Unquote.f k s) (unqV s.data.toList) := by
  refine ⟨2 * s.size + 3, fun k hk => ?_⟩
  obtain ⟨k, rfl⟩ : ∃ m, k = m + 1 := ⟨k - 1, by omega⟩
  have hz : s.size = s.data.toList.length := rfl
  show change_Unquote.f (k + 1) s = _
  unfold change_Unquote.f unqV
  by_cases h2 : (s.size : Int) < 2
  · rw [if_pos h2, if_neg (by omega)]
    simp [change_Unquote.j0]
  · have h0 : 0 < s.data.toList.length := by omega
    have hlast : s.data.toList.length - 1 < s.data.toList.length := by omega
    rw [if_neg h2, if_pos (by omega)]
    rw [show bt s 0 = ((s.data.toList[0]).toNat : Int) from by simpa using qbt s 0 h0]
    have hw : wrap64 ((s.size : Int) - 1) = ((s.data.toList.length - 1 : Nat) : Int) := by unfold wrap64; omega
    have hh : s.data.toList.head? = some s.data.toList[0] := List.head?_eq_getElem? ▸ List.getElem?_eq_getElem h0
    have hg : s.data.toList.getLast? = some s.data.toList[s.data.toList.length - 1] := by rw [List.getLast?_eq_getElem?, List.getElem?_eq_getElem hlast]
    rw [hw, qbt s _ hlast, hh, hg]
    have key : ∀ x : UInt8, ((x.toNat : Int) = 34 ↔ some x = some (34 : UInt8)) := fun x => by
      rw [Option.some.injEq, ← UInt8.toNat_inj]
      show (x.toNat : Int) = 34 ↔ x.toNat = 34
      omega
    by_cases hA : ((s.data.toList[0]).toNat : Int) = 34
    · rw [if_pos hA, if_pos (by omega), if_pos (by omega)]
      simp only [change_Unquote.j0]
      by_cases hB : ((s.data.toList[s.data.toList.length - 1]).toNat : Int) = 34
      · rw [if_neg (by rw [bne_iff_ne]; exact fun h => h hB), hw, if_pos (by omega), if_pos (by omega), if_pos ⟨by omega, (key _).mp hA, (key _).mp hB⟩, Int.toNat_natCast]
        have e : (s.extract 1 (s.data.toList.length - 1)).data.toList = (s.data.toList.take (s.data.toList.length - 1)).drop 1 := by
          rw [ByteArray.data_extract, Array.toList_extract, List.extract_eq_take_drop]
          simp [List.drop_take]
        have hsz : (s.extract 1 (s.data.toList.length - 1)).size = s.data.toList.length - 1 - 1 := by rw [qsize_len, e]; simp
        have := unq_l0 (s.extract 1 (s.data.toList.length - 1)) (by omega) (s.extract 1 (s.data.toList.length - 1)).size 0 k [] (by omega) (by omega) (by simp)
        rw [e] at this
        exact this
      · rw [if_pos (by rw [bne_iff_ne]; exact hB), if_neg (by rintro ⟨_, _, h⟩; exact hB ((key _).mpr h))]
    · rw [if_neg hA, if_neg (by rintro ⟨_, h, _⟩; exact hA ((key _).mpr h))]
      simp [change_Unquote.j0]
theorem unqV_quo (l : List UInt8) : unqV (quo l) = (⟨l.toArray⟩, true) := by
  unfold unqV quo
  have h1 : (34 :: (quoB l ++ [34]) : List UInt8).getLast? = some 34 := by
    rw [← List.cons_append, List.getLast?_append]; simp
  rw [if_pos ⟨by simp, by simp, h1⟩]
  have e : ((34 :: (quoB l ++ [34]) : List UInt8).take ((34 :: (quoB l ++ [34]) : List UInt8).length - 1)).drop 1 = quoB l := by
    simp
  rw [e, unq_quo]
  simp [unqOut]

/-! words between blanks -/
def spb : List UInt8 → Option (List UInt8 × List UInt8)
  | [] => none
  | x :: l => if x = 32 then some ([], l) else (spb l).map fun p => (x :: p.1, p.2)
theorem cut_spb : ∀ l : List UInt8, Lib.cut l [32] = match spb l with | some (a, b) => (a, b, true) | none => (l, [], false)
  | [] => by simp [Lib.cut, Lib.index, spb]
  | x :: l => by
    have ih := cut_spb l
    have hg := Lib.index_ge l [32]
    unfold Lib.cut at ih ⊢
    by_cases hx : x = 32
    · subst hx
      simp [Lib.index, spb]
    · have hp : List.isPrefixOf [32] (x :: l) = false := by simp [List.isPrefixOf, Ne.symm hx]
      simp only [Lib.index, hp, Bool.false_eq_true, if_false, spb, if_neg hx]
      by_cases hi : 0 ≤ Lib.index l [32]
      · rw [if_pos hi] at ih
        have h1 : (Lib.index l [32] == -1) = false := by simp; omega
        simp only [h1, Bool.false_eq_true, if_false]
        rw [if_pos (by omega)]
        rcases hs : spb l with _ | ⟨a, b⟩
        · rw [hs] at ih; simp at ih
        · rw [hs] at ih
          simp only [Prod.mk.injEq] at ih
          obtain ⟨ha, hb, _⟩ := ih
          simp only [Option.map_some, Prod.mk.injEq]
          rw [show (Lib.index l [32] + 1).toNat = (Lib.index l [32]).toNat + 1 from by omega]
          refine ⟨by rw [List.take_succ_cons, ha], ?_, trivial⟩
          rw [Nat.add_right_comm, List.drop_succ_cons, ← hb]
      · rw [if_neg hi] at ih
        have h1 : (Lib.index l [32] == -1) = true := by simp; omega
        simp only [h1, if_true]
        rw [if_neg (by omega)]
        rcases hs : spb l with _ | ⟨a, b⟩
        · rfl
        · rw [hs] at ih; simp at ih
/-- The next word, and what stands behind its blank. -/
def cutw (l : List UInt8) : List UInt8 × List UInt8 := match spb l with | some p => p | none => (l, [])
theorem cut_cutw (l : List UInt8) : (Lib.cut l [32]).1 = (cutw l).1 ∧ (Lib.cut l [32]).2.1 = (cutw l).2 := by
  rw [cut_spb]
  unfold cutw
  rcases spb l with _ | ⟨a, b⟩ <;> exact ⟨rfl, rfl⟩
def NB (w : List UInt8) : Prop := ∀ x ∈ w, x ≠ 32
theorem spb_word : ∀ (w r : List UInt8), NB w → spb (w ++ 32 :: r) = some (w, r)
  | [], r, h => by simp [spb]
  | x :: w, r, h => by
    have hx : x ≠ 32 := h x (by simp)
    simp only [List.cons_append, spb, if_neg hx, spb_word w r fun y hy => h y (by simp [hy]), Option.map_some]
theorem spb_last : ∀ (w : List UInt8), NB w → spb w = none
  | [], h => rfl
  | x :: w, h => by
    have hx : x ≠ 32 := h x (by simp)
    simp only [spb, if_neg hx, spb_last w fun y hy => h y (by simp [hy]), Option.map_none]
theorem cutw_word (w r : List UInt8) (h : NB w) : cutw (w ++ 32 :: r) = (w, r) := by unfold cutw; rw [spb_word w r h]
theorem cutw_last (w : List UInt8) (h : NB w) : cutw w = (w, []) := by unfold cutw; rw [spb_last w h]
theorem cutw_len (l : List UInt8) : (cutw l).1.length ≤ l.length ∧ (cutw l).2.length ≤ l.length := by
  have : ∀ l a b, spb l = some (a, b) → a.length ≤ l.length ∧ b.length ≤ l.length := by
    intro l
    induction l with
    | nil => intro a b h; cases h
    | cons x l ih =>
      intro a b h
      simp only [spb] at h
      split at h
      · simp only [Option.some.injEq, Prod.mk.injEq] at h
        obtain ⟨rfl, rfl⟩ := h
        simp
      · obtain ⟨⟨c, d⟩, hc, e⟩ := Option.map_eq_some_iff.mp h
        simp only [Prod.mk.injEq] at e
        obtain ⟨rfl, rfl⟩ := e
        have := ih c d hc
        simp; omega
  unfold cutw
  rcases hs : spb l with _ | ⟨a, b⟩
  · simp
  · exact this l a b hs
theorem isD_nb {x : UInt8} (h : isD x = true) : x ≠ 32 := by rintro rfl; revert h; decide
theorem res_nb : ∀ (l : List UInt8) (n v : Nat), res n l = some v → NB l
  | [], n, v, h => by intro x hx; cases hx
  | x :: l, n, v, h => by
    simp only [res] at h
    split at h
    · rename_i hx
      intro y hy
      rcases List.mem_cons.mp hy with rfl | hy
      · exact isD_nb hx
      · exact res_nb l _ v h y hy
    · cases h
theorem dec_nb (n : Nat) : NB (Lib.decDigits n) := res_nb _ 0 n (dec_res n)
theorem nb_app {a b : List UInt8} (ha : NB a) (hb : NB b) : NB (a ++ b) := by
  intro x hx
  rcases List.mem_append.mp hx with h | h
  · exact ha x h
  · exact hb x h
theorem nb_cons {x : UInt8} {b : List UInt8} (ha : x ≠ 32) (hb : NB b) : NB (x :: b) := by
  intro y hy
  rcases List.mem_cons.mp hy with rfl | h
  · exact ha
  · exact hb y h
theorem joinb (x y : List UInt8) (r : List (List UInt8)) : Lib.join (x :: y :: r) [32] = x ++ 32 :: Lib.join (y :: r) [32] := by
  rw [Lib.join_cons, Lib.join_cons]
  simp [Lib.joinTail]
theorem decFrom_res : ∀ (l : List UInt8) (n : Nat), Lib.decFrom n l = res n l
  | [], n => rfl
  | x :: l, n => by
    by_cases h : 48 ≤ x.toNat ∧ x.toNat ≤ 57
    · have hx : isD x = true := by unfold isD; simp [h.1, h.2]
      simp only [Lib.decFrom, Lib.digitVal, if_pos h, res, hx, if_true]
      rw [decFrom_res l, Nat.mul_comm]
    · have hx : isD x = false := by unfold isD; simp; omega
      simp only [Lib.decFrom, Lib.digitVal, if_neg h, res, hx, Bool.false_eq_true, if_false]
theorem atoi_dec (n : Nat) (h : n < 10 ^ 18) : Lib.atoiAll (Lib.decDigits n) = Lib.NumEnd.ok (n : Int) := by
  have hl := dec_length 18 n (by omega) h
  rw [Lib.atoiAll_short _ hl]
  have hr := dec_res n
  rcases hd : Lib.decDigits n with _ | ⟨x, l⟩
  · exact absurd hd (dec_ne n)
  · rw [hd] at hr
    have hx : isD x = true := by
      simp only [res] at hr
      split at hr
      · assumption
      · cases hr
    have h1 : x ≠ 45 := by rintro rfl; revert hx; decide
    have h2 : x ≠ 43 := by rintro rfl; revert hx; decide
    simp only [Lib.atoi, beq_iff_eq, h1, h2, if_false, Lib.decNat, List.isEmpty_cons, Bool.false_eq_true, decFrom_res, hr, Option.map_some, Lib.NumEnd.ofOption]

/-! the words of a change's text -/
def stT (a b : Int) : List UInt8 := (text a b).1
def aft (a b : Int) : List UInt8 := if a = 0 ∧ b = 0 then [45] else stT a b
def kw (kd : Int) : List UInt8 := if kd = 1 then [99, 114, 101, 97, 116, 101] else if kd = 2 then [109, 111, 118, 101] else if kd = 3 then [115, 101, 116] else if kd = 4 then [99, 108, 101, 97, 114] else [116, 101, 120, 116]
theorem stT_nb (a b : Int) : NB (stT a b) := by
  unfold stT text
  split
  · exact nb_app (dec_nb _) (nb_cons (by decide) (dec_nb _))
  · split
    · show NB [114, 111, 111, 116]
      unfold NB; decide
    · split
      · show NB [116, 114, 97, 115, 104]
        unfold NB; decide
      · intro x hx; cases hx
theorem aft_nb (a b : Int) : NB (aft a b) := by
  unfold aft
  split
  · unfold NB; decide
  · exact stT_nb a b
theorem kw_nb (kd : Int) : NB (kw kd) := by
  unfold kw
  repeat' split
  all_goals (unfold NB; decide)
theorem jn_nb : ∀ t : List Int, NB (jn t)
  | [] => by intro x hx; simp [jn, Lib.join_nil] at hx
  | [x] => by rw [jn_one]; exact dec_nb _
  | x :: y :: r => by
    have e : jn (x :: y :: r) = dg x ++ 44 :: jn (y :: r) := by
      unfold jn
      rw [List.map_cons, List.map_cons, Lib.join_cons, Lib.join_cons]
      simp [Lib.joinTail]
    rw [e]
    exact nb_app (dec_nb _) (nb_cons (by decide) (jn_nb _))
theorem txt_nb (t : List Int) : NB (txt t).data.toList := by
  unfold txt
  split
  · show NB [45]
    unfold NB; decide
  · exact jn_nb t
/-- What stands behind the clock, word by word. -/
def tail (kd n1 n2 p1 p2 q1 q2 : Int) (nm vl : List UInt8) : List (List UInt8) := (if kd = 1 then [] else [stT n1 n2]) ++ ((if kd = 1 ∨ kd = 2 then [stT p1 p2, aft q1 q2] else []) ++ ((if nm = [] then [] else [nm]) ++ (if kd = 3 ∨ kd = 5 then [quo vl] else [])))
/-- A change's text. -/
def textL (a b s : Int) (ck : List UInt8) (kd n1 n2 p1 p2 q1 q2 : Int) (nm vl : List UInt8) : List UInt8 := Lib.join ([kw kd, stT a b, dg s, ck] ++ tail kd n1 n2 p1 p2 q1 q2 nm vl) [32]
/-- The stamp of a word; is it none? -/
def rdS (none_ : Bool) (w : List UInt8) : Int × Int × Bool := if none_ && decide (w = [45]) then (0, 0, false) else ((parse w).1, (parse w).2.1, decide ((parse w).2.2 ≠ 0))
theorem rdS_st (nn : Bool) (a b : Int) (h : (text a b).2 = 0) (hh : nn = true → isR a b = true) : rdS nn (stT a b) = (a, b, false) := by
  unfold rdS
  have : (nn && decide (stT a b = [45])) = false := by
    cases nn with
    | false => rfl
    | true =>
      have hR := hh rfl
      obtain ⟨x, l, hx, hd⟩ := textOf_head a.toNat b.toNat
      simp only [Bool.true_and, decide_eq_false_iff_not]
      unfold stT text
      rw [if_pos hR, hx]
      rintro e
      simp only [List.cons.injEq] at e
      rw [e.1] at hd
      exact absurd hd (by decide)
  rw [this]
  unfold stT
  rw [parse_of_text a b h]
  rfl
theorem rdS_aft (a b : Int) (h : (a = 0 ∧ b = 0) ∨ isR a b = true) : rdS true (aft a b) = (a, b, false) := by
  unfold aft
  by_cases h0 : a = 0 ∧ b = 0
  · rw [if_pos h0]; obtain ⟨rfl, rfl⟩ := h0; rfl
  · rw [if_neg h0]
    have hR := h.resolve_left h0
    exact rdS_st true a b (by unfold text; rw [if_pos hR]) fun _ => hR
theorem tail_1 {n1 n2 p1 p2 q1 q2 : Int} {nm vl : List UInt8} (h : nm ≠ []) : Lib.join (tail 1 n1 n2 p1 p2 q1 q2 nm vl) [32] = stT p1 p2 ++ 32 :: (aft q1 q2 ++ 32 :: nm) := by
  simp [tail, h, joinb, Lib.join_one]
theorem tail_2 {n1 n2 p1 p2 q1 q2 : Int} {vl : List UInt8} : Lib.join (tail 2 n1 n2 p1 p2 q1 q2 [] vl) [32] = stT n1 n2 ++ 32 :: (stT p1 p2 ++ 32 :: aft q1 q2) := by
  simp [tail, joinb, Lib.join_one]
theorem tail_3 {n1 n2 p1 p2 q1 q2 : Int} {nm vl : List UInt8} (h : nm ≠ []) : Lib.join (tail 3 n1 n2 p1 p2 q1 q2 nm vl) [32] = stT n1 n2 ++ 32 :: (nm ++ 32 :: quo vl) := by
  simp [tail, h, joinb, Lib.join_one]
theorem tail_4 {n1 n2 p1 p2 q1 q2 : Int} {nm vl : List UInt8} (h : nm ≠ []) : Lib.join (tail 4 n1 n2 p1 p2 q1 q2 nm vl) [32] = stT n1 n2 ++ 32 :: nm := by
  simp [tail, h, joinb, Lib.join_one]
theorem tail_5 {n1 n2 p1 p2 q1 q2 : Int} {vl : List UInt8} : Lib.join (tail 5 n1 n2 p1 p2 q1 q2 [] vl) [32] = stT n1 n2 ++ 32 :: quo vl := by
  simp [tail, joinb, Lib.join_one]
theorem tail_ne (kd n1 n2 p1 p2 q1 q2 : Int) (nm vl : List UInt8) : tail kd n1 n2 p1 p2 q1 q2 nm vl ≠ [] := by
  unfold tail
  by_cases h : kd = 1 <;> simp [h]
theorem text_words (a b s : Int) (ck : List UInt8) (kd n1 n2 p1 p2 q1 q2 : Int) (nm vl : List UInt8) : textL a b s ck kd n1 n2 p1 p2 q1 q2 nm vl = kw kd ++ 32 :: (stT a b ++ 32 :: (dg s ++ 32 :: (ck ++ 32 :: Lib.join (tail kd n1 n2 p1 p2 q1 q2 nm vl) [32]))) := by
  unfold textL
  rcases ht : tail kd n1 n2 p1 p2 q1 q2 nm vl with _ | ⟨y, r⟩
  · exact absurd ht (tail_ne kd n1 n2 p1 p2 q1 q2 nm vl)
  · simp only [List.cons_append, List.nil_append, joinb]
theorem join_le (ws : List (List UInt8)) : (Lib.join ws [32]).length ≤ ws.length + Lib.lens ws := by
  rcases ws with _ | ⟨x, r⟩
  · simp [Lib.join_nil]
  · rw [Lib.join_cons, List.length_append, Lib.joinTail_length]
    simp only [Lib.lens, List.map_cons, List.sum_cons, List.length_cons, List.length_nil]
    omega
theorem lens_app (a b : List (List UInt8)) : Lib.lens (a ++ b) = Lib.lens a + Lib.lens b := by simp [Lib.lens]
theorem aft_size (a b : Int) : (aft a b).length ≤ 40 := by
  unfold aft
  split
  · decide
  · exact text_size a b
theorem kw_size (kd : Int) : (kw kd).length ≤ 6 := by
  unfold kw
  repeat' split
  all_goals decide
theorem textL_len (a b s : Int) (ck : List UInt8) (kd n1 n2 p1 p2 q1 q2 : Int) (nm vl : List UInt8) (hs : s ≤ 1099511627776) (hc : ck.length ≤ 896) (hn : nm.length ≤ 32) (hv : (quo vl).length ≤ 770) : (textL a b s ck kd n1 n2 p1 p2 q1 q2 nm vl).length ≤ 2048 := by
  unfold textL
  refine Nat.le_trans (join_le _) ?_
  have h1 := kw_size kd
  have h2 : (stT a b).length ≤ 40 := text_size a b
  have h3 := dg_le hs
  have h4 : (stT n1 n2).length ≤ 40 := text_size n1 n2
  have h5 : (stT p1 p2).length ≤ 40 := text_size p1 p2
  have h6 := aft_size q1 q2
  have l0 : Lib.lens [kw kd, stT a b, dg s, ck] ≤ 955 := by simp [Lib.lens]; omega
  have l1 : (tail kd n1 n2 p1 p2 q1 q2 nm vl).length ≤ 5 ∧ Lib.lens (tail kd n1 n2 p1 p2 q1 q2 nm vl) ≤ 922 := by
    unfold tail
    simp only [lens_app, List.length_append]
    have a1 : (if kd = 1 then [] else [stT n1 n2]).length ≤ 1 ∧ Lib.lens (if kd = 1 then [] else [stT n1 n2]) ≤ 40 := by split <;> simp [Lib.lens] <;> omega
    have a2 : (if kd = 1 ∨ kd = 2 then [stT p1 p2, aft q1 q2] else []).length ≤ 2 ∧ Lib.lens (if kd = 1 ∨ kd = 2 then [stT p1 p2, aft q1 q2] else []) ≤ 80 := by split <;> simp [Lib.lens] <;> omega
    have a3 : (if nm = [] then [] else [nm]).length ≤ 1 ∧ Lib.lens (if nm = [] then [] else [nm]) ≤ 32 := by split <;> simp [Lib.lens] <;> omega
    have a4 : (if kd = 3 ∨ kd = 5 then [quo vl] else []).length ≤ 1 ∧ Lib.lens (if kd = 3 ∨ kd = 5 then [quo vl] else []) ≤ 770 := by split <;> simp [Lib.lens] <;> omega
    omega
  rw [List.length_append, lens_app]
  simp only [List.length_cons, List.length_nil]
  omega

/-! names -/
def lc (x : UInt8) : Bool := decide (97 ≤ x.toNat) && decide (x.toNat ≤ 122)
def nmc (x : UInt8) : Bool := lc x || (decide (48 ≤ x.toNat) && decide (x.toNat ≤ 57)) || decide (x.toNat = 45)
def nameB (l : List UInt8) : Bool := decide (l ≠ []) && (decide (l.length ≤ 32) && (l.head?.any lc && l.all nmc))
theorem nmc_nb {x : UInt8} (h : nmc x = true) : x ≠ 32 := by rintro rfl; revert h; decide
theorem nameB_spec {l : List UInt8} (h : nameB l = true) : l ≠ [] ∧ l.length ≤ 32 ∧ NB l := by
  unfold nameB at h
  simp only [Bool.and_eq_true, decide_eq_true_eq, List.all_eq_true] at h
  exact ⟨h.1, h.2.1, fun x hx => nmc_nb (h.2.2.2 x hx)⟩
theorem trim_self {ds : List Int} (h : ∀ a r, ds = r ++ [a] → a ≠ 0) : trim ds = ds := (trim_eq ⟨⟨0, by simp⟩, h⟩).symm
theorem txt_len {t : List Int} (hl : t.length ≤ 64) (hf : Fits t) : (txt t).data.toList.length ≤ 896 := by
  unfold txt
  split
  · show [(45 : UInt8)].length ≤ 896
    decide
  · have := jn_le t hf
    show (jn t).length ≤ 896
    omega

/-! may a change be? -/
def lessB (a b c d : Int) : Bool := decide (a < c ∨ (a = c ∧ b < d))
theorem less_f (a b c d : Int) : ident_Less.f a b c d = some (lessB a b c d) := by
  unfold ident_Less.f ident_Compare.f lessB
  by_cases h1 : a = c
  · subst h1
    by_cases h2 : b = d
    · subst h2; simp
    · by_cases h3 : b < d <;> simp [h2, h3]
  · by_cases h3 : a < c <;> simp [h1, h3]
def ndB (a b : Int) : Bool := isR a b || decide (a = 0 ∧ (b = 0 ∨ b = 1))
theorem node_ident_f (a b : Int) : ident_Node.f a b = some (ndB a b) := by
  unfold ident_Node.f ndB
  rw [right_f]
  simp only [Option.bind_some]
  by_cases h : isR a b = true
  · rw [if_pos h, h]; rfl
  · rw [if_neg h]
    have hf : isR a b = false := by simpa using h
    rw [hf]
    by_cases h1 : a = 0 <;> by_cases h2 : b = 0 <;> by_cases h3 : b = 1 <;> simp [h1, h2, h3]
def atV (ds : List Int) (i : Int) : Int := if 0 ≤ i ∧ i < ds.length then rd ds i else 0
def depsV (ds : List Int) (b s : Int) : Int := if chk ds = 0 then (if ds.getLast? = some 0 then 2 else if atV ds b = wrap64 (s - 1) then 0 else 2) else chk ds
theorem at_f (ds : List Int) (i : Int) : clock_At.f ds i = some (atV ds i) := pAt ds i
theorem last_rd (ds : List Int) (h : 0 < ds.length) : ds.getLast? = some (rd ds ((ds.length - 1 : Nat) : Int)) := by
  rw [rd_get _ _ (by omega), List.getLast?_eq_getElem?, List.getElem?_eq_getElem]
theorem deps_f (a b s : Int) (ds : List Int) (kd n1 n2 p1 p2 q1 q2 : Int) (nm vl : ByteArray) (hn : ds.length ≤ 17592186043904) : Ev (fun k => change_deps.f k a b s ds kd n1 n2 p1 p2 q1 q2 nm vl) (depsV ds b s) := by
  unfold change_deps.f depsV
  refine Ev.bind (pCheck ds hn) ?_
  by_cases hc : chk ds = 0
  · rw [if_pos hc]
    simp only [hc, if_true, at_f, Option.bind_some]
    generalize atV ds b = v
    by_cases h0 : ds.length = 0
    · have e : ds = [] := List.eq_nil_of_length_eq_zero h0
      subst e
      have e1 : ¬ ((([] : List Int).length : Int) > 0) := by simp
      have e2 : ¬ (([] : List Int).getLast? = some 0) := by simp
      rw [if_neg e1, if_neg e2]
      split <;> exact Ev.now _
    · have hw : wrap64 ((ds.length : Int) - 1) = ((ds.length - 1 : Nat) : Int) := by unfold wrap64; omega
      rw [if_pos (by omega), hw, if_pos (by omega), if_pos (by omega), last_rd ds (by omega)]
      by_cases h1 : rd ds ((ds.length - 1 : Nat) : Int) = 0
      · rw [if_pos h1, if_pos (show some (rd ds ((ds.length - 1 : Nat) : Int)) = some 0 from by rw [h1])]; exact Ev.now _
      · rw [if_neg h1, if_neg (show ¬ (some (rd ds ((ds.length - 1 : Nat) : Int)) = some 0) from fun e => h1 (Option.some.inj e))]
        split <;> exact Ev.now _
  · simp only [hc, if_false]; exact Ev.now _
def nodeV (a b kd n1 n2 : Int) : Bool := if kd = 1 then decide (n1 = a ∧ n2 = b) else if kd = 2 then isR n1 n2 && lessB n1 n2 a b else decide (n1 = 0 ∧ n2 = 0) || (isR n1 n2 && lessB n1 n2 a b)
theorem node_f (a b s : Int) (ds : List Int) (kd n1 n2 p1 p2 q1 q2 : Int) (nm vl : ByteArray) : change_node.f a b s ds kd n1 n2 p1 p2 q1 q2 nm vl = some (nodeV a b kd n1 n2) := by
  unfold change_node.f nodeV
  simp only [right_f, less_f, Option.bind_some, beq2]
  split
  · rfl
  · split
    · cases isR n1 n2 <;> rfl
    · by_cases hz : n1 = 0 ∧ n2 = 0
      · simp [hz]
      · simp only [hz, decide_false, Bool.false_eq_true, if_false, Bool.false_or]
        cases isR n1 n2 <;> rfl
def placeV (a b kd n1 n2 p1 p2 q1 q2 : Int) : Bool := if kd = 1 ∨ kd = 2 then (ndB p1 p2 && lessB p1 p2 a b && !decide (p1 = n1 ∧ p2 = n2)) && (decide (q1 = 0 ∧ q2 = 0) || (isR q1 q2 && lessB q1 q2 a b)) else decide (p1 = 0 ∧ p2 = 0) && decide (q1 = 0 ∧ q2 = 0)
theorem place_j1 (k : Nat) (x : Bool) (a b s : Int) (ds : List Int) (kd n1 n2 p1 p2 q1 q2 : Int) (nm vl : ByteArray) : change_place.j1 (k + 1) x a b s ds kd n1 n2 p1 p2 q1 q2 nm vl = some (!x && (decide (q1 = 0 ∧ q2 = 0) || (isR q1 q2 && lessB q1 q2 a b))) := by
  unfold change_place.j1
  simp only [right_f, less_f, Option.bind_some, beq2]
  cases x with
  | true => rfl
  | false =>
    simp only [Bool.false_eq_true, if_false, Bool.not_false, Bool.true_and]
    by_cases hz : q1 = 0 ∧ q2 = 0
    · simp [hz]
    · simp only [hz, decide_false, Bool.false_eq_true, if_false, Bool.false_or]
      cases isR q1 q2 <;> rfl
theorem place_f (k : Nat) (a b s : Int) (ds : List Int) (kd n1 n2 p1 p2 q1 q2 : Int) (nm vl : ByteArray) : change_place.f (k + 2) a b s ds kd n1 n2 p1 p2 q1 q2 nm vl = some (placeV a b kd n1 n2 p1 p2 q1 q2) := by
  have hj : ∀ x : Bool, change_place.j0 (k + 2) x a b s ds kd n1 n2 p1 p2 q1 q2 nm vl = some (if x = false then (ndB p1 p2 && lessB p1 p2 a b && !decide (p1 = n1 ∧ p2 = n2)) && (decide (q1 = 0 ∧ q2 = 0) || (isR q1 q2 && lessB q1 q2 a b)) else decide (p1 = 0 ∧ p2 = 0) && decide (q1 = 0 ∧ q2 = 0)) := by
    intro x
    unfold change_place.j0
    simp only [node_ident_f, less_f, Option.bind_some, beq2, place_j1]
    cases x with
    | true =>
      simp only [if_true, Bool.true_eq_false, if_false]
      by_cases hz : p1 = 0 ∧ p2 = 0
      · simp only [hz, and_self, decide_true, if_true, Bool.true_and]
      · simp only [hz, decide_false, Bool.false_eq_true, if_false, Bool.false_and]
    | false =>
      simp only [Bool.false_eq_true, if_false, if_true]
      cases ndB p1 p2 <;> cases lessB p1 p2 a b <;> simp
  unfold change_place.f placeV
  rw [hj, hj]
  by_cases h1 : kd = 1
  · simp [h1]
  · by_cases h2 : kd = 2
    · subst h2; simp
    · have hb : (kd != 2) = true := by rw [bne_iff_ne]; exact h2
      rw [if_neg h1, hb, if_neg (show ¬ (kd = 1 ∨ kd = 2) from by simp [h1, h2]), if_neg (show ¬ (true = false) from by simp)]
theorem name_l0 (s : ByteArray) (hs : s.size ≤ 32) : ∀ (d i k : Nat), i + d = s.size → d < k → change_Name.l0 k s (s.size : Int) (i : Int) = some ((s.data.toList.drop i).all nmc)
  | d, i, 0, hi, hk => by omega
  | 0, i, k + 1, hi, hk => by
    simp only [change_Name.l0]
    rw [if_neg (by omega), List.drop_eq_nil_of_le (by rw [← qsize_len]; omega)]
    rfl
  | d + 1, i, k + 1, hi, hk => by
    have hl : i < s.data.toList.length := by rw [← qsize_len]; omega
    have hw : wrap64 ((i : Int) + 1) = ((i + 1 : Nat) : Int) := by unfold wrap64; omega
    have ih := name_l0 s hs d (i + 1) k (by omega) (by omega)
    simp only [change_Name.l0]
    rw [if_pos (by omega), if_pos (by omega), if_pos (by omega), qbt s i hl, hw, ih, List.drop_eq_getElem_cons hl, List.all_cons]
    generalize (List.drop (i + 1) s.data.toList).all nmc = r
    generalize s.data.toList[i] = x
    unfold nmc lc
    by_cases h1 : (x.toNat : Int) < 97
    · rw [if_pos h1]
      by_cases h2 : (x.toNat : Int) < 48
      · rw [if_pos h2]
        by_cases h3 : (x.toNat : Int) = 45
        · have h3' : x.toNat = 45 := by omega
          rw [if_pos h3]; simp [h3']
        · rw [if_neg h3]
          have a1 : ¬ 97 ≤ x.toNat := by omega
          have a2 : ¬ 48 ≤ x.toNat := by omega
          have a3 : ¬ x.toNat = 45 := by omega
          simp [a1, a2, a3]
      · rw [if_neg h2]
        by_cases h4 : (x.toNat : Int) > 57
        · rw [if_pos h4, if_neg (by omega)]
          have a1 : ¬ 97 ≤ x.toNat := by omega
          have a2 : ¬ x.toNat ≤ 57 := by omega
          have a3 : ¬ x.toNat = 45 := by omega
          simp [a1, a2, a3]
        · rw [if_neg h4]
          have a2 : 48 ≤ x.toNat := by omega
          have a3 : x.toNat ≤ 57 := by omega
          simp [a2, a3]
    · rw [if_neg h1]
      by_cases h2 : (x.toNat : Int) > 122
      · rw [if_pos h2, if_neg (by omega), if_pos (by omega), if_neg (by omega)]
        have a1 : ¬ x.toNat ≤ 122 := by omega
        have a2 : ¬ x.toNat ≤ 57 := by omega
        have a3 : ¬ x.toNat = 45 := by omega
        simp [a1, a2, a3]
      · rw [if_neg h2]
        have a1 : 97 ≤ x.toNat := by omega
        have a2 : x.toNat ≤ 122 := by omega
        simp [a1, a2]
theorem name_f (s : ByteArray) (k : Nat) : change_Name.f (k + 40) s = some (nameB s.data.toList) := by
  unfold change_Name.f nameB
  have hz : s.size = s.data.toList.length := rfl
  by_cases h0 : s.size = 0
  · have e : s.data.toList = [] := List.eq_nil_of_length_eq_zero (by omega)
    rw [if_pos (by omega), e]
    simp [change_Name.j0]
  · rw [if_neg (by omega)]
    have hne : s.data.toList ≠ [] := fun e => h0 (by rw [hz, e]; rfl)
    by_cases h1 : s.size > 32
    · rw [if_pos (by omega)]
      have : ¬ s.data.toList.length ≤ 32 := by omega
      rw [decide_eq_false this, Bool.false_and, Bool.and_false]
      simp only [change_Name.j0, if_true]
    · have hl : 0 < s.data.toList.length := by omega
      have hh : s.data.toList.head? = some s.data.toList[0] := List.head?_eq_getElem? ▸ List.getElem?_eq_getElem hl
      have hb : bt s 0 = ((s.data.toList[0]).toNat : Int) := by simpa using qbt s 0 hl
      have hrun : change_Name.l0 (k + 39) s (s.size : Int) 0 = some (s.data.toList.all nmc) := by
        have := name_l0 s (by omega) s.size 0 (k + 39) (by omega) (by omega)
        simpa using this
      have hle : s.data.toList.length ≤ 32 := by omega
      rw [if_neg (by omega), if_pos (by omega), hb, hh]
      simp only [Option.any_some, hne, hle, ne_eq, not_false_eq_true, decide_true, Bool.true_and]
      generalize s.data.toList[0] = x
      unfold lc
      by_cases h2 : (x.toNat : Int) < 97
      · rw [if_pos h2]
        have a1 : ¬ 97 ≤ x.toNat := by omega
        simp [change_Name.j0, a1]
      · rw [if_neg h2]
        have a1 : 97 ≤ x.toNat := by omega
        by_cases h3 : (x.toNat : Int) > 122
        · have a2 : ¬ x.toNat ≤ 122 := by omega
          rw [decide_eq_true h3]
          simp [change_Name.j0, a2]
        · have a2 : x.toNat ≤ 122 := by omega
          rw [decide_eq_false h3]
          simp only [change_Name.j0, Bool.false_eq_true, if_false]
          rw [hrun]
          simp [a1, a2]
def named (kd : Int) : Bool := decide (kd = 1 ∨ kd = 3 ∨ kd = 4)
def valued (kd : Int) : Bool := decide (kd = 3 ∨ kd = 5)
def wordsV (kd : Int) (nm vl : List UInt8) : Int := if (if named kd = true then nameB nm else decide (nm = [])) = true then (if vl.length > 256 then 3 else if valued kd = true then 0 else if vl = [] then 0 else 2) else 8
theorem isE {l : List UInt8} : (!l.isEmpty) = !decide (l = []) := by cases l <;> simp
theorem words_ok (kd : Int) (nm vl : ByteArray) (k : Nat) : words_f (k + 40) kd nm vl = some (wordsV kd nm.data.toList vl.data.toList) := by
  unfold words_f words_bad wordsV words_rest named valued
  have hz : vl.size = vl.data.toList.length := rfl
  simp only [name_f, Option.bind_some, isE, ByteArray.toList_eq, hz]
  have hr : (if ((vl.data.toList.length : Nat) : Int) > 256 then (3 : Int) else if kd = 3 ∨ kd = 5 then 0 else if (!decide (vl.data.toList = [])) = true then 2 else 0) = (if vl.data.toList.length > 256 then 3 else if decide (kd = 3 ∨ kd = 5) = true then 0 else if vl.data.toList = [] then 0 else 2) := by
    simp only [decide_eq_true_eq, Bool.not_eq_true', decide_eq_false_iff_not]
    by_cases h1 : vl.data.toList.length > 256
    · rw [if_pos (by omega), if_pos h1]
    · rw [if_neg (by omega), if_neg h1]
      by_cases h2 : kd = 3 ∨ kd = 5
      · rw [if_pos h2, if_pos h2]
      · rw [if_neg h2, if_neg h2]
        by_cases h3 : vl.data.toList = [] <;> simp [h3]
  rw [hr]
  by_cases hk : kd = 1 ∨ kd = 3 ∨ kd = 4
  · simp only [hk, if_true, decide_true, Option.bind_some]
    cases nameB nm.data.toList <;> rfl
  · simp only [hk, if_false, decide_false, Bool.false_eq_true, Option.bind_some]
    by_cases he : nm.data.toList = [] <;> simp [he]
/-- Why a change may not be. -/
def checkV (a b s : Int) (ds : List Int) (kd n1 n2 p1 p2 q1 q2 : Int) (nm vl : List UInt8) : Int := if kd < 1 ∨ kd > 5 then 1 else if isR a b = true then (if s < 1 ∨ s > a then 1 else if depsV ds b s = 0 then (if nodeV a b kd n1 n2 = true then (if placeV a b kd n1 n2 p1 p2 q1 q2 = true then wordsV kd nm vl else 2) else 2) else depsV ds b s) else 2
theorem check_f (a b s : Int) (ds : List Int) (kd n1 n2 p1 p2 q1 q2 : Int) (nm vl : ByteArray) (hn : ds.length ≤ 17592186043904) : Ev (fun k => change_Check.f k a b s ds kd n1 n2 p1 p2 q1 q2 nm vl) (checkV a b s ds kd n1 n2 p1 p2 q1 q2 nm.data.toList vl.data.toList) := by
  have hj : ∀ x : Bool, Ev (fun k => change_Check.j0 k x a b s ds kd n1 n2 p1 p2 q1 q2 nm vl) (if x = true then 1 else if isR a b = true then (if s < 1 ∨ s > a then 1 else if depsV ds b s = 0 then (if nodeV a b kd n1 n2 = true then (if placeV a b kd n1 n2 p1 p2 q1 q2 = true then wordsV kd nm.data.toList vl.data.toList else 2) else 2) else depsV ds b s) else 2) := by
    intro x
    refine Ev.step (fun k => by unfold change_Check.j0; rfl) ?_
    cases x with
    | true => exact Ev.now _
    | false =>
      simp only [Bool.false_eq_true, if_false, right_f, Option.bind_some, node_f]
      by_cases hR : isR a b = true
      · simp only [hR, if_true]
        by_cases h1 : s < 1
        · simp only [h1, if_true, true_or]; exact Ev.now _
        · by_cases h2 : s > a
          · simp only [h1, if_false, h2, if_true, or_true]; exact Ev.now _
          · simp only [h1, if_false, h2, or_self]
            refine Ev.bind (deps_f a b s ds kd n1 n2 p1 p2 q1 q2 nm vl hn) ?_
            by_cases h3 : depsV ds b s = 0
            · simp only [h3, if_true]
              by_cases h4 : nodeV a b kd n1 n2 = true
              · simp only [h4, if_true]
                refine Ev.bind ⟨2, fun k hk => by obtain ⟨k, rfl⟩ : ∃ m, k = m + 2 := ⟨k - 2, by omega⟩; exact place_f k a b s ds kd n1 n2 p1 p2 q1 q2 nm vl⟩ ?_
                by_cases h5 : placeV a b kd n1 n2 p1 p2 q1 q2 = true
                · simp only [h5, if_true]
                  refine Ev.bind ⟨40, fun k hk => by obtain ⟨k, rfl⟩ : ∃ m, k = m + 40 := ⟨k - 40, by omega⟩; exact words_ok kd nm vl k⟩ ?_
                  exact Ev.now _
                · simp only [h5]; exact Ev.now _
              · simp only [h4]; exact Ev.now _
            · simp only [h3, if_false]; exact Ev.now _
      · simp only [hR]; exact Ev.now _
  unfold change_Check.f checkV
  by_cases h1 : kd < 1
  · simp only [h1, if_true, true_or]
    exact hj true
  · simp only [h1, if_false, false_or]
    have := hj (decide (kd > 5))
    simp only [decide_eq_true_eq] at this
    exact this

/-! a change's text -/
theorem word_f (kd : Int) : change_word.f kd = some ⟨(kw kd).toArray⟩ := by
  unfold change_word.f kw
  repeat' split
  all_goals rfl
theorem stamp_f (a b : Int) : change_stamp.f a b false = some ⟨(stT a b).toArray⟩ := by
  unfold change_stamp.f
  rw [if_neg Bool.false_ne_true, text_f]
  rfl
theorem stampN_f (a b : Int) : change_stamp.f a b true = some ⟨(aft a b).toArray⟩ := by
  unfold change_stamp.f aft
  rw [if_pos rfl, beq2, text_f]
  by_cases h : a = 0 ∧ b = 0
  · rw [if_pos (decide_eq_true h), if_pos h]
  · rw [if_neg (by simpa using h), if_neg h]
    rfl
def mp (L : List ByteArray) : List (List UInt8) := L.map (·.data.toList)
theorem mp_app (L M : List ByteArray) : mp (L ++ M) = mp L ++ mp M := by simp [mp]
theorem mp_len (L : List ByteArray) : (mp L).length = L.length := by simp [mp]
theorem join_f (L : List ByteArray) (hL : L.length ≤ 30) (hB : (Lib.join (mp L) [32]).length ≤ 1048576) : strings_Join.f L (⟨#[32]⟩ : ByteArray) = some ⟨(Lib.join (mp L) [32]).toArray⟩ := by
  unfold strings_Join.f
  rw [if_pos (by omega)]
  change (if (Lib.join (mp L) [32]).length ≤ 140737488355328 then some (⟨(Lib.join (mp L) [32]).toArray⟩ : ByteArray) else none) = _
  rw [if_pos (by omega)]
def t4 (kd : Int) (vl : List UInt8) : List (List UInt8) := if kd = 3 ∨ kd = 5 then [quo vl] else []
def t3 (kd : Int) (nm vl : List UInt8) : List (List UInt8) := (if nm = [] then [] else [nm]) ++ t4 kd vl
def t2 (kd p1 p2 q1 q2 : Int) (nm vl : List UInt8) : List (List UInt8) := (if kd = 1 ∨ kd = 2 then [stT p1 p2, aft q1 q2] else []) ++ t3 kd nm vl
theorem tail_t (kd n1 n2 p1 p2 q1 q2 : Int) (nm vl : List UInt8) : tail kd n1 n2 p1 p2 q1 q2 nm vl = (if kd = 1 then [] else [stT n1 n2]) ++ t2 kd p1 p2 q1 q2 nm vl := rfl
def bl (l : List UInt8) : ByteArray := ⟨l.toArray⟩
theorem text_j4 (L : List ByteArray) (x : Bool) (a b s : Int) (ds : List Int) (kd n1 n2 p1 p2 q1 q2 : Int) (nm vl : ByteArray) (hL : L.length ≤ 20) (hv : vl.size ≤ 1048576) (hx : x = decide (kd = 3 ∨ kd = 5)) (hB : (Lib.join (mp L ++ t4 kd vl.data.toList) [32]).length ≤ 1048576) : Ev (fun k => change_Text.j4 k L x a b s ds kd n1 n2 p1 p2 q1 q2 nm vl) (bl (Lib.join (mp L ++ t4 kd vl.data.toList) [32]), 0) := by
  refine Ev.step (fun k => by unfold change_Text.j4; rfl) ?_
  unfold t4 at hB ⊢
  by_cases h : kd = 3 ∨ kd = 5
  · rw [if_pos h] at hB ⊢
    rw [show x = true from by rw [hx]; exact decide_eq_true h]
    simp only [if_true]
    refine Ev.bind (quote_f vl hv) ?_
    rw [if_pos (by omega)]
    have e : mp (L ++ [⟨(quo vl.data.toList).toArray⟩]) = mp L ++ [quo vl.data.toList] := by rw [mp_app]; rfl
    rw [join_f _ (by simp; omega) (by rw [e]; exact hB), e]
    exact Ev.now _
  · rw [if_neg h, List.append_nil] at hB
    rw [if_neg h, List.append_nil, show x = false from by rw [hx]; exact decide_eq_false h]
    simp only [Bool.false_eq_true, if_false]
    rw [join_f _ (by omega) hB]
    exact Ev.now _
theorem text_j3 (L : List ByteArray) (a b s : Int) (ds : List Int) (kd n1 n2 p1 p2 q1 q2 : Int) (nm vl : ByteArray) (hL : L.length ≤ 20) (hv : vl.size ≤ 1048576) (hB : (Lib.join (mp L ++ t4 kd vl.data.toList) [32]).length ≤ 1048576) : Ev (fun k => change_Text.j3 k L a b s ds kd n1 n2 p1 p2 q1 q2 nm vl) (bl (Lib.join (mp L ++ t4 kd vl.data.toList) [32]), 0) := by
  refine Ev.step (fun k => by unfold change_Text.j3; rfl) ?_
  by_cases h : kd = 3
  · simp only [h, if_true]
    exact text_j4 L true a b s ds 3 n1 n2 p1 p2 q1 q2 nm vl hL hv (by simp) (h ▸ hB)
  · simp only [h, if_false]
    exact text_j4 L _ a b s ds kd n1 n2 p1 p2 q1 q2 nm vl hL hv (by simp [h]; rfl) hB
theorem text_j2 (L : List ByteArray) (a b s : Int) (ds : List Int) (kd n1 n2 p1 p2 q1 q2 : Int) (nm vl : ByteArray) (hL : L.length ≤ 19) (hv : vl.size ≤ 1048576) (hB : (Lib.join (mp L ++ t3 kd nm.data.toList vl.data.toList) [32]).length ≤ 1048576) : Ev (fun k => change_Text.j2 k L a b s ds kd n1 n2 p1 p2 q1 q2 nm vl) (bl (Lib.join (mp L ++ t3 kd nm.data.toList vl.data.toList) [32]), 0) := by
  refine Ev.step (fun k => by unfold change_Text.j2; rfl) ?_
  unfold t3 at hB ⊢
  simp only [ByteArray.toList_eq]
  by_cases h : nm.data.toList = []
  · rw [if_pos h, List.nil_append] at hB
    rw [if_pos h, List.nil_append]
    refine Ev.congr (fun k => if_pos h) ?_
    exact text_j3 L a b s ds kd n1 n2 p1 p2 q1 q2 nm vl (by omega) hv hB
  · rw [if_neg h] at hB
    have e : mp L ++ ([nm.data.toList] ++ t4 kd vl.data.toList) = mp (L ++ [nm]) ++ t4 kd vl.data.toList := by rw [mp_app, List.append_assoc]; rfl
    rw [e] at hB
    rw [if_neg h, e]
    refine Ev.congr (fun k => (if_neg h).trans (if_pos (by omega))) ?_
    exact text_j3 (L ++ [nm]) a b s ds kd n1 n2 p1 p2 q1 q2 nm vl (by simp; omega) hv hB
theorem text_j1 (L : List ByteArray) (x : Bool) (a b s : Int) (ds : List Int) (kd n1 n2 p1 p2 q1 q2 : Int) (nm vl : ByteArray) (hL : L.length ≤ 17) (hv : vl.size ≤ 1048576) (hx : x = decide (kd = 1 ∨ kd = 2)) (hB : (Lib.join (mp L ++ t2 kd p1 p2 q1 q2 nm.data.toList vl.data.toList) [32]).length ≤ 1048576) : Ev (fun k => change_Text.j1 k L x a b s ds kd n1 n2 p1 p2 q1 q2 nm vl) (bl (Lib.join (mp L ++ t2 kd p1 p2 q1 q2 nm.data.toList vl.data.toList) [32]), 0) := by
  refine Ev.step (fun k => by unfold change_Text.j1; rfl) ?_
  unfold t2 at hB ⊢
  by_cases h : kd = 1 ∨ kd = 2
  · rw [if_pos h] at hB ⊢
    have e : mp L ++ ([stT p1 p2, aft q1 q2] ++ t3 kd nm.data.toList vl.data.toList) = mp (L ++ [⟨(stT p1 p2).toArray⟩, ⟨(aft q1 q2).toArray⟩]) ++ t3 kd nm.data.toList vl.data.toList := by rw [mp_app, List.append_assoc]; rfl
    rw [e] at hB ⊢
    rw [show x = true from by rw [hx]; exact decide_eq_true h]
    simp only [if_true, stamp_f, stampN_f, Option.bind_some, List.length_cons, List.length_nil]
    refine Ev.congr (fun k => if_pos (by omega)) ?_
    exact text_j2 _ a b s ds kd n1 n2 p1 p2 q1 q2 nm vl (by simp; omega) hv hB
  · rw [if_neg h, List.nil_append] at hB
    rw [if_neg h, List.nil_append, show x = false from by rw [hx]; exact decide_eq_false h]
    simp only [Bool.false_eq_true, if_false]
    exact text_j2 L a b s ds kd n1 n2 p1 p2 q1 q2 nm vl (by omega) hv hB
theorem text_j0 (L : List ByteArray) (a b s : Int) (ds : List Int) (kd n1 n2 p1 p2 q1 q2 : Int) (nm vl : ByteArray) (hL : L.length ≤ 17) (hv : vl.size ≤ 1048576) (hB : (Lib.join (mp L ++ t2 kd p1 p2 q1 q2 nm.data.toList vl.data.toList) [32]).length ≤ 1048576) : Ev (fun k => change_Text.j0 k L a b s ds kd n1 n2 p1 p2 q1 q2 nm vl) (bl (Lib.join (mp L ++ t2 kd p1 p2 q1 q2 nm.data.toList vl.data.toList) [32]), 0) := by
  refine Ev.step (fun k => by unfold change_Text.j0; rfl) ?_
  by_cases h : kd = 1
  · simp only [h, if_true]
    exact text_j1 L true a b s ds 1 n1 n2 p1 p2 q1 q2 nm vl hL hv (by simp) (h ▸ hB)
  · simp only [h, if_false]
    exact text_j1 L _ a b s ds kd n1 n2 p1 p2 q1 q2 nm vl hL hv (by simp [h]; rfl) hB
/-! what a change that may be is -/
theorem check_ok {a b s : Int} {ds : List Int} {kd n1 n2 p1 p2 q1 q2 : Int} {nm vl : List UInt8} (h : checkV a b s ds kd n1 n2 p1 p2 q1 q2 nm vl = 0) : (1 ≤ kd ∧ kd ≤ 5) ∧ isR a b = true ∧ (1 ≤ s ∧ s ≤ a) ∧ depsV ds b s = 0 ∧ nodeV a b kd n1 n2 = true ∧ placeV a b kd n1 n2 p1 p2 q1 q2 = true ∧ wordsV kd nm vl = 0 := by
  unfold checkV at h
  split at h
  · cases h
  · split at h
    · split at h
      · cases h
      · split at h
        · split at h
          · split at h
            · exact ⟨by omega, by assumption, by omega, by assumption, by assumption, by assumption, h⟩
            · cases h
          · cases h
        · contradiction
    · cases h
theorem words_ok0 {kd : Int} {nm vl : List UInt8} (h : wordsV kd nm vl = 0) : (named kd = true → nameB nm = true) ∧ (named kd = false → nm = []) ∧ vl.length ≤ 256 ∧ (valued kd = false → vl = []) := by
  unfold wordsV at h
  by_cases hn : (if named kd = true then nameB nm else decide (nm = [])) = true
  · rw [if_pos hn] at h
    by_cases hl : vl.length > 256
    · rw [if_pos hl] at h; cases h
    · rw [if_neg hl] at h
      refine ⟨fun e => by rw [if_pos e] at hn; exact hn, fun e => by rw [e, if_neg Bool.false_ne_true] at hn; exact of_decide_eq_true hn, by omega, fun e => ?_⟩
      rw [e, if_neg Bool.false_ne_true] at h
      by_cases hv : vl = []
      · exact hv
      · rw [if_neg hv] at h; cases h
  · rw [if_neg hn] at h; cases h
theorem deps_ok0 {ds : List Int} {b s : Int} (h : depsV ds b s = 0) : chk ds = 0 ∧ trim ds = ds ∧ ds.length ≤ 64 ∧ Fits ds ∧ (∀ a r, ds = r ++ [a] → a ≠ 0) := by
  unfold depsV at h
  split at h
  · rename_i hc
    split at h
    · cases h
    · rename_i hl
      have hz : ∀ a r, ds = r ++ [a] → a ≠ 0 := by
        rintro a r e rfl
        exact hl (by rw [e]; simp)
      exact ⟨hc, trim_self hz, (chk_ok hc).1, (chk_ok hc).2, hz⟩
  · contradiction
theorem name_len {kd : Int} {nm vl : List UInt8} (h : wordsV kd nm vl = 0) : nm.length ≤ 32 := by
  obtain ⟨h1, h2, _⟩ := words_ok0 h
  cases hn : named kd with
  | true => exact (nameB_spec (h1 hn)).2.1
  | false => rw [h2 hn]; simp
theorem quo_len (l : List UInt8) : (quo l).length ≤ 3 * l.length + 2 := by
  have := quoB_len l
  simp only [quo, List.length_cons, List.length_append, List.length_nil]; omega
/-- The clock's text. -/
def ckT (ds : List Int) : List UInt8 := (txt ds).data.toList
theorem text_small {a b s : Int} {ds : List Int} {kd n1 n2 p1 p2 q1 q2 : Int} {nm vl : List UInt8} (h : checkV a b s ds kd n1 n2 p1 p2 q1 q2 nm vl = 0) : (textL a b s (ckT ds) kd n1 n2 p1 p2 q1 q2 nm vl).length ≤ 2048 := by
  obtain ⟨_, hR, hs, hd, _, _, hw⟩ := check_ok h
  obtain ⟨_, _, hl, hf, _⟩ := deps_ok0 hd
  simp only [isR, Bool.and_eq_true, decide_eq_true_eq] at hR
  have hq := quo_len vl
  have hv := (words_ok0 hw).2.2.1
  exact textL_len a b s (ckT ds) kd n1 n2 p1 p2 q1 q2 nm vl (by omega) (txt_len hl hf) (name_len hw) (by omega)
/-- A change's text, and why there is none. -/
def chText (a b s : Int) (ds : List Int) (kd n1 n2 p1 p2 q1 q2 : Int) (nm vl : List UInt8) : ByteArray × Int := if checkV a b s ds kd n1 n2 p1 p2 q1 q2 nm vl = 0 then (bl (textL a b s (ckT ds) kd n1 n2 p1 p2 q1 q2 nm vl), 0) else (⟨#[]⟩, checkV a b s ds kd n1 n2 p1 p2 q1 q2 nm vl)
theorem chtext_f (a b s : Int) (ds : List Int) (kd n1 n2 p1 p2 q1 q2 : Int) (nm vl : ByteArray) (hn : ds.length ≤ 17592186043904) : Ev (fun k => change_Text.f k a b s ds kd n1 n2 p1 p2 q1 q2 nm vl) (chText a b s ds kd n1 n2 p1 p2 q1 q2 nm.data.toList vl.data.toList) := by
  unfold change_Text.f chText
  refine Ev.bind (check_f a b s ds kd n1 n2 p1 p2 q1 q2 nm vl hn) ?_
  by_cases h : checkV a b s ds kd n1 n2 p1 p2 q1 q2 nm.data.toList vl.data.toList = 0
  · rw [if_pos h]
    simp only [h, if_true]
    obtain ⟨_, hR, hs, hd, _, _, hw⟩ := check_ok h
    obtain ⟨hc, ht, hl, hf, _⟩ := deps_ok0 hd
    simp only [isR, Bool.and_eq_true, decide_eq_true_eq] at hR
    have hsm := text_small h
    have hv := (words_ok0 hw).2.2.1
    have hvz : vl.size = vl.data.toList.length := rfl
    refine Ev.bind (pText ds hn) ?_
    have htx : textV ds = (txt ds, 0) := by unfold textV; rw [if_pos hc, ht]
    rw [htx]
    obtain ⟨m, rfl⟩ : ∃ n : Nat, s = n := ⟨s.toNat, by omega⟩
    simp only [word_f, stamp_f, itoaN_f m (by omega), Option.bind_some, List.length_cons, List.length_nil]
    have e : textL a b (m : Int) (ckT ds) kd n1 n2 p1 p2 q1 q2 nm.data.toList vl.data.toList = Lib.join (mp [bl (kw kd), bl (stT a b), bl (Lib.decDigits m), txt ds] ++ ((if kd = 1 then [] else [stT n1 n2]) ++ t2 kd p1 p2 q1 q2 nm.data.toList vl.data.toList)) [32] := rfl
    rw [e] at hsm ⊢
    by_cases h1 : kd = 1
    · rw [if_pos h1, List.nil_append] at hsm
      rw [if_pos h1, List.nil_append]
      refine Ev.congr (fun k => if_pos h1) ?_
      exact text_j0 _ a b m ds kd n1 n2 p1 p2 q1 q2 nm vl (by simp) (by omega) (Nat.le_trans hsm (by decide))
    · have e2 : mp [bl (kw kd), bl (stT a b), bl (Lib.decDigits m), txt ds] ++ ([stT n1 n2] ++ t2 kd p1 p2 q1 q2 nm.data.toList vl.data.toList) = mp ([bl (kw kd), bl (stT a b), bl (Lib.decDigits m), txt ds] ++ [bl (stT n1 n2)]) ++ t2 kd p1 p2 q1 q2 nm.data.toList vl.data.toList := rfl
      rw [if_neg h1, e2] at hsm
      rw [if_neg h1, e2]
      refine Ev.congr (fun k => (if_neg h1).trans (if_pos (by simp))) ?_
      exact text_j0 _ a b m ds kd n1 n2 p1 p2 q1 q2 nm vl (by simp) (by omega) (Nat.le_trans hsm (by decide))
  · simp only [h, if_false]; exact Ev.now _

/-! the words read back -/
theorem bl_l (l : List UInt8) : (bl l).data.toList = l := by simp [bl]
theorem bl_b (s : ByteArray) : bl s.data.toList = s := by simp [bl]
theorem bl_size (l : List UInt8) : (bl l).size = l.length := by simp [bl, ByteArray.size]
theorem next_f (l : List UInt8) (b : Bool) (h : l.length ≤ 1048576) : change_reader_next.f (bl l) b = some (bl (cutw l).1, bl (cutw l).2, b) := by
  unfold change_reader_next.f strings_Cut.f
  rw [if_pos (by rw [bl_size]; exact h), bl_l]
  obtain ⟨h1, h2⟩ := cut_cutw l
  simp only [Option.bind_some]
  rw [h1, h2]
  rfl
theorem rstamp_f (k : Nat) (l : List UInt8) (b nn : Bool) (h : l.length ≤ 1048576) : change_reader_stamp.f (k + 20) (bl l) b nn = some ((rdS nn (cutw l).1).1, (rdS nn (cutw l).1).2.1, bl (cutw l).2, b || (rdS nn (cutw l).1).2.2) := by
  have h1 := (cutw_len l).1
  have hp : ident_Parse.f (k + 20) (bl (cutw l).1) = some (parse (cutw l).1) := by
    rw [parse_f k _ (by rw [bl_size]; omega), bl_l]
  have e2 : ∀ x : Int, (x != 0) = decide (x ≠ 0) := by intro x; by_cases hx : x = 0 <;> simp [hx]
  unfold change_reader_stamp.f
  rw [next_f l b h]
  simp only [Option.bind_some, hp, ByteArray.toList_eq, bl_l]
  unfold rdS
  cases nn with
  | false =>
    simp only [Bool.false_eq_true, if_false, Bool.false_and, e2]
    cases b <;> simp
  | true =>
    simp only [if_true, Bool.true_and, decide_eq_true_eq]
    by_cases hw : (cutw l).1 = [45]
    · rw [if_pos hw, if_pos hw]; simp
    · rw [if_neg hw, if_neg hw]
      simp only [e2]
      cases b <;> simp
def kdOf (w : List UInt8) : Int := if kw 5 = w then 5 else if kw 4 = w then 4 else if kw 3 = w then 3 else if kw 2 = w then 2 else if kw 1 = w then 1 else 0
theorem kdOf_kw {kd : Int} (h1 : 1 ≤ kd) (h2 : kd ≤ 5) : kdOf (kw kd) = kd := by
  have : kd = 1 ∨ kd = 2 ∨ kd = 3 ∨ kd = 4 ∨ kd = 5 := by omega
  rcases this with rfl | rfl | rfl | rfl | rfl <;> decide
def atoiV (w : List UInt8) : Int × Bool := match Lib.atoiAll w with | .ok v => (v, false) | .«syntax» => (0, true) | .range => (Lib.atoiSat w, true)
theorem atoi_f (w : List UInt8) (h : w.length ≤ 1048576) : ∃ o : Option Int, strconv_Atoi_45.f (bl w) = some ((atoiV w).1, o) ∧ o.isNone = !(atoiV w).2 := by
  unfold strconv_Atoi_45.f atoiV
  rw [if_pos (by rw [bl_size]; omega), bl_l]
  cases Lib.atoiAll w <;> exact ⟨_, rfl, rfl⟩
/-- What all changes begin with. -/
noncomputable def hd (l : List UInt8) (b0 : Bool) : Int × Int × Int × List Int × Int × List UInt8 × Bool :=
  ((rdS false (cutw (cutw l).2).1).1, (rdS false (cutw (cutw l).2).1).2.1, (atoiV (cutw (cutw (cutw l).2).2).1).1, (parseV (cutw (cutw (cutw (cutw l).2).2).2).1).1, kdOf (cutw l).1, (cutw (cutw (cutw (cutw l).2).2).2).2,
   ((b0 || (rdS false (cutw (cutw l).2).1).2.2) || (atoiV (cutw (cutw (cutw l).2).2).1).2) || decide ((parseV (cutw (cutw (cutw (cutw l).2).2).2).1).2 ≠ 0))
theorem head_end (kd : Int) (w0 l : List UInt8) (b0 : Bool) (h : l.length ≤ 1048576) : Ev (fun k => change_reader_head.l0 k (bl w0) 6 (bl l) b0 0 0 0 kd 0 0 0 0 0 0 (⟨#[]⟩ : ByteArray) (⟨#[]⟩ : ByteArray)) ((rdS false (cutw l).1).1, (rdS false (cutw l).1).2.1, (atoiV (cutw (cutw l).2).1).1, (parseV (cutw (cutw (cutw l).2).2).1).1, kd, 0, 0, 0, 0, 0, 0, (⟨#[]⟩ : ByteArray), (⟨#[]⟩ : ByteArray), bl (cutw (cutw (cutw l).2).2).2, ((b0 || (rdS false (cutw l).1).2.2) || (atoiV (cutw (cutw l).2).1).2) || decide ((parseV (cutw (cutw (cutw l).2).2).1).2 ≠ 0)) := by
  refine Ev.step (fun k => by unfold change_reader_head.l0; rfl) ?_
  have l1 := cutw_len l
  have l2 := cutw_len (cutw l).2
  have l3 := cutw_len (cutw (cutw l).2).2
  obtain ⟨o, ho, hi⟩ := atoi_f (cutw (cutw l).2).1 (by omega)
  refine Ev.congr (fun k => if_neg (by omega)) ?_
  refine Ev.bind ⟨20, fun k hk => by obtain ⟨k, rfl⟩ : ∃ m, k = m + 20 := ⟨k - 20, by omega⟩; exact rstamp_f k l b0 false h⟩ ?_
  simp only [next_f _ _ (show (cutw l).2.length ≤ 1048576 by omega), Option.bind_some, ho, next_f _ _ (show (cutw (cutw l).2).2.length ≤ 1048576 by omega)]
  refine Ev.bind (pParse (bl (cutw (cutw (cutw l).2).2).1) (by rw [bl_size]; omega)) ?_
  rw [bl_l, hi]
  generalize parseV (cutw (cutw (cutw l).2).2).1 = p
  generalize (b0 || (rdS false (cutw l).1).2.2) = b1
  generalize (atoiV (cutw (cutw l).2).1) = av
  have e2 : (p.2 != 0) = decide (p.2 ≠ 0) := by by_cases hx : p.2 = 0 <;> simp [hx]
  rw [e2]
  obtain ⟨v, bv⟩ := av
  cases b1 <;> cases bv <;> exact Ev.now _
theorem head_l0 (w0 l : List UInt8) (b0 : Bool) (i kd : Int) (hi : i ≤ 5) (hi0 : 0 ≤ i) {r} (h : Ev (fun k => change_reader_head.l0 k (bl w0) (i + 1) (bl l) b0 0 0 0 (if kw i = w0 then i else kd) 0 0 0 0 0 0 (⟨#[]⟩ : ByteArray) (⟨#[]⟩ : ByteArray)) r) : Ev (fun k => change_reader_head.l0 k (bl w0) i (bl l) b0 0 0 0 kd 0 0 0 0 0 0 (⟨#[]⟩ : ByteArray) (⟨#[]⟩ : ByteArray)) r := by
  refine Ev.step (fun k => by unfold change_reader_head.l0; rfl) ?_
  have hw : wrap64 (i + 1) = i + 1 := by unfold wrap64; omega
  have e : (⟨(kw i).toArray⟩ : ByteArray).data.toList = kw i := by simp
  simp only [hi, if_true, word_f, Option.bind_some, ByteArray.toList_eq, bl_l, hw, e]
  by_cases hk : kw i = w0
  · simp only [hk, if_true] at h ⊢; exact h
  · simp only [hk, if_false] at h ⊢; exact h
theorem head_f (l : List UInt8) (b0 : Bool) (h : l.length ≤ 1048576) : Ev (fun k => change_reader_head.f k (bl l) b0) ((hd l b0).1, (hd l b0).2.1, (hd l b0).2.2.1, (hd l b0).2.2.2.1, (hd l b0).2.2.2.2.1, 0, 0, 0, 0, 0, 0, (⟨#[]⟩ : ByteArray), (⟨#[]⟩ : ByteArray), bl (hd l b0).2.2.2.2.2.1, (hd l b0).2.2.2.2.2.2) := by
  unfold change_reader_head.f
  rw [next_f l b0 h]
  simp only [Option.bind_some]
  have l1 := cutw_len l
  refine head_l0 _ _ _ 1 0 (by omega) (by omega) (head_l0 _ _ _ 2 _ (by omega) (by omega) (head_l0 _ _ _ 3 _ (by omega) (by omega) (head_l0 _ _ _ 4 _ (by omega) (by omega) (head_l0 _ _ _ 5 _ (by omega) (by omega) ?_))))
  exact head_end (kdOf (cutw l).1) (cutw l).1 (cutw l).2 b0 (by omega)
def rNode (kd a b : Int) (l : List UInt8) (bad : Bool) : Int × Int × List UInt8 × Bool := if kd = 1 then (a, b, l, bad) else ((rdS false (cutw l).1).1, (rdS false (cutw l).1).2.1, (cutw l).2, bad || (rdS false (cutw l).1).2.2)
def rPlace (kd : Int) (l : List UInt8) (bad : Bool) : Int × Int × Int × Int × List UInt8 × Bool := if kd = 1 ∨ kd = 2 then ((rdS false (cutw l).1).1, (rdS false (cutw l).1).2.1, (rdS true (cutw (cutw l).2).1).1, (rdS true (cutw (cutw l).2).1).2.1, (cutw (cutw l).2).2, (bad || (rdS false (cutw l).1).2.2) || (rdS true (cutw (cutw l).2).1).2.2) else (0, 0, 0, 0, l, bad)
def rName (kd : Int) (l : List UInt8) : List UInt8 × List UInt8 := if kd = 1 ∨ kd = 3 ∨ kd = 4 then cutw l else ([], l)
def rVal (kd : Int) (l : List UInt8) (bad : Bool) : List UInt8 × Bool := if kd = 3 ∨ kd = 5 then ((unqV l).1.data.toList, bad || !(unqV l).2) else ([], bad)
theorem node_r (kd a b : Int) (l : List UInt8) (bad : Bool) (h : l.length ≤ 1048576) (k : Nat) : parseNode (k + 20) kd a b (bl l) bad = some ((rNode kd a b l bad).1, (rNode kd a b l bad).2.1, bl (rNode kd a b l bad).2.2.1, (rNode kd a b l bad).2.2.2) := by
  unfold parseNode rNode
  by_cases h1 : kd = 1
  · rw [if_pos h1, if_pos h1]
  · rw [if_neg h1, if_neg h1, rstamp_f k l bad false h]
theorem place_r (kd : Int) (l : List UInt8) (bad : Bool) (h : l.length ≤ 1048576) (k : Nat) : parsePlace (k + 20) kd 0 0 0 0 (bl l) bad = some ((rPlace kd l bad).1, (rPlace kd l bad).2.1, (rPlace kd l bad).2.2.1, (rPlace kd l bad).2.2.2.1, bl (rPlace kd l bad).2.2.2.2.1, (rPlace kd l bad).2.2.2.2.2) := by
  unfold parsePlace rPlace
  have h1 := (cutw_len l).2
  by_cases hk : kd = 1 ∨ kd = 2
  · rw [if_pos hk, if_pos hk, rstamp_f k l bad false h]
    simp only [Option.bind_some]
    rw [rstamp_f k (cutw l).2 _ true (by omega)]
    rfl
  · rw [if_neg hk, if_neg hk]
theorem name_r (kd : Int) (l : List UInt8) (bad : Bool) (h : l.length ≤ 1048576) : parseName kd (⟨#[]⟩ : ByteArray) (bl l) bad = some (bl (rName kd l).1, bl (rName kd l).2, bad) := by
  unfold parseName rName
  by_cases hk : kd = 1 ∨ kd = 3 ∨ kd = 4
  · rw [if_pos hk, if_pos hk, next_f l bad h]
  · rw [if_neg hk, if_neg hk]; rfl
theorem val_r (kd : Int) (l : List UInt8) (bad : Bool) (h : l.length ≤ 1048576) : Ev (fun k => parseValue k kd (⟨#[]⟩ : ByteArray) (bl l) bad) (bl (rVal kd l bad).1, (rVal kd l bad).2) := by
  unfold parseValue rVal
  by_cases hk : kd = 3 ∨ kd = 5
  · simp only [hk, if_true]
    refine Ev.bind (unquote_f (bl l) (by rw [bl_size]; omega)) ?_
    rw [bl_l, bl_b]
    exact Ev.now _
  · simp only [hk, if_false]; exact Ev.now _
theorem rNode_len (kd a b : Int) (l : List UInt8) (bad : Bool) : (rNode kd a b l bad).2.2.1.length ≤ l.length := by
  unfold rNode
  split
  · exact Nat.le_refl _
  · exact (cutw_len l).2
theorem rPlace_len (kd : Int) (l : List UInt8) (bad : Bool) : (rPlace kd l bad).2.2.2.2.1.length ≤ l.length := by
  unfold rPlace
  have h1 := (cutw_len l).2
  have h2 := (cutw_len (cutw l).2).2
  split
  · show (cutw (cutw l).2).2.length ≤ l.length
    omega
  · exact Nat.le_refl _
theorem rName_len (kd : Int) (l : List UInt8) : (rName kd l).2.length ≤ l.length := by
  unfold rName
  split
  · exact (cutw_len l).2
  · exact Nat.le_refl _
theorem hd_len (l : List UInt8) (b0 : Bool) : (hd l b0).2.2.2.2.2.1.length ≤ l.length := by
  have h1 := (cutw_len l).2
  have h2 := (cutw_len (cutw l).2).2
  have h3 := (cutw_len (cutw (cutw l).2).2).2
  have h4 := (cutw_len (cutw (cutw (cutw l).2).2).2).2
  show (cutw (cutw (cutw (cutw l).2).2).2).2.length ≤ l.length
  omega
/-- All that is read: at, seq, clock, kind, node, parent, after, name, value; is something bad? -/
noncomputable def rdAll (l : List UInt8) : (Int × Int × Int × List Int × Int) × (Int × Int) × (Int × Int × Int × Int) × List UInt8 × List UInt8 × Bool :=
  let h := hd l false
  let n := rNode h.2.2.2.2.1 h.1 h.2.1 h.2.2.2.2.2.1 h.2.2.2.2.2.2
  let p := rPlace h.2.2.2.2.1 n.2.2.1 n.2.2.2
  let m := rName h.2.2.2.2.1 p.2.2.2.2.1
  let v := rVal h.2.2.2.2.1 m.2 p.2.2.2.2.2
  ((h.1, h.2.1, h.2.2.1, h.2.2.2.1, h.2.2.2.2.1), (n.1, n.2.1), (p.1, p.2.1, p.2.2.1, p.2.2.2.1), m.1, v.1, v.2)
def fin5 (l : List UInt8) : (Int × Int × Int × List Int × Int) × (Int × Int) × (Int × Int × Int × Int) × List UInt8 × List UInt8 × Bool → Int × Int × Int × List Int × Int × Int × Int × Int × Int × Int × Int × ByteArray × ByteArray × Int
  | ((a, b, s, ds, kd), (n1, n2), (p1, p2, q1, q2), nm, vl, bad) => if bad = true ∨ (chText a b s ds kd n1 n2 p1 p2 q1 q2 nm vl).2 ≠ 0 ∨ (chText a b s ds kd n1 n2 p1 p2 q1 q2 nm vl).1.data.toList ≠ l then (0, 0, 0, ([] : List Int), 0, 0, 0, 0, 0, 0, 0, (⟨#[]⟩ : ByteArray), (⟨#[]⟩ : ByteArray), 2) else (a, b, s, ds, kd, n1, n2, p1, p2, q1, q2, bl nm, bl vl, 0)
noncomputable def parV (l : List UInt8) : Int × Int × Int × List Int × Int × Int × Int × Int × Int × Int × Int × ByteArray × ByteArray × Int := if l.length > 262144 then (0, 0, 0, ([] : List Int), 0, 0, 0, 0, 0, 0, 0, (⟨#[]⟩ : ByteArray), (⟨#[]⟩ : ByteArray), 3) else fin5 l (rdAll l)
theorem chparse_f (l : List UInt8) : Ev (fun k => change_Parse.f k (bl l)) (parV l) := by
  unfold change_Parse.f parV
  simp only [bl_size]
  by_cases hl : l.length > 262144
  · rw [if_pos hl]
    refine Ev.congr (fun k => if_pos (by omega)) ?_
    exact Ev.now _
  · rw [if_neg hl]
    refine Ev.congr (fun k => if_neg (by omega)) ?_
    refine Ev.bind (head_f l false (by omega)) ?_
    unfold rdAll
    have z1 := hd_len l false
    have zd : (hd l false).2.2.2.1.length ≤ 64 := parseV_len _
    generalize hd l false = h at z1 zd ⊢
    obtain ⟨a, b, s, ds, kd, l1, b1⟩ := h
    simp only at z1 zd ⊢
    have z2 := rNode_len kd a b l1 b1
    refine Ev.bind ⟨20, fun k hk => by obtain ⟨k, rfl⟩ : ∃ m, k = m + 20 := ⟨k - 20, by omega⟩; exact node_r kd a b l1 b1 (by omega) k⟩ ?_
    generalize rNode kd a b l1 b1 = n at z2 ⊢
    obtain ⟨n1, n2, l2, b2⟩ := n
    simp only at z2 ⊢
    have z3 := rPlace_len kd l2 b2
    refine Ev.bind ⟨20, fun k hk => by obtain ⟨k, rfl⟩ : ∃ m, k = m + 20 := ⟨k - 20, by omega⟩; exact place_r kd l2 b2 (by omega) k⟩ ?_
    generalize rPlace kd l2 b2 = p at z3 ⊢
    obtain ⟨p1, p2, q1, q2, l3, b3⟩ := p
    simp only at z3 ⊢
    have z4 := rName_len kd l3
    rw [name_r kd l3 b3 (by omega)]
    simp only [Option.bind_some]
    generalize rName kd l3 = m at z4 ⊢
    obtain ⟨nm, l4⟩ := m
    simp only at z4 ⊢
    refine Ev.bind (val_r kd l4 b3 (by omega)) ?_
    generalize rVal kd l4 b3 = v
    obtain ⟨vl, b4⟩ := v
    simp only
    refine Ev.bind (chtext_f a b s ds kd n1 n2 p1 p2 q1 q2 (bl nm) (bl vl) (by omega)) ?_
    simp only [bl_l, ByteArray.toList_eq, fin5]
    split <;> exact Ev.now _

/-! a text, read, is the change -/
theorem ndB_text {a b : Int} (h : ndB a b = true) : (text a b).2 = 0 := by
  unfold ndB at h
  unfold text
  by_cases hR : isR a b = true
  · rw [if_pos hR]
  · rw [if_neg hR]
    have hf : isR a b = false := by simpa using hR
    rw [hf, Bool.false_or] at h
    obtain ⟨h1, h2⟩ := of_decide_eq_true h
    rcases h2 with h2 | h2
    · rw [if_pos ⟨h1, h2⟩]
    · rw [if_neg (by omega), if_pos ⟨h1, h2⟩]
theorem isR_nd {a b : Int} (h : isR a b = true) : ndB a b = true := by unfold ndB; rw [h]; rfl
theorem rdS_nd {a b : Int} (h : ndB a b = true) : rdS false (stT a b) = (a, b, false) := rdS_st false a b (ndB_text h) (fun e => by cases e)
theorem atoi_dg {s : Int} (h1 : 1 ≤ s) (h2 : s ≤ 1099511627776) : atoiV (dg s) = (s, false) := by
  unfold atoiV dg
  rw [atoi_dec s.toNat (by omega)]
  simp only [Prod.mk.injEq, and_true]
  omega
theorem hd_text {a b s : Int} {ds : List Int} {kd n1 n2 p1 p2 q1 q2 : Int} {nm vl : List UInt8} (h : checkV a b s ds kd n1 n2 p1 p2 q1 q2 nm vl = 0) : hd (textL a b s (ckT ds) kd n1 n2 p1 p2 q1 q2 nm vl) false = (a, b, s, ds, kd, Lib.join (tail kd n1 n2 p1 p2 q1 q2 nm vl) [32], false) := by
  obtain ⟨hk, hR, hs, hd', _, _, hw⟩ := check_ok h
  obtain ⟨hc, ht, hl, hf, hz⟩ := deps_ok0 hd'
  have hR' := hR
  simp only [isR, Bool.and_eq_true, decide_eq_true_eq] at hR'
  unfold hd
  rw [text_words, cutw_word _ _ (kw_nb kd)]
  simp only
  rw [cutw_word _ _ (stT_nb a b)]
  simp only
  rw [cutw_word _ _ (show NB (dg s) from dec_nb _)]
  simp only
  rw [cutw_word _ _ (show NB (ckT ds) from txt_nb ds)]
  simp only
  rw [rdS_nd (isR_nd hR), atoi_dg hs.1 (by omega), show parseV (ckT ds) = (ds, 0) from parse_txt ds hl hf hz, kdOf_kw hk.1 hk.2]
  simp
theorem rd_text {a b s : Int} {ds : List Int} {kd n1 n2 p1 p2 q1 q2 : Int} {nm vl : List UInt8} (h : checkV a b s ds kd n1 n2 p1 p2 q1 q2 nm vl = 0) : rdAll (textL a b s (ckT ds) kd n1 n2 p1 p2 q1 q2 nm vl) = ((a, b, s, ds, kd), (n1, n2), (p1, p2, q1, q2), nm, vl, false) := by
  obtain ⟨hk, hR, hs, hd', hn, hp, hw⟩ := check_ok h
  obtain ⟨w1, w2, _, w3⟩ := words_ok0 hw
  unfold rdAll
  rw [hd_text h]
  simp only
  have : kd = 1 ∨ kd = 2 ∨ kd = 3 ∨ kd = 4 ∨ kd = 5 := by omega
  rcases this with rfl | rfl | rfl | rfl | rfl
  · -- create
    obtain ⟨m1, m2, m3⟩ := nameB_spec (w1 rfl)
    have hv := w3 rfl
    subst hv
    simp only [nodeV, if_true, decide_eq_true_eq] at hn
    obtain ⟨rfl, rfl⟩ := hn
    simp only [placeV, true_or, if_true, Bool.and_eq_true, Bool.or_eq_true, decide_eq_true_eq] at hp
    have hq : (q1 = 0 ∧ q2 = 0) ∨ isR q1 q2 = true := hp.2.imp id And.left
    simp only [rNode, if_true, rPlace, true_or, rName, rVal]
    rw [tail_1 m1, cutw_word _ _ (stT_nb p1 p2)]
    simp only
    rw [cutw_word _ _ (aft_nb q1 q2)]
    simp only
    rw [cutw_last _ m3, rdS_nd hp.1.1.1, rdS_aft q1 q2 hq, if_neg (by decide)]
    simp
  · -- move
    have hm := w2 rfl
    have hv := w3 rfl
    subst hm
    subst hv
    rw [nodeV, if_neg (by decide), if_pos rfl, Bool.and_eq_true] at hn
    rw [placeV, if_pos (.inr rfl)] at hp
    simp only [Bool.and_eq_true, Bool.or_eq_true, decide_eq_true_eq] at hp
    have hq : (q1 = 0 ∧ q2 = 0) ∨ isR q1 q2 = true := hp.2.imp id And.left
    rw [tail_2, rNode, if_neg (by decide), cutw_word _ _ (stT_nb n1 n2)]
    simp only
    rw [rPlace, if_pos (.inr rfl), cutw_word _ _ (stT_nb p1 p2)]
    simp only
    rw [cutw_last _ (aft_nb q1 q2), rdS_nd (isR_nd hn.1), rdS_nd hp.1.1.1, rdS_aft q1 q2 hq, rName, if_neg (by decide), rVal, if_neg (by decide)]
    simp
  · -- set
    obtain ⟨m1, m2, m3⟩ := nameB_spec (w1 rfl)
    rw [nodeV, if_neg (by decide), if_neg (by decide), Bool.or_eq_true, decide_eq_true_eq, Bool.and_eq_true] at hn
    rw [placeV, if_neg (by decide), Bool.and_eq_true, decide_eq_true_eq, decide_eq_true_eq] at hp
    obtain ⟨⟨rfl, rfl⟩, rfl, rfl⟩ := hp
    have hnn : ndB n1 n2 = true := by
      rcases hn with ⟨rfl, rfl⟩ | hn
      · decide
      · exact isR_nd hn.1
    rw [tail_3 m1, rNode, if_neg (by decide), cutw_word _ _ (stT_nb n1 n2)]
    simp only
    rw [rPlace, if_neg (by decide), rName, if_pos (.inr (.inl rfl))]
    simp only
    rw [cutw_word _ _ m3, rdS_nd hnn, rVal, if_pos (.inl rfl)]
    simp only
    rw [unqV_quo]
    simp
  · -- clear
    obtain ⟨m1, m2, m3⟩ := nameB_spec (w1 rfl)
    have hv := w3 rfl
    subst hv
    rw [nodeV, if_neg (by decide), if_neg (by decide), Bool.or_eq_true, decide_eq_true_eq, Bool.and_eq_true] at hn
    rw [placeV, if_neg (by decide), Bool.and_eq_true, decide_eq_true_eq, decide_eq_true_eq] at hp
    obtain ⟨⟨rfl, rfl⟩, rfl, rfl⟩ := hp
    have hnn : ndB n1 n2 = true := by
      rcases hn with ⟨rfl, rfl⟩ | hn
      · decide
      · exact isR_nd hn.1
    rw [tail_4 m1, rNode, if_neg (by decide), cutw_word _ _ (stT_nb n1 n2)]
    simp only
    rw [rPlace, if_neg (by decide), rName, if_pos (.inr (.inr rfl))]
    simp only
    rw [cutw_last _ m3, rdS_nd hnn, rVal, if_neg (by decide)]
    simp
  · -- text
    have hm := w2 rfl
    subst hm
    rw [nodeV, if_neg (by decide), if_neg (by decide), Bool.or_eq_true, decide_eq_true_eq, Bool.and_eq_true] at hn
    rw [placeV, if_neg (by decide), Bool.and_eq_true, decide_eq_true_eq, decide_eq_true_eq] at hp
    obtain ⟨⟨rfl, rfl⟩, rfl, rfl⟩ := hp
    have hnn : ndB n1 n2 = true := by
      rcases hn with ⟨rfl, rfl⟩ | hn
      · decide
      · exact isR_nd hn.1
    rw [tail_5, rNode, if_neg (by decide), cutw_word _ _ (stT_nb n1 n2)]
    simp only
    rw [rPlace, if_neg (by decide), rName, if_neg (by decide)]
    simp only
    rw [rdS_nd hnn, rVal, if_pos (.inr rfl)]
    simp only
    rw [unqV_quo]
    simp
theorem par_text {a b s : Int} {ds : List Int} {kd n1 n2 p1 p2 q1 q2 : Int} {nm vl : List UInt8} (h : checkV a b s ds kd n1 n2 p1 p2 q1 q2 nm vl = 0) : parV (textL a b s (ckT ds) kd n1 n2 p1 p2 q1 q2 nm vl) = (a, b, s, ds, kd, n1, n2, p1, p2, q1, q2, bl nm, bl vl, 0) := by
  have hl := text_small h
  unfold parV
  rw [if_neg (by omega), rd_text h]
  unfold fin5
  have e : chText a b s ds kd n1 n2 p1 p2 q1 q2 nm vl = (bl (textL a b s (ckT ds) kd n1 n2 p1 p2 q1 q2 nm vl), 0) := by unfold chText; rw [if_pos h]
  simp only [e, bl_l]
  rw [if_neg (by simp)]

theorem same5 (a b s : Int) (ds : List Int) (kd n1 n2 p1 p2 q1 q2 : Int) (nm vl : ByteArray) (hn : ds.length ≤ 17592186044416) : Ev (fun k => topiaryref05_Same.f k a b s ds kd n1 n2 p1 p2 q1 q2 nm vl a b s ds kd n1 n2 p1 p2 q1 q2 nm vl) true := by
  unfold topiaryref05_Same.f
  simp only [beq_self_eq_true, Bool.and_self, if_true]
  refine Ev.bind (rSame ds ds hn) ?_
  simp only [decide_true, if_true]
  exact Ev.now _

/-! both ways -/
theorem fin_back (l : List UInt8) (c : (Int × Int × Int × List Int × Int) × (Int × Int) × (Int × Int × Int × Int) × List UInt8 × List UInt8 × Bool) (h : (fin5 l c).2.2.2.2.2.2.2.2.2.2.2.2.2 = 0) : ∃ a b s ds kd n1 n2 p1 p2 q1 q2 nm vl, fin5 l c = (a, b, s, ds, kd, n1, n2, p1, p2, q1, q2, bl nm, bl vl, 0) ∧ chText a b s ds kd n1 n2 p1 p2 q1 q2 nm vl = (bl l, 0) := by
  obtain ⟨⟨a, b, s, ds, kd⟩, ⟨n1, n2⟩, ⟨p1, p2, q1, q2⟩, nm, vl, bad⟩ := c
  simp only [fin5] at h ⊢
  by_cases hc : bad = true ∨ (chText a b s ds kd n1 n2 p1 p2 q1 q2 nm vl).2 ≠ 0 ∨ (chText a b s ds kd n1 n2 p1 p2 q1 q2 nm vl).1.data.toList ≠ l
  · rw [if_pos hc] at h; cases h
  · rw [if_neg hc]
    refine ⟨a, b, s, ds, kd, n1, n2, p1, p2, q1, q2, nm, vl, rfl, ?_⟩
    have h1 : (chText a b s ds kd n1 n2 p1 p2 q1 q2 nm vl).2 = 0 := Classical.byContradiction fun e => hc (.inr (.inl e))
    have h2 : (chText a b s ds kd n1 n2 p1 p2 q1 q2 nm vl).1.data.toList = l := Classical.byContradiction fun e => hc (.inr (.inr e))
    refine Prod.ext ?_ h1
    rw [← h2]
    exact (bl_b _).symm
theorem par_back (l : List UInt8) (h : (parV l).2.2.2.2.2.2.2.2.2.2.2.2.2 = 0) : ∃ a b s ds kd n1 n2 p1 p2 q1 q2 nm vl, parV l = (a, b, s, ds, kd, n1, n2, p1, p2, q1, q2, bl nm, bl vl, 0) ∧ chText a b s ds kd n1 n2 p1 p2 q1 q2 nm vl = (bl l, 0) := by
  unfold parV at h ⊢
  by_cases hl : l.length > 262144
  · rw [if_pos hl] at h; cases h
  · rw [if_neg hl] at h ⊢
    exact fin_back l _ h
theorem chText_ok {a b s : Int} {ds : List Int} {kd n1 n2 p1 p2 q1 q2 : Int} {nm vl : List UInt8} (h : (chText a b s ds kd n1 n2 p1 p2 q1 q2 nm vl).2 = 0) : checkV a b s ds kd n1 n2 p1 p2 q1 q2 nm vl = 0 := by
  unfold chText at h
  split at h
  · assumption
  · exact h
theorem back_j0 (t : ByteArray) : Ev (fun k => topiarylaw05_ChangeBack.j0 k t) true := by
  refine Ev.step (fun k => by unfold topiarylaw05_ChangeBack.j0; rfl) ?_
  have hp := chparse_f t.data.toList
  rw [bl_b] at hp
  refine Ev.bind hp ?_
  by_cases h : (parV t.data.toList).2.2.2.2.2.2.2.2.2.2.2.2.2 = 0
  · obtain ⟨a, b, s, ds, kd, n1, n2, p1, p2, q1, q2, nm, vl, he, ht⟩ := par_back _ h
    rw [he]
    simp only [if_true]
    have hck := chText_ok (show (chText a b s ds kd n1 n2 p1 p2 q1 q2 nm vl).2 = 0 by rw [ht])
    have hds := (deps_ok0 (check_ok hck).2.2.2.1).2.2.1
    have htx := chtext_f a b s ds kd n1 n2 p1 p2 q1 q2 (bl nm) (bl vl) (by omega)
    rw [bl_l, bl_l, ht] at htx
    refine Ev.bind htx ?_
    rw [bl_b]
    simp only [if_true]
    exact Ev.bind awake (Ev.now _)
  · simp only [h, if_false]; exact Ev.bind awake (Ev.now _)
theorem law (a b s : Int) (ds : List Int) (kd n1 n2 p1 p2 q1 q2 : Int) (nm vl t : ByteArray) (hn : ds.length ≤ 17592186043904) : Ev (fun k => topiarylaw05_ChangeBack.f k a b s ds kd n1 n2 p1 p2 q1 q2 nm vl t) true := by
  unfold topiarylaw05_ChangeBack.f
  refine Ev.bind (chtext_f a b s ds kd n1 n2 p1 p2 q1 q2 nm vl hn) ?_
  by_cases h : checkV a b s ds kd n1 n2 p1 p2 q1 q2 nm.data.toList vl.data.toList = 0
  · have e : chText a b s ds kd n1 n2 p1 p2 q1 q2 nm.data.toList vl.data.toList = (bl (textL a b s (ckT ds) kd n1 n2 p1 p2 q1 q2 nm.data.toList vl.data.toList), 0) := by unfold chText; rw [if_pos h]
    rw [e]
    simp only [if_true]
    refine Ev.bind (chparse_f _) ?_
    rw [par_text h, bl_b, bl_b]
    simp only [if_true]
    refine Ev.bind (same5 a b s ds kd n1 n2 p1 p2 q1 q2 nm vl (by omega)) ?_
    simp only [if_true]
    exact back_j0 t
  · have e : (chText a b s ds kd n1 n2 p1 p2 q1 q2 nm.data.toList vl.data.toList).2 = checkV a b s ds kd n1 n2 p1 p2 q1 q2 nm.data.toList vl.data.toList := by unfold chText; rw [if_neg h]
    simp only [e, h, if_false]
    exact back_j0 t

end Go.Proofs.YtgoolgmcbnikkaaDoor.PureChangeBack
