/- each stamp that a right change names is ahead of its own. -/
import Derived.Test.YtgoolgmcbnikkaaGreatDoorQChangeAheadx
namespace Go.Proofs.YtgoolgmcbnikkaaGreatDoor.PureChangeAhead
open Go.RowKit Go.Proofs.YtgoolgmcbnikkaaGreatDoor.QChangeAhead Go.Proofs.YtgoolgmcbnikkaaGreatDoorW.PrintWords Go.Proofs.YtgoolgmcbnikkaaGreatDoorW.PrintLast
set_option linter.unusedVariables false
set_option linter.unusedSimpArgs false
theorem wrap_in {n : Int} (h0 : -9223372036854775808 ≤ n) (h1 : n ≤ 9223372036854775807) : wrap64 n = n := by unfold wrap64; omega
theorem step_nat (i : Nat) : (i : Int) + 1 = ((i + 1 : Nat) : Int) := by omega
theorem rd_get (xs : List Int) (i : Nat) (h : i < xs.length) : rd xs (i : Int) = xs[i] := by simp [rd, List.getD_eq_getElem?_getD, h]
theorem mx_max (a b : Int) : mx a b = max a b := by unfold mx; omega

/-- the first number that is out of its range -/
def chkL : List Int → Int
  | [] => 0
  | x :: r => if x < 0 then 1 else if x > 1099511627776 then 1 else chkL r
def chk (xs : List Int) : Int := if (xs.length : Int) > 64 then 3 else chkL xs
theorem chkL_ok : ∀ (xs : List Int), chkL xs = 0 → ∀ x ∈ xs, 0 ≤ x ∧ x ≤ 1099511627776
  | [], _, x, hx => by simp at hx
  | y :: r, h, x, hx => by
    simp only [chkL] at h
    split at h
    · omega
    · split at h
      · omega
      · rcases List.mem_cons.1 hx with rfl | hx
        · omega
        · exact chkL_ok r h x hx
theorem chk_ok {xs : List Int} (h : chk xs = 0) : xs.length ≤ 64 ∧ ∀ x ∈ xs, 0 ≤ x ∧ x ≤ 1099511627776 := by
  unfold chk at h
  split at h
  · omega
  · exact ⟨by omega, chkL_ok xs h⟩

theorem pCheck_l0 (xs : List Int) (hn : xs.length ≤ 17592186043904) : ∀ (d i k : Nat), i + d = xs.length → d < k →
    clock_Check.l0 k xs (xs.length : Int) (i : Int) = some (chkL (xs.drop i)) := by
  intro d
  induction d with
  | zero =>
    intro i k h hk
    obtain ⟨k, rfl⟩ : ∃ m, k = m + 1 := ⟨k - 1, by omega⟩
    simp only [clock_Check.l0]
    rw [if_neg (by omega), List.drop_eq_nil_of_le (by omega)]; rfl
  | succ d ih =>
    intro i k h hk
    obtain ⟨k, rfl⟩ : ∃ m, k = m + 1 := ⟨k - 1, by omega⟩
    have hi : i < xs.length := by omega
    simp only [clock_Check.l0]
    rw [if_pos (by omega), if_pos (by omega), if_pos (by omega), rd_get xs i hi, List.drop_eq_getElem_cons hi]
    simp only [chkL]
    split
    · rfl
    · split
      · rfl
      · rw [wrap_in (by omega) (by omega), step_nat]; exact ih (i + 1) k (by omega) (by omega)
theorem pCheck (xs : List Int) (hn : xs.length ≤ 17592186043904) : Ev (fun k => clock_Check.f k xs) (chk xs) := by
  refine ⟨xs.length + 1, fun k hk => ?_⟩
  simp only [clock_Check.f, chk]
  split
  · rfl
  · have := pCheck_l0 xs hn xs.length 0 k (by omega) (by omega); simpa using this

theorem pAt (xs : List Int) (i : Int) : clock_At.f xs i = some (if 0 ≤ i ∧ i < xs.length then rd xs i else 0) := by
  simp only [clock_At.f]
  by_cases h0 : i < 0
  · rw [if_pos h0, if_neg (by omega)]
  · rw [if_neg h0]
    by_cases h1 : i ≥ (xs.length : Int)
    · rw [if_pos h1, if_neg (by omega)]
    · rw [if_neg h1, if_pos (by omega), if_pos (by omega), if_pos (by omega)]
/-- a replica's number -/
def at_ (xs : List Int) (i : Nat) : Int := xs.getD i 0
theorem pAt_nat (xs : List Int) (i : Nat) : clock_At.f xs (i : Int) = some (at_ xs i) := by
  rw [pAt]; congr 1
  by_cases h : i < xs.length
  · rw [if_pos (by omega)]; simp [rd, at_]
  · rw [if_neg (by omega)]; simp [at_, List.getD_eq_getElem?_getD, h]


def IsTrim (t xs : List Int) : Prop := (∃ z, xs = t ++ List.replicate z 0) ∧ ∀ a r, t = r ++ [a] → a ≠ 0
theorem IsTrim.unique : ∀ {xs t u : List Int}, IsTrim t xs → IsTrim u xs → t = u := by
  have key : ∀ (xs t u : List Int), IsTrim t xs → IsTrim u xs → t.length ≤ u.length → t = u := by
    intro xs t u ⟨⟨z, h⟩, ht⟩ ⟨⟨y, g⟩, hu⟩ hl
    have e : u = t ++ List.replicate (z - y) 0 := by
      have hlen := congrArg List.length h
      have hlen' := congrArg List.length g
      simp at hlen hlen'
      have e1 : xs.take u.length = u := by rw [g]; simp
      have e2 : xs.take u.length = t ++ List.replicate (z - y) 0 := by
        rw [h, List.take_append, List.take_of_length_le hl, List.take_replicate]
        congr 2; omega
      rw [← e1, e2]
    cases hz : z - y with
    | zero => rw [hz] at e; simpa using e.symm
    | succ m =>
      rw [hz, List.replicate_succ', ← List.append_assoc] at e
      exact absurd rfl (hu 0 _ e)
  intro xs t u h g
  rcases Nat.le_total t.length u.length with hl | hl
  · exact key xs t u h g hl
  · exact (key xs u t g h hl).symm
theorem IsTrim.length_le {t xs : List Int} (h : IsTrim t xs) : t.length ≤ xs.length := by
  obtain ⟨⟨z, rfl⟩, _⟩ := h; simp
theorem IsTrim.pad {t xs : List Int} (h : IsTrim t xs) (n : Nat) : IsTrim t (xs ++ List.replicate n 0) := by
  obtain ⟨⟨z, rfl⟩, h2⟩ := h
  exact ⟨⟨z + n, by rw [List.append_assoc, List.replicate_append_replicate]⟩, h2⟩
theorem IsTrim.exists : ∀ xs : List Int, ∃ t, IsTrim t xs := by
  intro xs
  induction hn : xs.length using Nat.strongRecOn generalizing xs with
  | _ n ih =>
    rcases List.eq_nil_or_concat xs with rfl | ⟨r, a, rfl⟩
    · exact ⟨[], ⟨⟨0, rfl⟩, fun a r h => by simp at h⟩⟩
    · by_cases ha : a = 0
      · obtain ⟨t, ht⟩ := ih r.length (by simp at hn; omega) r rfl
        exact ⟨t, by have := ht.pad 1; simpa [ha] using this⟩
      · exact ⟨r ++ [a], ⟨⟨0, by simp⟩, fun b s h => by
          have := List.append_inj' h rfl
          have h2 := this.2; injection h2 with h2 _; rw [← h2]; exact ha⟩⟩
noncomputable def trim (xs : List Int) : List Int := (IsTrim.exists xs).choose
theorem trim_is (xs : List Int) : IsTrim (trim xs) xs := (IsTrim.exists xs).choose_spec
theorem trim_eq {t xs : List Int} (h : IsTrim t xs) : t = trim xs := h.unique (trim_is xs)

theorem pTrim_l0 (xs : List Int) (hn : xs.length ≤ 17592186044415) : ∀ (n k : Nat), n ≤ xs.length → n < k → (∀ j, n ≤ j → j < xs.length → at_ xs j = 0) →
    clock_Trim.l0 k xs (n : Int) = some (trim xs) := by
  intro n
  induction n with
  | zero =>
    intro k _ hk hz
    obtain ⟨k, rfl⟩ : ∃ m, k = m + 1 := ⟨k - 1, by omega⟩
    simp only [clock_Trim.l0]
    rw [if_neg (by omega)]
    simp only [Option.bind_some]
    rw [if_pos (by omega), if_pos (by omega), if_pos (by simp)]
    refine congrArg some (trim_eq ?_)
    show IsTrim [] xs
    refine ⟨⟨xs.length, ?_⟩, fun a r h => by simp at h⟩
    refine List.ext_getElem (by simp) fun j h1 h2 => ?_
    have := hz j (by omega) h1
    simpa [at_, List.getD_eq_getElem?_getD, h1] using this
  | succ n ih =>
    intro k hl hk hz
    obtain ⟨k, rfl⟩ : ∃ m, k = m + 1 := ⟨k - 1, by omega⟩
    have hi : n < xs.length := by omega
    have hw : wrap64 (((n + 1 : Nat) : Int) - 1) = (n : Int) := by rw [wrap_in (by omega) (by omega)]; omega
    simp only [clock_Trim.l0, hw]
    rw [if_pos (by omega), if_pos (by omega), if_pos (by omega), rd_get xs n hi]
    by_cases e : xs[n] = 0
    · rw [if_pos e]
      refine ih k (by omega) (by omega) fun j h1 h2 => ?_
      rcases Nat.lt_or_ge n j with h | h
      · exact hz j (by omega) h2
      · have : j = n := by omega
        subst this; simpa [at_, List.getD_eq_getElem?_getD, h2] using e
    · rw [if_neg e]
      simp only [Option.bind_some]
      rw [if_pos (by omega), if_pos (by omega), if_pos (by simp; omega)]
      congr 1
      refine trim_eq ⟨⟨xs.length - (n + 1), ?_⟩, fun a r h => ?_⟩
      · have e1 : xs.drop (n + 1) = List.replicate (xs.length - (n + 1)) 0 := by
          refine List.ext_getElem (by simp) fun j h1 h2 => ?_
          simp at h1
          have := hz (n + 1 + j) (by omega) (by omega)
          have h3 : n + 1 + j < xs.length := by omega
          simpa [at_, List.getD_eq_getElem?_getD, h3] using this
        rw [← e1, Int.toNat_natCast]; simp
      · simp only [Int.toNat_natCast, List.nil_append] at h
        rw [List.take_succ_eq_append_getElem hi] at h
        have := (List.append_inj' h rfl).2
        injection this with h2 _; rw [← h2]; exact e
theorem pTrim (xs : List Int) (hn : xs.length ≤ 17592186044415) : Ev (fun k => clock_Trim.f k xs) (trim xs) :=
  ⟨xs.length + 1, fun k hk => pTrim_l0 xs hn xs.length k (Nat.le_refl _) (by omega) (fun j h1 h2 => by omega)⟩

theorem rCheck_l0 (xs : List Int) (hn : xs.length ≤ 17592186043904) : ∀ (d i k : Nat), i + d = xs.length → d < k →
    topiaryref02_Check.l0 k xs (i : Int) = some (chkL (xs.drop i)) := by
  intro d
  induction d with
  | zero =>
    intro i k h hk
    obtain ⟨k, rfl⟩ : ∃ m, k = m + 1 := ⟨k - 1, by omega⟩
    simp only [topiaryref02_Check.l0]
    rw [if_neg (by omega), List.drop_eq_nil_of_le (by omega)]; rfl
  | succ d ih =>
    intro i k h hk
    obtain ⟨k, rfl⟩ : ∃ m, k = m + 1 := ⟨k - 1, by omega⟩
    have hi : i < xs.length := by omega
    simp only [topiaryref02_Check.l0]
    rw [if_pos (by omega), if_pos (by omega), rd_get xs i hi, List.drop_eq_getElem_cons hi]
    simp only [chkL]
    split
    · rfl
    · split
      · rfl
      · rw [wrap_in (by omega) (by omega), step_nat]; exact ih (i + 1) k (by omega) (by omega)
theorem rCheck (xs : List Int) (hn : xs.length ≤ 17592186043904) : Ev (fun k => topiaryref02_Check.f k xs) (chk xs) := by
  refine ⟨xs.length + 1, fun k hk => ?_⟩
  simp only [topiaryref02_Check.f, chk]
  split
  · rfl
  · have := rCheck_l0 xs hn xs.length 0 k (by omega) (by omega); simpa using this

theorem rAt (xs : List Int) (i : Int) : topiaryref02_At.f xs i = some (if 0 ≤ i ∧ i < xs.length then rd xs i else 0) := by
  simp only [topiaryref02_At.f]
  by_cases h0 : i ≥ 0
  · rw [if_pos h0]
    by_cases h1 : i < (xs.length : Int)
    · rw [if_pos h1, if_pos (by omega), if_pos (by omega)]
    · rw [if_neg h1, if_neg (by omega)]
  · rw [if_neg h0, if_neg (by omega)]
theorem rAt_nat (xs : List Int) (i : Nat) : topiaryref02_At.f xs (i : Int) = some (at_ xs i) := by
  rw [rAt, ← pAt, pAt_nat]

theorem rTrim_both (xs : List Int) (hn : xs.length ≤ 17592186043904) : ∀ (d k : Nat),
    (∀ (i z : Nat) (out : List Int), 2 * (xs.length - i) + z = d → i ≤ xs.length → d < k → IsTrim out (xs.take i) → out.length + z = i → topiaryref02_Trim.l0 k xs out (z : Int) (i : Int) = some (trim xs)) ∧
    (∀ (i z : Nat) (out : List Int), 2 * (xs.length - i) + z = d + 1 → i < xs.length → d < k → at_ xs i ≠ 0 → out ++ List.replicate z 0 = xs.take i → topiaryref02_Trim.l1 k xs out (z : Int) (i : Int) = some (trim xs)) := by
  intro d
  induction d using Nat.strongRecOn with
  | _ d ih =>
    intro k
    refine ⟨fun i z out hd hi hk ht hz => ?_, fun i z out hd hi hk h0 hz => ?_⟩
    · obtain ⟨k, rfl⟩ : ∃ m, k = m + 1 := ⟨k - 1, by omega⟩
      simp only [topiaryref02_Trim.l0]
      by_cases hl : i < xs.length
      · rw [if_pos (by omega), if_pos (by omega), rd_get xs i hl]
        by_cases e : xs[i] = 0
        · rw [if_pos e, wrap_in (by omega) (by omega), wrap_in (by omega) (by omega), step_nat, step_nat]
          refine (ih (d - 1) (by omega) k).1 (i + 1) (z + 1) out (by omega) (by omega) (by omega) ?_ (by omega)
          rw [List.take_succ_eq_append_getElem hl, e]
          exact ht.pad 1
        · rw [if_neg e]
          refine (ih (d - 1) (by omega) k).2 i z out (by omega) hl (by omega) (by simpa [at_, List.getD_eq_getElem?_getD, hl] using e) ?_
          obtain ⟨⟨y, hy⟩, _⟩ := ht
          have := congrArg List.length hy
          simp at this
          rw [hy, show z = y from by omega]
      · rw [if_neg (by omega)]
        rw [List.take_of_length_le (by omega)] at ht
        rw [trim_eq ht]
    · obtain ⟨k, rfl⟩ : ∃ m, k = m + 1 := ⟨k - 1, by omega⟩
      have hlen := congrArg List.length hz
      simp at hlen
      simp only [topiaryref02_Trim.l1]
      cases z with
      | succ z =>
        rw [if_pos (by omega), if_pos (by omega), wrap_in (by omega) (by omega), show ((z + 1 : Nat) : Int) - 1 = (z : Int) from by omega]
        refine (ih (d - 1) (by omega) k).2 i z (out ++ [0]) (by omega) hi (by omega) h0 ?_
        rw [← hz, List.replicate_succ]; simp
      | zero =>
        rw [if_neg (by omega), if_pos (by omega), if_pos (by omega), if_pos (by omega), wrap_in (by omega) (by omega), step_nat, rd_get xs i hi]
        have ho : out = xs.take i := by simpa using hz
        refine (ih (d - 1) (by omega) k).1 (i + 1) 0 (out ++ [xs[i]]) (by omega) (by omega) (by omega) ?_ (by simp at hlen ⊢; omega)
        rw [List.take_succ_eq_append_getElem hi, ho]
        refine ⟨⟨0, by simp⟩, fun a r h => ?_⟩
        have := (List.append_inj' h rfl).2
        injection this with h2 _; rw [← h2]
        simpa [at_, List.getD_eq_getElem?_getD, hi] using h0
theorem rTrim (xs : List Int) (hn : xs.length ≤ 17592186043904) : Ev (fun k => topiaryref02_Trim.f k xs) (trim xs) :=
  ⟨2 * xs.length + 1, fun k hk => (rTrim_both xs hn (2 * xs.length) k).1 0 0 [] (by omega) (by omega) (by omega) ⟨⟨0, by simp⟩, fun a r h => by simp at h⟩ (by simp)⟩

/-- Is a stamp right, as a plain test. -/
def isR (a b : Int) : Bool := decide (1 ≤ a) && (decide (a ≤ 1099511627776) && (decide (0 ≤ b) && decide (b < 64)))
theorem right_f (a b : Int) : ident_Right.f a b = some (isR a b) := by
  unfold ident_Right.f ident_replica.f isR
  by_cases h1 : 1 ≤ a <;> by_cases h2 : a ≤ 1099511627776 <;> by_cases h3 : 0 ≤ b <;> simp [h1, h2, h3]

theorem refright_f (a b : Int) : topiaryref01_Right.f a b = some (isR a b) := by
  unfold topiaryref01_Right.f isR
  by_cases h1 : 1 ≤ a <;> by_cases h2 : a ≤ 1099511627776 <;> by_cases h3 : 0 ≤ b <;> simp [h1, h2, h3]
theorem refnode_f (a b : Int) : topiaryref01_Node.f a b = some (isR a b || decide (a = 0 ∧ (b = 0 ∨ b = 1))) := by
  unfold topiaryref01_Node.f
  rw [refright_f]
  simp only [Option.bind_some]
  by_cases h : isR a b = true
  · simp [h]
  · have h' : isR a b = false := by simpa using h
    by_cases h1 : a = 0 <;> by_cases h2 : b = 0 <;> simp [h', h1, h2]
    all_goals simp_all
    all_goals by_cases h3 : b = 1 <;> simp [h3]

/-! two changes that are the same, and that the program answers at all -/
theorem awake : Ev (fun k => topiarylaw05_awake.f k) true := Ev.of topiarylaw05_awake.mono (k := 40) (by decide +kernel)

theorem qsize_len (a : ByteArray) : a.size = a.data.toList.length := rfl
theorem qbt (a : ByteArray) (i : Nat) (h : i < a.data.toList.length) : bt a (i : Int) = ((a.data.toList[i]).toNat : Int) := by
  have h' : ((i : Int)).toNat < a.size := by rw [Int.toNat_natCast]; exact h
  rw [← bt_at a (i : Int) h']
  rfl

theorem beq2 (a b c d : Int) : (a == c && (b == d)) = decide (a = c ∧ b = d) := by
  by_cases h1 : a = c <;> by_cases h2 : b = d <;> simp [h1, h2]

def lc (x : UInt8) : Bool := decide (97 ≤ x.toNat) && decide (x.toNat ≤ 122)
def nmc (x : UInt8) : Bool := lc x || (decide (48 ≤ x.toNat) && decide (x.toNat ≤ 57)) || decide (x.toNat = 45)
def nameB (l : List UInt8) : Bool := decide (l ≠ []) && (decide (l.length ≤ 32) && (l.head?.any lc && l.all nmc))
theorem trim_self {ds : List Int} (h : ∀ a r, ds = r ++ [a] → a ≠ 0) : trim ds = ds := (trim_eq ⟨⟨0, by simp⟩, h⟩).symm

/-! may a change be? -/
def lessB (a b c d : Int) : Bool := decide (a < c ∨ (a = c ∧ b < d))
theorem less_f (a b c d : Int) : ident_Less.f a b c d = some (lessB a b c d) := by
  unfold ident_Less.f ident_Compare.f lessB
  by_cases h1 : a = c
  · subst h1
    by_cases h2 : b = d
    · subst h2; simp
    · by_cases h3 : b < d <;> simp [h2, h3]
  · by_cases h3 : a < c <;> simp [h1, h3]
def ndB (a b : Int) : Bool := isR a b || decide (a = 0 ∧ (b = 0 ∨ b = 1))
theorem node_ident_f (a b : Int) : ident_Node.f a b = some (ndB a b) := by
  unfold ident_Node.f ndB
  rw [right_f]
  simp only [Option.bind_some]
  by_cases h : isR a b = true
  · rw [if_pos h, h]; rfl
  · rw [if_neg h]
    have hf : isR a b = false := by simpa using h
    rw [hf]
    by_cases h1 : a = 0 <;> by_cases h2 : b = 0 <;> by_cases h3 : b = 1 <;> simp [h1, h2, h3]
def atV (ds : List Int) (i : Int) : Int := if 0 ≤ i ∧ i < ds.length then rd ds i else 0
def depsV (ds : List Int) (b s : Int) : Int := if chk ds = 0 then (if ds.getLast? = some 0 then 2 else if atV ds b = wrap64 (s - 1) then 0 else 2) else chk ds
theorem at_f (ds : List Int) (i : Int) : clock_At.f ds i = some (atV ds i) := pAt ds i
theorem last_rd (ds : List Int) (h : 0 < ds.length) : ds.getLast? = some (rd ds ((ds.length - 1 : Nat) : Int)) := by
  rw [rd_get _ _ (by omega), List.getLast?_eq_getElem?, List.getElem?_eq_getElem]
theorem deps_f (a b s : Int) (ds : List Int) (kd n1 n2 p1 p2 q1 q2 : Int) (nm vl : ByteArray) (hn : ds.length ≤ 17592186043904) : Ev (fun k => change_deps.f k a b s ds kd n1 n2 p1 p2 q1 q2 nm vl) (depsV ds b s) := by
  unfold change_deps.f depsV
  refine Ev.bind (pCheck ds hn) ?_
  by_cases hc : chk ds = 0
  · rw [if_pos hc]
    simp only [hc, if_true, at_f, Option.bind_some]
    generalize atV ds b = v
    by_cases h0 : ds.length = 0
    · have e : ds = [] := List.eq_nil_of_length_eq_zero h0
      subst e
      have e1 : ¬ ((([] : List Int).length : Int) > 0) := by simp
      have e2 : ¬ (([] : List Int).getLast? = some 0) := by simp
      rw [if_neg e1, if_neg e2]
      split <;> exact Ev.now _
    · have hw : wrap64 ((ds.length : Int) - 1) = ((ds.length - 1 : Nat) : Int) := by unfold wrap64; omega
      rw [if_pos (by omega), hw, if_pos (by omega), if_pos (by omega), last_rd ds (by omega)]
      by_cases h1 : rd ds ((ds.length - 1 : Nat) : Int) = 0
      · rw [if_pos h1, if_pos (show some (rd ds ((ds.length - 1 : Nat) : Int)) = some 0 from by rw [h1])]; exact Ev.now _
      · rw [if_neg h1, if_neg (show ¬ (some (rd ds ((ds.length - 1 : Nat) : Int)) = some 0) from fun e => h1 (Option.some.inj e))]
        split <;> exact Ev.now _
  · simp only [hc, if_false]; exact Ev.now _
def nodeV (a b kd n1 n2 : Int) : Bool := if kd = 1 then decide (n1 = a ∧ n2 = b) else if kd = 2 then isR n1 n2 && lessB n1 n2 a b else decide (n1 = 0 ∧ n2 = 0) || (isR n1 n2 && lessB n1 n2 a b)
theorem node_f (a b s : Int) (ds : List Int) (kd n1 n2 p1 p2 q1 q2 : Int) (nm vl : ByteArray) : change_node.f a b s ds kd n1 n2 p1 p2 q1 q2 nm vl = some (nodeV a b kd n1 n2) := by
  unfold change_node.f nodeV
  simp only [right_f, less_f, Option.bind_some, beq2]
  split
  · rfl
  · split
    · cases isR n1 n2 <;> rfl
    · by_cases hz : n1 = 0 ∧ n2 = 0
      · simp [hz]
      · simp only [hz, decide_false, Bool.false_eq_true, if_false, Bool.false_or]
        cases isR n1 n2 <;> rfl
def placeV (a b kd n1 n2 p1 p2 q1 q2 : Int) : Bool := if kd = 1 ∨ kd = 2 then (ndB p1 p2 && lessB p1 p2 a b && !decide (p1 = n1 ∧ p2 = n2)) && (decide (q1 = 0 ∧ q2 = 0) || (isR q1 q2 && lessB q1 q2 a b)) else decide (p1 = 0 ∧ p2 = 0) && decide (q1 = 0 ∧ q2 = 0)
theorem place_j1 (k : Nat) (x : Bool) (a b s : Int) (ds : List Int) (kd n1 n2 p1 p2 q1 q2 : Int) (nm vl : ByteArray) : change_place.j1 (k + 1) x a b s ds kd n1 n2 p1 p2 q1 q2 nm vl = some (!x && (decide (q1 = 0 ∧ q2 = 0) || (isR q1 q2 && lessB q1 q2 a b))) := by
  unfold change_place.j1
  simp only [right_f, less_f, Option.bind_some, beq2]
  cases x with
  | true => rfl
  | false =>
    simp only [Bool.false_eq_true, if_false, Bool.not_false, Bool.true_and]
    by_cases hz : q1 = 0 ∧ q2 = 0
    · simp [hz]
    · simp only [hz, decide_false, Bool.false_eq_true, if_false, Bool.false_or]
      cases isR q1 q2 <;> rfl
theorem place_f (k : Nat) (a b s : Int) (ds : List Int) (kd n1 n2 p1 p2 q1 q2 : Int) (nm vl : ByteArray) : change_place.f (k + 2) a b s ds kd n1 n2 p1 p2 q1 q2 nm vl = some (placeV a b kd n1 n2 p1 p2 q1 q2) := by
  have hj : ∀ x : Bool, change_place.j0 (k + 2) x a b s ds kd n1 n2 p1 p2 q1 q2 nm vl = some (if x = false then (ndB p1 p2 && lessB p1 p2 a b && !decide (p1 = n1 ∧ p2 = n2)) && (decide (q1 = 0 ∧ q2 = 0) || (isR q1 q2 && lessB q1 q2 a b)) else decide (p1 = 0 ∧ p2 = 0) && decide (q1 = 0 ∧ q2 = 0)) := by
    intro x
    unfold change_place.j0
    simp only [node_ident_f, less_f, Option.bind_some, beq2, place_j1]
    cases x with
    | true =>
      simp only [if_true, Bool.true_eq_false, if_false]
      by_cases hz : p1 = 0 ∧ p2 = 0
      · simp only [hz, and_self, decide_true, if_true, Bool.true_and]
      · simp only [hz, decide_false, Bool.false_eq_true, if_false, Bool.false_and]
    | false =>
      simp only [Bool.false_eq_true, if_false, if_true]
      cases ndB p1 p2 <;> cases lessB p1 p2 a b <;> simp
  unfold change_place.f placeV
  rw [hj, hj]
  by_cases h1 : kd = 1
  · simp [h1]
  · by_cases h2 : kd = 2
    · subst h2; simp
    · have hb : (kd != 2) = true := by rw [bne_iff_ne]; exact h2
      rw [if_neg h1, hb, if_neg (show ¬ (kd = 1 ∨ kd = 2) from by simp [h1, h2]), if_neg (show ¬ (true = false) from by simp)]
theorem name_l0 (s : ByteArray) (hs : s.size ≤ 32) : ∀ (d i k : Nat), i + d = s.size → d < k → change_Name.l0 k s (s.size : Int) (i : Int) = some ((s.data.toList.drop i).all nmc)
  | d, i, 0, hi, hk => by omega
  | 0, i, k + 1, hi, hk => by
    simp only [change_Name.l0]
    rw [if_neg (by omega), List.drop_eq_nil_of_le (by rw [← qsize_len]; omega)]
    rfl
  | d + 1, i, k + 1, hi, hk => by
    have hl : i < s.data.toList.length := by rw [← qsize_len]; omega
    have hw : wrap64 ((i : Int) + 1) = ((i + 1 : Nat) : Int) := by unfold wrap64; omega
    have ih := name_l0 s hs d (i + 1) k (by omega) (by omega)
    simp only [change_Name.l0]
    rw [if_pos (by omega), if_pos (by omega), if_pos (by omega), qbt s i hl, hw, ih, List.drop_eq_getElem_cons hl, List.all_cons]
    generalize (List.drop (i + 1) s.data.toList).all nmc = r
    generalize s.data.toList[i] = x
    unfold nmc lc
    by_cases h1 : (x.toNat : Int) < 97
    · rw [if_pos h1]
      by_cases h2 : (x.toNat : Int) < 48
      · rw [if_pos h2]
        by_cases h3 : (x.toNat : Int) = 45
        · have h3' : x.toNat = 45 := by omega
          rw [if_pos h3]; simp [h3']
        · rw [if_neg h3]
          have a1 : ¬ 97 ≤ x.toNat := by omega
          have a2 : ¬ 48 ≤ x.toNat := by omega
          have a3 : ¬ x.toNat = 45 := by omega
          simp [a1, a2, a3]
      · rw [if_neg h2]
        by_cases h4 : (x.toNat : Int) > 57
        · rw [if_pos h4, if_neg (by omega)]
          have a1 : ¬ 97 ≤ x.toNat := by omega
          have a2 : ¬ x.toNat ≤ 57 := by omega
          have a3 : ¬ x.toNat = 45 := by omega
          simp [a1, a2, a3]
        · rw [if_neg h4]
          have a2 : 48 ≤ x.toNat := by omega
          have a3 : x.toNat ≤ 57 := by omega
          simp [a2, a3]
    · rw [if_neg h1]
      by_cases h2 : (x.toNat : Int) > 122
      · rw [if_pos h2, if_neg (by omega), if_pos (by omega), if_neg (by omega)]
        have a1 : ¬ x.toNat ≤ 122 := by omega
        have a2 : ¬ x.toNat ≤ 57 := by omega
        have a3 : ¬ x.toNat = 45 := by omega
        simp [a1, a2, a3]
      · rw [if_neg h2]
        have a1 : 97 ≤ x.toNat := by omega
        have a2 : x.toNat ≤ 122 := by omega
        simp [a1, a2]
theorem name_f (s : ByteArray) (k : Nat) : change_Name.f (k + 40) s = some (nameB s.data.toList) := by
  unfold change_Name.f nameB
  have hz : s.size = s.data.toList.length := rfl
  by_cases h0 : s.size = 0
  · have e : s.data.toList = [] := List.eq_nil_of_length_eq_zero (by omega)
    rw [if_pos (by omega), e]
    simp [change_Name.j0]
  · rw [if_neg (by omega)]
    have hne : s.data.toList ≠ [] := fun e => h0 (by rw [hz, e]; rfl)
    by_cases h1 : s.size > 32
    · rw [if_pos (by omega)]
      have : ¬ s.data.toList.length ≤ 32 := by omega
      rw [decide_eq_false this, Bool.false_and, Bool.and_false]
      simp only [change_Name.j0, if_true]
    · have hl : 0 < s.data.toList.length := by omega
      have hh : s.data.toList.head? = some s.data.toList[0] := List.head?_eq_getElem? ▸ List.getElem?_eq_getElem hl
      have hb : bt s 0 = ((s.data.toList[0]).toNat : Int) := by simpa using qbt s 0 hl
      have hrun : change_Name.l0 (k + 39) s (s.size : Int) 0 = some (s.data.toList.all nmc) := by
        have := name_l0 s (by omega) s.size 0 (k + 39) (by omega) (by omega)
        simpa using this
      have hle : s.data.toList.length ≤ 32 := by omega
      rw [if_neg (by omega), if_pos (by omega), hb, hh]
      simp only [Option.any_some, hne, hle, ne_eq, not_false_eq_true, decide_true, Bool.true_and]
      generalize s.data.toList[0] = x
      unfold lc
      by_cases h2 : (x.toNat : Int) < 97
      · rw [if_pos h2]
        have a1 : ¬ 97 ≤ x.toNat := by omega
        simp [change_Name.j0, a1]
      · rw [if_neg h2]
        have a1 : 97 ≤ x.toNat := by omega
        by_cases h3 : (x.toNat : Int) > 122
        · have a2 : ¬ x.toNat ≤ 122 := by omega
          rw [decide_eq_true h3]
          simp [change_Name.j0, a2]
        · have a2 : x.toNat ≤ 122 := by omega
          rw [decide_eq_false h3]
          simp only [change_Name.j0, Bool.false_eq_true, if_false]
          rw [hrun]
          simp [a1, a2]
def named (kd : Int) : Bool := decide (kd = 1 ∨ kd = 3 ∨ kd = 4)
def valued (kd : Int) : Bool := decide (kd = 3 ∨ kd = 5)
def wordsV (kd : Int) (nm vl : List UInt8) : Int := if (if named kd = true then nameB nm else decide (nm = [])) = true then (if vl.length > 256 then 3 else if valued kd = true then 0 else if vl = [] then 0 else 2) else 8
theorem isE {l : List UInt8} : (!l.isEmpty) = !decide (l = []) := by cases l <;> simp
theorem words_ok (kd : Int) (nm vl : ByteArray) (k : Nat) : words_f (k + 40) kd nm vl = some (wordsV kd nm.data.toList vl.data.toList) := by
  unfold words_f words_bad wordsV words_rest named valued
  have hz : vl.size = vl.data.toList.length := rfl
  simp only [name_f, Option.bind_some, isE, ByteArray.toList_eq, hz]
  have hr : (if ((vl.data.toList.length : Nat) : Int) > 256 then (3 : Int) else if kd = 3 ∨ kd = 5 then 0 else if (!decide (vl.data.toList = [])) = true then 2 else 0) = (if vl.data.toList.length > 256 then 3 else if decide (kd = 3 ∨ kd = 5) = true then 0 else if vl.data.toList = [] then 0 else 2) := by
    simp only [decide_eq_true_eq, Bool.not_eq_true', decide_eq_false_iff_not]
    by_cases h1 : vl.data.toList.length > 256
    · rw [if_pos (by omega), if_pos h1]
    · rw [if_neg (by omega), if_neg h1]
      by_cases h2 : kd = 3 ∨ kd = 5
      · rw [if_pos h2, if_pos h2]
      · rw [if_neg h2, if_neg h2]
        by_cases h3 : vl.data.toList = [] <;> simp [h3]
  rw [hr]
  by_cases hk : kd = 1 ∨ kd = 3 ∨ kd = 4
  · simp only [hk, if_true, decide_true, Option.bind_some]
    cases nameB nm.data.toList <;> rfl
  · simp only [hk, if_false, decide_false, Bool.false_eq_true, Option.bind_some]
    by_cases he : nm.data.toList = [] <;> simp [he]
/-- Why a change may not be. -/
def checkV (a b s : Int) (ds : List Int) (kd n1 n2 p1 p2 q1 q2 : Int) (nm vl : List UInt8) : Int := if kd < 1 ∨ kd > 5 then 1 else if isR a b = true then (if s < 1 ∨ s > a then 1 else if depsV ds b s = 0 then (if nodeV a b kd n1 n2 = true then (if placeV a b kd n1 n2 p1 p2 q1 q2 = true then wordsV kd nm vl else 2) else 2) else depsV ds b s) else 2
theorem check_f (a b s : Int) (ds : List Int) (kd n1 n2 p1 p2 q1 q2 : Int) (nm vl : ByteArray) (hn : ds.length ≤ 17592186043904) : Ev (fun k => change_Check.f k a b s ds kd n1 n2 p1 p2 q1 q2 nm vl) (checkV a b s ds kd n1 n2 p1 p2 q1 q2 nm.data.toList vl.data.toList) := by
  have hj : ∀ x : Bool, Ev (fun k => change_Check.j0 k x a b s ds kd n1 n2 p1 p2 q1 q2 nm vl) (if x = true then 1 else if isR a b = true then (if s < 1 ∨ s > a then 1 else if depsV ds b s = 0 then (if nodeV a b kd n1 n2 = true then (if placeV a b kd n1 n2 p1 p2 q1 q2 = true then wordsV kd nm.data.toList vl.data.toList else 2) else 2) else depsV ds b s) else 2) := by
    intro x
    refine Ev.step (fun k => by unfold change_Check.j0; rfl) ?_
    cases x with
    | true => exact Ev.now _
    | false =>
      simp only [Bool.false_eq_true, if_false, right_f, Option.bind_some, node_f]
      by_cases hR : isR a b = true
      · simp only [hR, if_true]
        by_cases h1 : s < 1
        · simp only [h1, if_true, true_or]; exact Ev.now _
        · by_cases h2 : s > a
          · simp only [h1, if_false, h2, if_true, or_true]; exact Ev.now _
          · simp only [h1, if_false, h2, or_self]
            refine Ev.bind (deps_f a b s ds kd n1 n2 p1 p2 q1 q2 nm vl hn) ?_
            by_cases h3 : depsV ds b s = 0
            · simp only [h3, if_true]
              by_cases h4 : nodeV a b kd n1 n2 = true
              · simp only [h4, if_true]
                refine Ev.bind ⟨2, fun k hk => by obtain ⟨k, rfl⟩ : ∃ m, k = m + 2 := ⟨k - 2, by omega⟩; exact place_f k a b s ds kd n1 n2 p1 p2 q1 q2 nm vl⟩ ?_
                by_cases h5 : placeV a b kd n1 n2 p1 p2 q1 q2 = true
                · simp only [h5, if_true]
                  refine Ev.bind ⟨40, fun k hk => by obtain ⟨k, rfl⟩ : ∃ m, k = m + 40 := ⟨k - 40, by omega⟩; exact words_ok kd nm vl k⟩ ?_
                  exact Ev.now _
                · simp only [h5]; exact Ev.now _
              · simp only [h4]; exact Ev.now _
            · simp only [h3, if_false]; exact Ev.now _
      · simp only [hR]; exact Ev.now _
  unfold change_Check.f checkV
  by_cases h1 : kd < 1
  · simp only [h1, if_true, true_or]
    exact hj true
  · simp only [h1, if_false, false_or]
    have := hj (decide (kd > 5))
    simp only [decide_eq_true_eq] at this
    exact this

/-! the document's check -/
theorem rless_f (a b c d : Int) : topiaryref01_Less.f a b c d = some (lessB a b c d) := by
  unfold topiaryref01_Less.f lessB
  by_cases h1 : a < c
  · rw [if_pos h1, decide_eq_true (.inl h1)]
  · rw [if_neg h1]
    by_cases h2 : a = c
    · rw [if_pos h2]; simp [h2]
    · rw [if_neg h2]; simp [h1, h2]
theorem rahead_f (a b c d : Int) : topiaryref05_ahead.f a b c d = some (isR a b && lessB a b c d) := by
  unfold topiaryref05_ahead.f
  rw [refright_f, rless_f]
  simp only [Option.bind_some]
  cases isR a b <;> rfl
theorem rnd_f (a b : Int) : topiaryref01_Node.f a b = some (ndB a b) := refnode_f a b
theorem rname_l0 (s : ByteArray) (hs : s.size ≤ 9223372036854775807) : ∀ (d i k : Nat), 1 ≤ i → i + d = s.size → d < k → topiaryref05_Name.l0 k s (i : Int) = some ((s.data.toList.drop i).all nmc && decide (s.size ≤ 32))
  | d, i, 0, h1, hi, hk => by omega
  | 0, i, k + 1, h1, hi, hk => by
    simp only [topiaryref05_Name.l0]
    rw [if_neg (by omega), if_pos (by omega), List.drop_eq_nil_of_le (by rw [← qsize_len]; omega)]
    have : decide ((s.size : Int) ≤ 32) = decide (s.size ≤ 32) := decide_eq_decide.mpr (by omega)
    rw [this]; rfl
  | d + 1, i, k + 1, h1, hi, hk => by
    have hl : i < s.data.toList.length := by rw [← qsize_len]; omega
    have hw : wrap64 ((i : Int) + 1) = ((i + 1 : Nat) : Int) := by unfold wrap64; omega
    have ih := rname_l0 s hs d (i + 1) k (by omega) (by omega) (by omega)
    have e0 : ¬ ((i : Int) = 0) := by omega
    simp only [topiaryref05_Name.l0]
    rw [if_pos (by omega), if_pos (by omega), qbt s i hl, hw, ih, List.drop_eq_getElem_cons hl, List.all_cons, if_neg e0]
    generalize (List.drop (i + 1) s.data.toList).all nmc = r
    generalize decide (s.size ≤ 32) = t
    generalize s.data.toList[i] = x
    have key : (if (x.toNat : Int) = 45 then some (r && t) else if (x.toNat : Int) < 48 then some false else if (x.toNat : Int) > 57 then some false else some (r && t)) = some ((((decide (48 ≤ x.toNat) && decide (x.toNat ≤ 57)) || decide (x.toNat = 45)) && r) && t) := by
      by_cases h3 : x.toNat = 45
      · rw [if_pos (by omega)]; simp [h3]
      · rw [if_neg (by omega)]
        by_cases h4 : x.toNat < 48
        · have a1 : ¬ 48 ≤ x.toNat := by omega
          rw [if_pos (by omega)]; simp [a1, h3]
        · rw [if_neg (by omega)]
          by_cases h5 : x.toNat > 57
          · have a1 : ¬ x.toNat ≤ 57 := by omega
            rw [if_pos (by omega)]; simp [a1, h3]
          · have a1 : x.toNat ≤ 57 := by omega
            have a2 : 48 ≤ x.toNat := by omega
            rw [if_neg (by omega)]; simp [a1, a2]
    unfold nmc lc
    by_cases h2 : (x.toNat : Int) ≥ 97
    · rw [if_pos h2]
      by_cases h3 : (x.toNat : Int) ≤ 122
      · have a1 : 97 ≤ x.toNat := by omega
        have a2 : x.toNat ≤ 122 := by omega
        rw [if_pos h3]; simp [a1, a2]
      · have a2 : ¬ x.toNat ≤ 122 := by omega
        rw [if_neg h3, key, decide_eq_false a2, Bool.and_false, Bool.false_or]
    · have a1 : ¬ 97 ≤ x.toNat := by omega
      rw [if_neg h2, key, decide_eq_false a1, Bool.false_and, Bool.false_or]
theorem all_head : ∀ (l : List UInt8) (h : 0 < l.length), l.all nmc = (nmc l[0] && (l.drop 1).all nmc)
  | [], h => by simp at h
  | x :: r, h => by simp
theorem rname_f (s : ByteArray) (hs : s.size ≤ 9223372036854775807) : Ev (fun k => topiaryref05_Name.f k s) (nameB s.data.toList) := by
  refine ⟨s.size + 2, fun k hk => ?_⟩
  obtain ⟨k, rfl⟩ : ∃ m, k = m + 1 := ⟨k - 1, by omega⟩
  have hz : s.size = s.data.toList.length := rfl
  simp only [topiaryref05_Name.f, topiaryref05_Name.l0]
  unfold nameB
  by_cases h0 : s.size = 0
  · have e : s.data.toList = [] := List.eq_nil_of_length_eq_zero (by omega)
    rw [if_neg (by omega), if_neg (by omega), e]; rfl
  · have hl : 0 < s.data.toList.length := by omega
    have hne : s.data.toList ≠ [] := fun e => h0 (by rw [hz, e]; rfl)
    have hh : s.data.toList.head? = some s.data.toList[0] := List.head?_eq_getElem? ▸ List.getElem?_eq_getElem hl
    have hb : bt s 0 = ((s.data.toList[0]).toNat : Int) := by simpa using qbt s 0 hl
    have hw : wrap64 ((0 : Int) + 1) = ((1 : Nat) : Int) := by unfold wrap64; omega
    have hall : s.data.toList.all nmc = (nmc s.data.toList[0] && (s.data.toList.drop 1).all nmc) := all_head _ hl
    have hr := rname_l0 s hs (s.size - 1) 1 k (by omega) (by omega) (by omega)
    rw [if_pos (by omega), if_pos (by omega), hb, hw, hr, hh, hall, decide_eq_true hne, ← hz]
    simp only [Option.any_some, Bool.true_and, if_true]
    generalize (List.drop 1 s.data.toList).all nmc = r
    generalize decide (s.size ≤ 32) = t
    generalize s.data.toList[0] = x
    unfold nmc lc
    by_cases h2 : (x.toNat : Int) ≥ 97
    · rw [if_pos h2]
      have a1 : 97 ≤ x.toNat := by omega
      by_cases h3 : (x.toNat : Int) ≤ 122
      · have a2 : x.toNat ≤ 122 := by omega
        rw [if_pos h3]; simp [a1, a2, Bool.and_comm]
      · have a2 : ¬ x.toNat ≤ 122 := by omega
        rw [if_neg h3]; simp [a2]
    · have a1 : ¬ 97 ≤ x.toNat := by omega
      rw [if_neg h2]; simp [a1]
theorem nbeq (a b c d : Int) : (!(a == c) || !(b == d)) = !decide (a = c ∧ b = d) := by
  by_cases h1 : a = c <;> by_cases h2 : b = d <;> simp [h1, h2]
theorem placed_f (k : Nat) (a b s : Int) (ds : List Int) (kd n1 n2 p1 p2 q1 q2 : Int) (nm vl : ByteArray) (h1 : 1 ≤ kd) : topiaryref05_placed.f (k + 1) a b s ds kd n1 n2 p1 p2 q1 q2 nm vl = some (nodeV a b kd n1 n2 && placeV a b kd n1 n2 p1 p2 q1 q2) := by
  have hj : ∀ x : Bool, topiaryref05_placed.j0 (k + 1) x a b s ds kd n1 n2 p1 p2 q1 q2 nm vl 0 0 = some (!x && placeV a b kd n1 n2 p1 p2 q1 q2) := by
    intro x
    unfold topiaryref05_placed.j0 placeV
    simp only [rnd_f, rless_f, rahead_f, Option.bind_some, beq2, nbeq]
    cases x with
    | true => rfl
    | false =>
      simp only [Bool.false_eq_true, if_false, Bool.not_false, Bool.true_and]
      by_cases h2 : kd > 2
      · rw [if_pos h2, if_neg (show ¬ (kd = 1 ∨ kd = 2) from by omega)]
        by_cases hz : p1 = 0 ∧ p2 = 0
        · simp only [hz, and_self, decide_true, if_true, Bool.true_and]
        · simp only [hz, decide_false, Bool.false_eq_true, if_false, Bool.false_and]
      · rw [if_neg h2, if_pos (show kd = 1 ∨ kd = 2 from by omega)]
        generalize ndB p1 p2 = u1
        generalize lessB p1 p2 a b = u2
        generalize decide (p1 = n1 ∧ p2 = n2) = u3
        generalize decide (q1 = 0 ∧ q2 = 0) = u4
        generalize (isR q1 q2 && lessB q1 q2 a b) = u5
        cases u1 <;> cases u2 <;> cases u3 <;> cases u4 <;> cases u5 <;> rfl
  unfold topiaryref05_placed.f nodeV
  simp only [rahead_f, Option.bind_some, beq2, nbeq, hj]
  generalize placeV a b kd n1 n2 p1 p2 q1 q2 = pv
  generalize (isR n1 n2 && lessB n1 n2 a b) = av
  by_cases k1 : kd = 1
  · subst k1
    generalize decide (n1 = a ∧ n2 = b) = u
    cases u <;> cases pv <;> rfl
  · by_cases k2 : kd = 2
    · subst k2
      cases av <;> cases pv <;> rfl
    · rw [if_neg k1, if_neg k2, if_neg k1, if_neg k2, if_pos (by omega)]
      generalize decide (n1 = 0 ∧ n2 = 0) = u
      cases u <;> cases av <;> cases pv <;> rfl
theorem trim_len (ds : List Int) : (trim ds).length = ds.length ↔ ¬ ds.getLast? = some 0 := by
  obtain ⟨⟨z, hz⟩, hn⟩ := trim_is ds
  constructor
  · intro h hl
    have hz0 : z = 0 := by
      have := congrArg List.length hz
      simp at this; omega
    subst hz0
    simp only [List.replicate_zero, List.append_nil] at hz
    rcases hd : ds with _ | ⟨x, r⟩
    · rw [hd] at hl; cases hl
    · obtain ⟨r', y, hy⟩ : ∃ r' y, ds = r' ++ [y] := ⟨ds.dropLast, ds.getLast (by rw [hd]; simp), (List.dropLast_concat_getLast (by rw [hd]; simp)).symm⟩
      have h0 : y = 0 := by rw [hy, List.getLast?_append] at hl; simpa using hl
      exact hn y r' (by rw [← hz]; exact hy) h0
  · intro h
    rw [trim_self]
    rintro a r e rfl
    exact h (by rw [e]; simp)
theorem rat_f (ds : List Int) (i : Int) : topiaryref02_At.f ds i = some (atV ds i) := rAt ds i
theorem rcheck_f (a b s : Int) (ds : List Int) (kd n1 n2 p1 p2 q1 q2 : Int) (nm vl : ByteArray) (hn : ds.length ≤ 17592186043904) (hm : nm.size ≤ 9223372036854775807) : Ev (fun k => topiaryref05_Check.f k a b s ds kd n1 n2 p1 p2 q1 q2 nm vl) (checkV a b s ds kd n1 n2 p1 p2 q1 q2 nm.data.toList vl.data.toList) := by
  have hz : vl.size = vl.data.toList.length := rfl
  have h4 : ∀ x : Bool, Ev (fun k => topiaryref05_Check.j4 k x a b s ds kd n1 n2 p1 p2 q1 q2 nm vl) (if x = true then 8 else if vl.data.toList.length > 256 then 3 else if valued kd = true then 0 else if vl.data.toList = [] then 0 else 2) := by
    intro x
    refine Ev.step (fun k => by unfold topiaryref05_Check.j4; rfl) ?_
    cases x with
    | true => exact Ev.now _
    | false =>
      simp only [Bool.false_eq_true, if_false, ByteArray.toList_eq, hz, valued, decide_eq_true_eq]
      by_cases h1 : vl.data.toList.length > 256
      · rw [if_pos (by omega), if_pos h1]; exact Ev.now _
      · rw [if_neg (by omega), if_neg h1]
        by_cases h2 : kd = 3
        · rw [if_pos h2, if_pos (.inl h2)]; exact Ev.now _
        · rw [if_neg h2]
          by_cases h3 : kd = 5
          · rw [if_pos h3, if_pos (.inr h3)]; exact Ev.now _
          · rw [if_neg h3, if_neg (show ¬ (kd = 3 ∨ kd = 5) from by omega)]
            split <;> exact Ev.now _
  have h3 : ∀ x : Bool, x = named kd → Ev (fun k => topiaryref05_Check.j3 k x a b s ds kd n1 n2 p1 p2 q1 q2 nm vl) (wordsV kd nm.data.toList vl.data.toList) := by
    rintro x rfl
    refine Ev.step (fun k => by unfold topiaryref05_Check.j3; rfl) ?_
    unfold wordsV
    cases named kd with
    | true =>
      simp only [if_true]
      refine Ev.bind (rname_f nm hm) ?_
      cases nameB nm.data.toList with
      | true => simp only [if_true]; exact h4 false
      | false => simp only [Bool.false_eq_true, if_false]; exact h4 true
    | false =>
      simp only [Bool.false_eq_true, if_false, ByteArray.toList_eq, decide_eq_true_eq]
      by_cases he : nm.data.toList = []
      · have e : (nm.data.toList != []) = false := by simp [he]
        rw [e, if_pos he]; exact h4 false
      · have e : (nm.data.toList != []) = true := by rw [bne_iff_ne]; exact he
        rw [e, if_neg he]; exact h4 true
  have h2 : ∀ x : Bool, Ev (fun k => topiaryref05_Check.j2 k x a b s ds kd n1 n2 p1 p2 q1 q2 nm vl) (if x = true then 2 else wordsV kd nm.data.toList vl.data.toList) := by
    intro x
    refine Ev.step (fun k => by unfold topiaryref05_Check.j2; rfl) ?_
    cases x with
    | true => exact Ev.now _
    | false =>
      simp only [Bool.false_eq_true, if_false]
      by_cases k1 : kd = 1
      · simp only [k1, if_true]; subst k1; exact h3 true rfl
      · by_cases k3 : kd = 3
        · simp only [k1, k3, if_false, if_true]; subst k3; exact h3 true rfl
        · simp only [k1, k3, if_false]
          exact h3 _ (by unfold named; by_cases k4 : kd = 4 <;> simp [k1, k3, k4])
  have h1 : ∀ x : Bool, 1 ≤ kd → Ev (fun k => topiaryref05_Check.j1 k x a b s ds kd n1 n2 p1 p2 q1 q2 nm vl) (if x = true then 1 else if depsV ds b s = 0 then (if nodeV a b kd n1 n2 = true then (if placeV a b kd n1 n2 p1 p2 q1 q2 = true then wordsV kd nm.data.toList vl.data.toList else 2) else 2) else depsV ds b s) := by
    intro x hk
    refine Ev.step (fun k => by unfold topiaryref05_Check.j1; rfl) ?_
    cases x with
    | true => exact Ev.now _
    | false =>
      simp only [Bool.false_eq_true, if_false]
      refine Ev.bind (rCheck ds hn) ?_
      unfold depsV
      by_cases hc : chk ds = 0
      · simp only [hc, if_true]
        refine Ev.bind (rTrim ds hn) ?_
        by_cases ht : (trim ds).length = ds.length
        · have hl := (trim_len ds).mp ht
          rw [if_neg hl]
          refine Ev.congr (fun k => if_pos (by omega)) ?_
          simp only [rat_f, Option.bind_some]
          by_cases ha : atV ds b = wrap64 (s - 1)
          · simp only [ha, if_true]
            refine Ev.bind ⟨1, fun k hk' => by obtain ⟨k, rfl⟩ : ∃ m, k = m + 1 := ⟨k - 1, by omega⟩; exact placed_f k a b s ds kd n1 n2 p1 p2 q1 q2 nm vl hk⟩ ?_
            have := h2 (!(nodeV a b kd n1 n2 && placeV a b kd n1 n2 p1 p2 q1 q2))
            revert this
            cases nodeV a b kd n1 n2 <;> cases placeV a b kd n1 n2 p1 p2 q1 q2 <;> exact id
          · simp only [ha, if_false]
            exact h2 true
        · have hl : ds.getLast? = some 0 := Classical.byContradiction fun e => ht ((trim_len ds).mpr e)
          rw [if_pos hl]
          refine Ev.congr (fun k => if_neg (by omega)) ?_
          exact h2 true
      · simp only [hc, if_false]
        exact Ev.bind (rCheck ds hn) (Ev.now _)
  have h0 : ∀ x : Bool, (x = false → 1 ≤ kd) → Ev (fun k => topiaryref05_Check.j0 k x a b s ds kd n1 n2 p1 p2 q1 q2 nm vl) (if x = true then 1 else if isR a b = true then (if s < 1 ∨ s > a then 1 else if depsV ds b s = 0 then (if nodeV a b kd n1 n2 = true then (if placeV a b kd n1 n2 p1 p2 q1 q2 = true then wordsV kd nm.data.toList vl.data.toList else 2) else 2) else depsV ds b s) else 2) := by
    intro x hx
    refine Ev.step (fun k => by unfold topiaryref05_Check.j0; rfl) ?_
    cases x with
    | true => exact Ev.now _
    | false =>
      simp only [Bool.false_eq_true, if_false, refright_f, Option.bind_some]
      by_cases hR : isR a b = true
      · simp only [hR, if_true]
        by_cases hs1 : s < 1
        · simp only [hs1, if_true, true_or]; exact h1 true (hx rfl)
        · by_cases hs2 : s > a
          · simp only [hs1, if_false, hs2, or_true, if_true]
            exact h1 _ (hx rfl)
          · simp only [hs1, if_false, hs2, or_self]
            exact h1 _ (hx rfl)
      · simp only [hR]; exact Ev.now _
  unfold topiaryref05_Check.f checkV
  by_cases k1 : kd < 1
  · simp only [k1, if_true, true_or]
    exact h0 true (fun e => by cases e)
  · simp only [k1, if_false, false_or]
    have := h0 (decide (kd > 5)) (fun _ => by omega)
    simp only [decide_eq_true_eq] at this
    exact this

theorem eqS (x y : S23) : ((x.f0 == y.f0) && (x.f1 == y.f1)) = decide (x = y) := by
  obtain ⟨a, b⟩ := x
  obtain ⟨c, d⟩ := y
  by_cases h1 : a = c <;> by_cases h2 : b = d <;> simp [h1, h2]
theorem neS (x y : S23) : (!(x.f0 == y.f0) || (!(x.f1 == y.f1))) = !decide (x = y) := by
  rw [← Bool.not_and, eqS]
theorem rd_S (x : List S23) (i : Nat) (h : i < x.length) : rd_T23 x (i : Int) = x[i] := by
  simp [rd_T23, List.getD_eq_getElem?_getD, h]
theorem wrapS {i n : Nat} (h : i < n) (hn : n < 8796093022208) : wrap64 ((i : Int) + 1) = ((i + 1 : Nat) : Int) := by
  unfold wrap64; omega

/-! the stamps that a change names -/
def nmd (a b : Int) (x : S23) : Bool := isR x.f0 x.f1 && !decide (x.f0 = a ∧ x.f1 = b)
theorem names_l0 (ys : List S23) (hy : ys.length ≤ 100) (a b s : Int) (ds : List Int) (kd n1 n2 p1 p2 q1 q2 : Int) (nm vl : ByteArray) : ∀ (d i k : Nat) (acc : List S23), i + d = ys.length → d < k → acc.length ≤ i → change_Names.l0 k acc ys (ys.length : Int) (i : Int) a b s ds kd n1 n2 p1 p2 q1 q2 nm vl = some (srtS (acc ++ (ys.drop i).filter (nmd a b)))
  | d, i, 0, acc, hi, hk, ha => by omega
  | 0, i, k + 1, acc, hi, hk, ha => by
    simp only [change_Names.l0]
    rw [if_neg (by omega), List.drop_eq_nil_of_le (by omega), List.filter_nil, List.append_nil]
    unfold ident_Sort.f
    rw [if_pos (by omega)]
    rfl
  | d + 1, i, k + 1, acc, hi, hk, ha => by
    have hlt : i < ys.length := by omega
    have hw := wrapS hlt (by omega : ys.length < 8796093022208)
    simp only [change_Names.l0]
    rw [if_pos (by omega), if_pos (by omega), if_pos (by omega), rd_S ys i hlt, right_f, hw, List.drop_eq_getElem_cons hlt, List.filter_cons]
    generalize ys[i] = x
    simp only [Option.bind_some, nbeq]
    have ih := fun acc h => names_l0 ys hy a b s ds kd n1 n2 p1 p2 q1 q2 nm vl d (i + 1) k acc (by omega) (by omega) h
    by_cases h1 : isR x.f0 x.f1 = true
    · rw [if_pos h1]
      by_cases h2 : x.f0 = a ∧ x.f1 = b
      · rw [if_neg (by simp [h2]), ih acc (by omega), if_neg (by unfold nmd; simp [h2])]
      · rw [if_pos (by simp [h2]), if_pos (by omega), ih _ (by simp; omega), if_pos (by unfold nmd; simp [h1, h2])]
        rw [List.append_assoc]
        rfl
    · rw [if_neg h1, ih acc (by omega), if_neg (by unfold nmd; simp [h1])]
def three (n1 n2 p1 p2 q1 q2 : Int) : List S23 := [⟨n1, n2⟩, ⟨p1, p2⟩, ⟨q1, q2⟩]
def namesV (a b n1 n2 p1 p2 q1 q2 : Int) : List S23 := srtS ((three n1 n2 p1 p2 q1 q2).filter (nmd a b))
theorem names_f (a b s : Int) (ds : List Int) (kd n1 n2 p1 p2 q1 q2 : Int) (nm vl : ByteArray) : Ev (fun k => change_Names.f k a b s ds kd n1 n2 p1 p2 q1 q2 nm vl) (namesV a b n1 n2 p1 p2 q1 q2) :=
  ⟨4, fun k hk => by
    have := names_l0 (three n1 n2 p1 p2 q1 q2) (by simp [three]) a b s ds kd n1 n2 p1 p2 q1 q2 nm vl 3 0 k [] (by simp [three]) (by omega) (by simp)
    rw [List.nil_append, List.drop_zero] at this
    exact this⟩
theorem names_len (a b n1 n2 p1 p2 q1 q2 : Int) : (namesV a b n1 n2 p1 p2 q1 q2).length ≤ 3 := by
  have key : ∀ (l a : List S23), (l.foldl (fun a x => putS x a) a).length ≤ a.length + l.length := by
    have one : ∀ (x : S23) (l : List S23), (putS x l).length ≤ l.length + 1 := by
      intro x l
      induction l with
      | nil => simp [putS]
      | cons y r ih =>
        unfold putS
        split
        · simp
        · split
          · simp
          · simp; omega
    intro l
    induction l with
    | nil => intro a; simp
    | cons x l ih =>
      intro a
      have h1 := ih (putS x a)
      have h2 := one x a
      simp only [List.foldl_cons, List.length_cons]
      omega
  have h1 := key ((three n1 n2 p1 p2 q1 q2).filter (nmd a b)) []
  have h2 : ((three n1 n2 p1 p2 q1 q2).filter (nmd a b)).length ≤ 3 := List.length_filter_le _ _
  unfold namesV srtS
  simp only [List.length_nil] at h1
  omega

/-! the law -/
theorem wrapm {i : Nat} (h : 0 < i) (hn : i < 8796093022208) : wrap64 ((i : Int) - 1) = ((i - 1 : Nat) : Int) := by unfold wrap64; omega
theorem ahead_l0 (l : List S23) (hl : l.length ≤ 3) (hr : Rises l) (a b : Int) (ha : ∀ x ∈ l, ltS x ⟨a, b⟩) (s : Int) (ds : List Int) (kd n1 n2 p1 p2 q1 q2 : Int) (nm vl : ByteArray) : ∀ (d i : Nat), i + d = l.length → Ev (fun k => topiarylaw05_ChangeAhead.l0 k l (i : Int) a b s ds kd n1 n2 p1 p2 q1 q2 nm vl) true
  | 0, i, hi => by
    refine Ev.step (fun k => by unfold topiarylaw05_ChangeAhead.l0; rfl) ?_
    refine Ev.congr (fun k => (if_neg (by omega)).trans (if_pos (by omega))) ?_
    exact Ev.bind awake (Ev.now _)
  | d + 1, i, hi => by
    have hlt : i < l.length := by omega
    have hw := wrapS hlt (by omega : l.length < 8796093022208)
    have ih := ahead_l0 l hl hr a b ha s ds kd n1 n2 p1 p2 q1 q2 nm vl d (i + 1) (by omega)
    refine Ev.step (fun k => by unfold topiarylaw05_ChangeAhead.l0; rfl) ?_
    refine Ev.congr (fun k => (if_pos (by omega)).trans (if_pos (by omega))) ?_
    have h1 : topiaryref01_Less.f (l[i]).f0 (l[i]).f1 a b = some true := by
      rw [rless_f]
      exact congrArg some (decide_eq_true (ha _ (List.getElem_mem hlt)))
    rw [rd_S l i hlt, h1]
    simp only [Option.bind_some, if_true]
    by_cases h0 : 0 < i
    · have hm := wrapm h0 (by omega : i < 8796093022208)
      have hlt' : i - 1 < l.length := by omega
      refine Ev.congr (fun k => if_pos (by omega)) ?_
      rw [hm, rd_S l (i - 1) hlt']
      have h2 : topiaryref01_Less.f (l[i - 1]).f0 (l[i - 1]).f1 (l[i]).f0 (l[i]).f1 = some true := by
        rw [rless_f]
        exact congrArg some (decide_eq_true (List.pairwise_iff_getElem.1 hr (i - 1) i hlt' hlt (by omega)))
      rw [h2]
      refine Ev.congr (fun k => (if_pos (by omega)).trans (if_pos (by omega))) ?_
      simp only [Option.bind_some, if_true]
      rw [hw]
      exact ih
    · refine Ev.congr (fun k => if_neg (by omega)) ?_
      rw [hw]
      exact ih
theorem nm_ahead {a b kd n1 n2 p1 p2 q1 q2 : Int} (hn : nodeV a b kd n1 n2 = true) (hp : placeV a b kd n1 n2 p1 p2 q1 q2 = true) : ∀ x ∈ namesV a b n1 n2 p1 p2 q1 q2, ltS x ⟨a, b⟩ := by
  intro x hx
  have hx' := (foldl_putS ((three n1 n2 p1 p2 q1 q2).filter (nmd a b)) [] List.Pairwise.nil).2 x |>.1 hx
  have hm : x ∈ (three n1 n2 p1 p2 q1 q2).filter (nmd a b) := hx'.resolve_left (by simp)
  obtain ⟨h3, h4⟩ := List.mem_filter.1 hm
  have key : ∀ u v : Int, lessB u v a b = true → ltS ⟨u, v⟩ ⟨a, b⟩ := fun u v h => of_decide_eq_true h
  unfold nmd at h4
  rw [Bool.and_eq_true, Bool.not_eq_true', decide_eq_false_iff_not] at h4
  obtain ⟨hR, hne⟩ := h4
  have z0 : ¬ isR 0 0 = true := by decide
  simp only [three, List.mem_cons, List.not_mem_nil, or_false] at h3
  rcases h3 with rfl | rfl | rfl
  · simp only at hR hne
    unfold nodeV at hn
    split at hn
    · exact absurd (of_decide_eq_true hn) hne
    · split at hn
      · rw [Bool.and_eq_true] at hn; exact key _ _ hn.2
      · rw [Bool.or_eq_true, decide_eq_true_eq, Bool.and_eq_true] at hn
        rcases hn with ⟨rfl, rfl⟩ | hn
        · exact absurd hR z0
        · exact key _ _ hn.2
  · simp only at hR hne
    unfold placeV at hp
    split at hp
    · simp only [Bool.and_eq_true] at hp
      exact key _ _ hp.1.1.2
    · simp only [Bool.and_eq_true, decide_eq_true_eq] at hp
      obtain ⟨⟨rfl, rfl⟩, _⟩ := hp
      exact absurd hR z0
  · simp only at hR hne
    unfold placeV at hp
    split at hp
    · simp only [Bool.and_eq_true, Bool.or_eq_true, decide_eq_true_eq] at hp
      rcases hp.2 with ⟨rfl, rfl⟩ | h
      · exact absurd hR z0
      · exact key _ _ h.2
    · simp only [Bool.and_eq_true, decide_eq_true_eq] at hp
      obtain ⟨_, rfl, rfl⟩ := hp
      exact absurd hR z0
theorem check_np {a b s : Int} {ds : List Int} {kd n1 n2 p1 p2 q1 q2 : Int} {nm vl : List UInt8} (h : checkV a b s ds kd n1 n2 p1 p2 q1 q2 nm vl = 0) : nodeV a b kd n1 n2 = true ∧ placeV a b kd n1 n2 p1 p2 q1 q2 = true := by
  unfold checkV at h
  split at h
  · cases h
  · split at h
    · split at h
      · cases h
      · split at h
        · split at h
          · split at h
            · exact ⟨by assumption, by assumption⟩
            · cases h
          · cases h
        · contradiction
    · cases h
theorem law (a b s : Int) (ds : List Int) (kd n1 n2 p1 p2 q1 q2 : Int) (nm vl : ByteArray) (hn : ds.length ≤ 17592186043904) (hm : nm.size ≤ 9223372036854775807) : Ev (fun k => topiarylaw05_ChangeAhead.f k a b s ds kd n1 n2 p1 p2 q1 q2 nm vl) true := by
  unfold topiarylaw05_ChangeAhead.f
  refine Ev.bind (names_f a b s ds kd n1 n2 p1 p2 q1 q2 nm vl) ?_
  refine Ev.bind (check_f a b s ds kd n1 n2 p1 p2 q1 q2 nm vl hn) ?_
  by_cases h : checkV a b s ds kd n1 n2 p1 p2 q1 q2 nm.data.toList vl.data.toList = 0
  · refine Ev.congr (fun k => if_pos h) ?_
    obtain ⟨h1, h2⟩ := check_np h
    exact ahead_l0 _ (names_len a b n1 n2 p1 p2 q1 q2) (rises_srtS _) a b (nm_ahead h1 h2) s ds kd n1 n2 p1 p2 q1 q2 nm vl _ 0 (Nat.zero_add _)
  · refine Ev.congr (fun k => if_neg h) ?_
    refine Ev.bind (rcheck_f a b s ds kd n1 n2 p1 p2 q1 q2 nm vl hn hm) ?_
    simp only [h, if_false]
    exact Ev.bind awake (Ev.now _)

end Go.Proofs.YtgoolgmcbnikkaaGreatDoor.PureChangeAhead
