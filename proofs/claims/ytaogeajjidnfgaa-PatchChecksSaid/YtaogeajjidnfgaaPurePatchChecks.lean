/- may any step be: the program and the document tell the same, for every step. -/
import Derived.Test.YtaogeajjidnfgaaQPatchChecksx
namespace Go.Proofs.Ytaogeajjidnfgaa.PurePatchChecks
open Go.RowKit Go.Proofs.Ytaogeajjidnfgaa.QPatchChecks Go.Proofs.YtaogeajjidnfgaaW.PrintWords Go.Proofs.YtaogeajjidnfgaaW.PrintLast
set_option linter.unusedVariables false
set_option linter.unusedSimpArgs false
theorem qsize_len (a : ByteArray) : a.size = a.data.toList.length := rfl
theorem qbt (a : ByteArray) (i : Nat) (h : i < a.data.toList.length) : bt a (i : Int) = ((a.data.toList[i]).toNat : Int) := by
  have h' : ((i : Int)).toNat < a.size := by rw [Int.toNat_natCast]; exact h
  rw [← bt_at a (i : Int) h']
  rfl

/-- Is a stamp right, as a plain test. -/
def isR (a b : Int) : Bool := decide (1 ≤ a) && (decide (a ≤ 1099511627776) && (decide (0 ≤ b) && decide (b < 64)))
theorem right_f (a b : Int) : ident_Right.f a b = some (isR a b) := by
  unfold ident_Right.f ident_replica.f isR
  by_cases h1 : 1 ≤ a <;> by_cases h2 : a ≤ 1099511627776 <;> by_cases h3 : 0 ≤ b <;> simp [h1, h2, h3]

theorem refright_f (a b : Int) : topiaryref01_Right.f a b = some (isR a b) := by
  unfold topiaryref01_Right.f isR
  by_cases h1 : 1 ≤ a <;> by_cases h2 : a ≤ 1099511627776 <;> by_cases h3 : 0 ≤ b <;> simp [h1, h2, h3]
theorem refnode_f (a b : Int) : topiaryref01_Node.f a b = some (isR a b || decide (a = 0 ∧ (b = 0 ∨ b = 1))) := by
  unfold topiaryref01_Node.f
  rw [refright_f]
  simp only [Option.bind_some]
  by_cases h : isR a b = true
  · simp [h]
  · have h' : isR a b = false := by simpa using h
    by_cases h1 : a = 0 <;> by_cases h2 : b = 0 <;> simp [h', h1, h2]
    all_goals simp_all
    all_goals by_cases h3 : b = 1 <;> simp [h3]

def lc (x : UInt8) : Bool := decide (97 ≤ x.toNat) && decide (x.toNat ≤ 122)
def nmc (x : UInt8) : Bool := lc x || (decide (48 ≤ x.toNat) && decide (x.toNat ≤ 57)) || decide (x.toNat = 45)
def nameB (l : List UInt8) : Bool := decide (l ≠ []) && (decide (l.length ≤ 32) && (l.head?.any lc && l.all nmc))

theorem name_l0 (s : ByteArray) (hs : s.size ≤ 32) : ∀ (d i k : Nat), i + d = s.size → d < k → change_Name.l0 k s (s.size : Int) (i : Int) = some ((s.data.toList.drop i).all nmc)
  | d, i, 0, hi, hk => by omega
  | 0, i, k + 1, hi, hk => by
    simp only [change_Name.l0]
    rw [if_neg (by omega), List.drop_eq_nil_of_le (by rw [← qsize_len]; omega)]
    rfl
  | d + 1, i, k + 1, hi, hk => by
    have hl : i < s.data.toList.length := by rw [← qsize_len]; omega
    have hw : wrap64 ((i : Int) + 1) = ((i + 1 : Nat) : Int) := by unfold wrap64; omega
    have ih := name_l0 s hs d (i + 1) k (by omega) (by omega)
    simp only [change_Name.l0]
    rw [if_pos (by omega), if_pos (by omega), if_pos (by omega), qbt s i hl, hw, ih, List.drop_eq_getElem_cons hl, List.all_cons]
    generalize (List.drop (i + 1) s.data.toList).all nmc = r
    generalize s.data.toList[i] = x
    unfold nmc lc
    by_cases h1 : (x.toNat : Int) < 97
    · rw [if_pos h1]
      by_cases h2 : (x.toNat : Int) < 48
      · rw [if_pos h2]
        by_cases h3 : (x.toNat : Int) = 45
        · have h3' : x.toNat = 45 := by omega
          rw [if_pos h3]; simp [h3']
        · rw [if_neg h3]
          have a1 : ¬ 97 ≤ x.toNat := by omega
          have a2 : ¬ 48 ≤ x.toNat := by omega
          have a3 : ¬ x.toNat = 45 := by omega
          simp [a1, a2, a3]
      · rw [if_neg h2]
        by_cases h4 : (x.toNat : Int) > 57
        · rw [if_pos h4, if_neg (by omega)]
          have a1 : ¬ 97 ≤ x.toNat := by omega
          have a2 : ¬ x.toNat ≤ 57 := by omega
          have a3 : ¬ x.toNat = 45 := by omega
          simp [a1, a2, a3]
        · rw [if_neg h4]
          have a2 : 48 ≤ x.toNat := by omega
          have a3 : x.toNat ≤ 57 := by omega
          simp [a2, a3]
    · rw [if_neg h1]
      by_cases h2 : (x.toNat : Int) > 122
      · rw [if_pos h2, if_neg (by omega), if_pos (by omega), if_neg (by omega)]
        have a1 : ¬ x.toNat ≤ 122 := by omega
        have a2 : ¬ x.toNat ≤ 57 := by omega
        have a3 : ¬ x.toNat = 45 := by omega
        simp [a1, a2, a3]
      · rw [if_neg h2]
        have a1 : 97 ≤ x.toNat := by omega
        have a2 : x.toNat ≤ 122 := by omega
        simp [a1, a2]
theorem name_f (s : ByteArray) (k : Nat) : change_Name.f (k + 40) s = some (nameB s.data.toList) := by
  unfold change_Name.f nameB
  have hz : s.size = s.data.toList.length := rfl
  by_cases h0 : s.size = 0
  · have e : s.data.toList = [] := List.eq_nil_of_length_eq_zero (by omega)
    rw [if_pos (by omega), e]
    simp [change_Name.j0]
  · rw [if_neg (by omega)]
    have hne : s.data.toList ≠ [] := fun e => h0 (by rw [hz, e]; rfl)
    by_cases h1 : s.size > 32
    · rw [if_pos (by omega)]
      have : ¬ s.data.toList.length ≤ 32 := by omega
      rw [decide_eq_false this, Bool.false_and, Bool.and_false]
      simp only [change_Name.j0, if_true]
    · have hl : 0 < s.data.toList.length := by omega
      have hh : s.data.toList.head? = some s.data.toList[0] := List.head?_eq_getElem? ▸ List.getElem?_eq_getElem hl
      have hb : bt s 0 = ((s.data.toList[0]).toNat : Int) := by simpa using qbt s 0 hl
      have hrun : change_Name.l0 (k + 39) s (s.size : Int) 0 = some (s.data.toList.all nmc) := by
        have := name_l0 s (by omega) s.size 0 (k + 39) (by omega) (by omega)
        simpa using this
      have hle : s.data.toList.length ≤ 32 := by omega
      rw [if_neg (by omega), if_pos (by omega), hb, hh]
      simp only [Option.any_some, hne, hle, ne_eq, not_false_eq_true, decide_true, Bool.true_and]
      generalize s.data.toList[0] = x
      unfold lc
      by_cases h2 : (x.toNat : Int) < 97
      · rw [if_pos h2]
        have a1 : ¬ 97 ≤ x.toNat := by omega
        simp [change_Name.j0, a1]
      · rw [if_neg h2]
        have a1 : 97 ≤ x.toNat := by omega
        by_cases h3 : (x.toNat : Int) > 122
        · have a2 : ¬ x.toNat ≤ 122 := by omega
          rw [decide_eq_true h3]
          simp [change_Name.j0, a2]
        · have a2 : x.toNat ≤ 122 := by omega
          rw [decide_eq_false h3]
          simp only [change_Name.j0, Bool.false_eq_true, if_false]
          rw [hrun]
          simp [a1, a2]

theorem rname_l0 (s : ByteArray) (hs : s.size ≤ 9223372036854775807) : ∀ (d i k : Nat), 1 ≤ i → i + d = s.size → d < k → topiaryref05_Name.l0 k s (i : Int) = some ((s.data.toList.drop i).all nmc && decide (s.size ≤ 32))
  | d, i, 0, h1, hi, hk => by omega
  | 0, i, k + 1, h1, hi, hk => by
    simp only [topiaryref05_Name.l0]
    rw [if_neg (by omega), if_pos (by omega), List.drop_eq_nil_of_le (by rw [← qsize_len]; omega)]
    have : decide ((s.size : Int) ≤ 32) = decide (s.size ≤ 32) := decide_eq_decide.mpr (by omega)
    rw [this]; rfl
  | d + 1, i, k + 1, h1, hi, hk => by
    have hl : i < s.data.toList.length := by rw [← qsize_len]; omega
    have hw : wrap64 ((i : Int) + 1) = ((i + 1 : Nat) : Int) := by unfold wrap64; omega
    have ih := rname_l0 s hs d (i + 1) k (by omega) (by omega) (by omega)
    have e0 : ¬ ((i : Int) = 0) := by omega
    simp only [topiaryref05_Name.l0]
    rw [if_pos (by omega), if_pos (by omega), qbt s i hl, hw, ih, List.drop_eq_getElem_cons hl, List.all_cons, if_neg e0]
    generalize (List.drop (i + 1) s.data.toList).all nmc = r
    generalize decide (s.size ≤ 32) = t
    generalize s.data.toList[i] = x
    have key : (if (x.toNat : Int) = 45 then some (r && t) else if (x.toNat : Int) < 48 then some false else if (x.toNat : Int) > 57 then some false else some (r && t)) = some ((((decide (48 ≤ x.toNat) && decide (x.toNat ≤ 57)) || decide (x.toNat = 45)) && r) && t) := by
      by_cases h3 : x.toNat = 45
      · rw [if_pos (by omega)]; simp [h3]
      · rw [if_neg (by omega)]
        by_cases h4 : x.toNat < 48
        · have a1 : ¬ 48 ≤ x.toNat := by omega
          rw [if_pos (by omega)]; simp [a1, h3]
        · rw [if_neg (by omega)]
          by_cases h5 : x.toNat > 57
          · have a1 : ¬ x.toNat ≤ 57 := by omega
            rw [if_pos (by omega)]; simp [a1, h3]
          · have a1 : x.toNat ≤ 57 := by omega
            have a2 : 48 ≤ x.toNat := by omega
            rw [if_neg (by omega)]; simp [a1, a2]
    unfold nmc lc
    by_cases h2 : (x.toNat : Int) ≥ 97
    · rw [if_pos h2]
      by_cases h3 : (x.toNat : Int) ≤ 122
      · have a1 : 97 ≤ x.toNat := by omega
        have a2 : x.toNat ≤ 122 := by omega
        rw [if_pos h3]; simp [a1, a2]
      · have a2 : ¬ x.toNat ≤ 122 := by omega
        rw [if_neg h3, key, decide_eq_false a2, Bool.and_false, Bool.false_or]
    · have a1 : ¬ 97 ≤ x.toNat := by omega
      rw [if_neg h2, key, decide_eq_false a1, Bool.false_and, Bool.false_or]
theorem all_head : ∀ (l : List UInt8) (h : 0 < l.length), l.all nmc = (nmc l[0] && (l.drop 1).all nmc)
  | [], h => by simp at h
  | x :: r, h => by simp
theorem rname_f (s : ByteArray) (hs : s.size ≤ 9223372036854775807) : Ev (fun k => topiaryref05_Name.f k s) (nameB s.data.toList) := by
  refine ⟨s.size + 2, fun k hk => ?_⟩
  obtain ⟨k, rfl⟩ : ∃ m, k = m + 1 := ⟨k - 1, by omega⟩
  have hz : s.size = s.data.toList.length := rfl
  simp only [topiaryref05_Name.f, topiaryref05_Name.l0]
  unfold nameB
  by_cases h0 : s.size = 0
  · have e : s.data.toList = [] := List.eq_nil_of_length_eq_zero (by omega)
    rw [if_neg (by omega), if_neg (by omega), e]; rfl
  · have hl : 0 < s.data.toList.length := by omega
    have hne : s.data.toList ≠ [] := fun e => h0 (by rw [hz, e]; rfl)
    have hh : s.data.toList.head? = some s.data.toList[0] := List.head?_eq_getElem? ▸ List.getElem?_eq_getElem hl
    have hb : bt s 0 = ((s.data.toList[0]).toNat : Int) := by simpa using qbt s 0 hl
    have hw : wrap64 ((0 : Int) + 1) = ((1 : Nat) : Int) := by unfold wrap64; omega
    have hall : s.data.toList.all nmc = (nmc s.data.toList[0] && (s.data.toList.drop 1).all nmc) := all_head _ hl
    have hr := rname_l0 s hs (s.size - 1) 1 k (by omega) (by omega) (by omega)
    rw [if_pos (by omega), if_pos (by omega), hb, hw, hr, hh, hall, decide_eq_true hne, ← hz]
    simp only [Option.any_some, Bool.true_and, if_true]
    generalize (List.drop 1 s.data.toList).all nmc = r
    generalize decide (s.size ≤ 32) = t
    generalize s.data.toList[0] = x
    unfold nmc lc
    by_cases h2 : (x.toNat : Int) ≥ 97
    · rw [if_pos h2]
      have a1 : 97 ≤ x.toNat := by omega
      by_cases h3 : (x.toNat : Int) ≤ 122
      · have a2 : x.toNat ≤ 122 := by omega
        rw [if_pos h3]; simp [a1, a2, Bool.and_comm]
      · have a2 : ¬ x.toNat ≤ 122 := by omega
        rw [if_neg h3]; simp [a2]
    · have a1 : ¬ 97 ≤ x.toNat := by omega
      rw [if_neg h2]; simp [a1]

/-! may any step be? -/
theorem inode_f (a b : Int) : ident_Node.f a b = some (isR a b || decide (a = 0 ∧ (b = 0 ∨ b = 1))) := by
  unfold ident_Node.f
  rw [right_f]
  simp only [Option.bind_some]
  generalize isR a b = r
  cases r <;> by_cases h1 : a = 0 <;> by_cases h2 : b = 0 <;> by_cases h3 : b = 1 <;> simp [h1, h2, h3]
  all_goals omega
def isN (a b : Int) : Bool := isR a b || decide (a = 0 ∧ (b = 0 ∨ b = 1))
theorem inode_n (a b : Int) : ident_Node.f a b = some (isN a b) := inode_f a b
theorem rnode_n (a b : Int) : topiaryref01_Node.f a b = some (isN a b) := refnode_f a b
theorem isR_N {a b : Int} (h : isR a b = true) : isN a b = true := by simp [isN, h]
theorem zero_f (a b : Int) : topiaryref17_zero.f a b = some (a == 0 && b == 0) := by
  unfold topiaryref17_zero.f
  by_cases h : a = 0 <;> simp [h]
theorem form_f (k : Nat) (x : Int) (h1 : 1 ≤ x) (h9 : x ≤ 9) : patch_form.f (k + 3) x = some (decide (x = 4), decide (x = 4) || decide (x = 5), decide (x = 3) || (decide (x = 6) || (decide (x = 8) || decide (x = 9))), decide (x = 7) || decide (x = 8), decide (x ≤ 5)) := by
  have h : x = 1 ∨ x = 2 ∨ x = 3 ∨ x = 4 ∨ x = 5 ∨ x = 6 ∨ x = 7 ∨ x = 8 ∨ x = 9 := by omega
  rcases h with rfl | rfl | rfl | rfl | rfl | rfl | rfl | rfl | rfl <;> rfl
/-- The answer, out of the tests' answers. -/
def ans (bP bA bN bV bH r n np ek zp za ra ea nmb ne big ve : Bool) : Int :=
  if (bH && !r) || (!bH && !n) then 2 else if (bP && (!np || ek)) || (!bP && !zp) then 2 else if (bA && (!za && (!ra || ea))) || (!bA && !za) then 2
  else if (bN && !nmb) || (!bN && ne) then 8 else if big then 3 else if !bV && !ve then 2 else 0
theorem ite_same {α : Type} (c : Prop) [Decidable c] (x : α) : (if c then x else x) = x := by split <;> rfl
theorem neb (a b : Int) : (!(a == 0) || !(b == 0)) = !(a == 0 && b == 0) := by cases a == 0 <;> rfl
theorem bool_not (c : Bool) : (!c) = true ↔ c = false := by cases c <;> simp
section
variable (a0 a1 a2 a3 a4 a5 a6 : Int) (nm vl : ByteArray)
def val : Int := ans (decide (a0 = 4)) (decide (a0 = 4) || decide (a0 = 5)) (decide (a0 = 3) || (decide (a0 = 6) || (decide (a0 = 8) || decide (a0 = 9)))) (decide (a0 = 7) || decide (a0 = 8)) (decide (a0 ≤ 5))
  (isR a1 a2) (isN a1 a2) (isN a3 a4) (a3 == a1 && a4 == a2) (a3 == 0 && a4 == 0) (a5 == 0 && a6 == 0) (isR a5 a6) (a5 == a1 && a6 == a2) (nameB nm.data.toList) (nm.toList != ([] : List UInt8)) (decide ((vl.size : Int) > 256)) (decide (vl.toList = ([] : List UInt8)))
theorem pj8 (k : Nat) (x6 x95 : Bool) : patch_Check.j8 (k + 1) x6 x95 a0 a1 a2 a3 a4 a5 a6 nm vl = some (if x95 then 8 else if decide ((vl.size : Int) > 256) then 3 else if !x6 && !(decide (vl.toList = ([] : List UInt8))) then 2 else 0) := by
  simp only [patch_Check.j8]
  by_cases h1 : (vl.size : Int) > 256 <;> by_cases h2 : vl.toList = ([] : List UInt8) <;> cases x6 <;> cases x95 <;> simp [h1, h2]
theorem pj7 (k : Nat) (x5 x6 x95 : Bool) : patch_Check.j7 (k + 2) x5 x6 x95 a0 a1 a2 a3 a4 a5 a6 nm vl = some (if x95 || (!x5 && nm.toList != ([] : List UInt8)) then 8 else if decide ((vl.size : Int) > 256) then 3 else if !x6 && !(decide (vl.toList = ([] : List UInt8))) then 2 else 0) := by
  simp only [patch_Check.j7, pj8]
  cases x5 <;> cases x95 <;> simp
theorem pj6 (k : Nat) (x5 x6 x66 : Bool) : patch_Check.j6 (k + 45) x5 x6 x66 a0 a1 a2 a3 a4 a5 a6 nm vl = some (if x66 then 2 else if (x5 && !nameB nm.data.toList) || (!x5 && nm.toList != ([] : List UInt8)) then 8 else if decide ((vl.size : Int) > 256) then 3 else if !x6 && !(decide (vl.toList = ([] : List UInt8))) then 2 else 0) := by
  rw [show k + 45 = (k + 44) + 1 from rfl]
  simp only [patch_Check.j6, show k + 44 = (k + 4) + 40 from rfl, name_f, Option.bind_some]
  simp only [show k + 4 + 40 = (k + 42) + 2 from rfl, pj7]
  cases x5 <;> cases x66 <;> simp
theorem pj5 (k : Nat) (x4 x5 x6 x66 : Bool) : patch_Check.j5 (k + 46) x4 x5 x6 x66 a0 a1 a2 a3 a4 a5 a6 nm vl 0 0 = some (if x66 || (!x4 && !(a5 == 0 && a6 == 0)) then 2 else if (x5 && !nameB nm.data.toList) || (!x5 && nm.toList != ([] : List UInt8)) then 8 else if decide ((vl.size : Int) > 256) then 3 else if !x6 && !(decide (vl.toList = ([] : List UInt8))) then 2 else 0) := by
  rw [show k + 46 = (k + 45) + 1 from rfl]
  simp only [patch_Check.j5, pj6, neb]
  cases x4 <;> cases x66 <;> simp
theorem pj4 (k : Nat) (x4 x5 x6 x43 : Bool) : patch_Check.j4 (k + 47) x4 x5 x6 x43 a0 a1 a2 a3 a4 a5 a6 nm vl 0 0 = some (if x43 then 2 else if (x4 && (!(a5 == 0 && a6 == 0) && (!isR a5 a6 || (a5 == a1 && a6 == a2)))) || (!x4 && !(a5 == 0 && a6 == 0)) then 2 else if (x5 && !nameB nm.data.toList) || (!x5 && nm.toList != ([] : List UInt8)) then 8 else if decide ((vl.size : Int) > 256) then 3 else if !x6 && !(decide (vl.toList = ([] : List UInt8))) then 2 else 0) := by
  rw [show k + 47 = (k + 46) + 1 from rfl]
  simp only [patch_Check.j4, pj5, neb, right_f, Option.bind_some]
  generalize (a5 == 0 && a6 == 0) = za
  generalize isR a5 a6 = ra
  generalize (a5 == a1 && a6 == a2) = ea
  cases x4 <;> cases x43 <;> cases za <;> cases ra <;> simp
theorem pj3 (k : Nat) (x3 x4 x5 x6 x43 : Bool) : patch_Check.j3 (k + 48) x3 x4 x5 x6 x43 a0 a1 a2 a3 a4 a5 a6 nm vl 0 0 = some (if x43 || (!x3 && !(a3 == 0 && a4 == 0)) then 2 else if (x4 && (!(a5 == 0 && a6 == 0) && (!isR a5 a6 || (a5 == a1 && a6 == a2)))) || (!x4 && !(a5 == 0 && a6 == 0)) then 2 else if (x5 && !nameB nm.data.toList) || (!x5 && nm.toList != ([] : List UInt8)) then 8 else if decide ((vl.size : Int) > 256) then 3 else if !x6 && !(decide (vl.toList = ([] : List UInt8))) then 2 else 0) := by
  rw [show k + 48 = (k + 47) + 1 from rfl]
  simp only [patch_Check.j3, pj4, neb]
  cases x3 <;> cases x43 <;> simp
theorem pcheck_f (k : Nat) : patch_Check.f (k + 60) a0 a1 a2 a3 a4 a5 a6 nm vl = some (if a0 < 1 ∨ a0 > 9 then 1 else val a0 a1 a2 a3 a4 a5 a6 nm vl) := by
  unfold patch_Check.f
  by_cases h1 : a0 < 1
  · rw [if_pos h1, if_pos (.inl h1), show k + 60 = (k + 59) + 1 from rfl]
    simp only [patch_Check.j0, if_true]
  · by_cases h9 : a0 > 9
    · rw [if_neg h1, if_pos (.inr h9), decide_eq_true h9, show k + 60 = (k + 59) + 1 from rfl]
      simp only [patch_Check.j0, if_true]
    · rw [if_neg h1, if_neg (by omega), decide_eq_false h9, show k + 60 = (k + 59) + 1 from rfl]
      simp only [patch_Check.j0, Bool.false_eq_true, if_false]
      rw [show k + 59 = (k + 56) + 3 from rfl, form_f _ a0 (by omega) (by omega)]
      simp only [Option.bind_some, right_f]
      unfold val ans
      generalize decide (a0 = 4) = bP
      generalize decide (a0 = 5) = b5
      generalize (decide (a0 = 3) || (decide (a0 = 6) || (decide (a0 = 8) || decide (a0 = 9)))) = bN
      generalize (decide (a0 = 7) || decide (a0 = 8)) = bV
      generalize decide (a0 ≤ 5) = bH
      rw [show k + 56 + 3 = (k + 57) + 1 + 1 from rfl]
      simp only [patch_Check.j1, patch_Check.j2, inode_n, Option.bind_some]
      rw [show k + 57 = (k + 9) + 48 from rfl]
      simp only [pj3]
      generalize isR a1 a2 = r
      generalize isN a1 a2 = n
      generalize isN a3 a4 = np
      cases bH <;> cases bP <;> cases r <;> cases n <;> cases np <;> simp
theorem places_f (k : Nat) : topiaryref17_places.f (k + 3) a0 a1 a2 a3 a4 a5 a6 nm vl = some (!((decide (a0 = 4) && (!isN a3 a4 || (a3 == a1 && a4 == a2))) || (!decide (a0 = 4) && !(a3 == 0 && a4 == 0))) && !(((decide (a0 = 4) || decide (a0 = 5)) && (!(a5 == 0 && a6 == 0) && (!isR a5 a6 || (a5 == a1 && a6 == a2)))) || (!(decide (a0 = 4) || decide (a0 = 5)) && !(a5 == 0 && a6 == 0)))) := by
  unfold topiaryref17_places.f
  simp only [rnode_n, zero_f, Option.bind_some, topiaryref17_places.j0, topiaryref17_places.j1, refright_f]
  by_cases h4 : a0 = 4
  · simp only [h4, if_true, decide_true]
    generalize isN a3 a4 = np
    generalize (a3 == a1 && a4 == a2) = ek
    have e : (!(a5 == a1) || !(a6 == a2)) = !(a5 == a1 && a6 == a2) := by cases a5 == a1 <;> rfl
    rw [e]
    generalize (a5 == 0 && a6 == 0) = za
    generalize isR a5 a6 = ra
    generalize (a5 == a1 && a6 == a2) = ea
    cases np <;> cases ek <;> cases za <;> cases ra <;> simp
  · have e : (!(a5 == a1) || !(a6 == a2)) = !(a5 == a1 && a6 == a2) := by cases a5 == a1 <;> rfl
    have e5 : (a0 == 5) = decide (a0 = 5) := rfl
    simp only [h4, if_false, decide_false, e, e5]
    generalize (a3 == 0 && a4 == 0) = zp
    generalize (a5 == 0 && a6 == 0) = za
    generalize isR a5 a6 = ra
    generalize (a5 == a1 && a6 == a2) = ea
    generalize decide (a0 = 5) = b5
    cases zp <;> cases za <;> cases ra <;> cases b5 <;> simp
theorem rj3 (k : Nat) (x : Bool) : topiaryref17_Check.j3 (k + 1) x a0 a1 a2 a3 a4 a5 a6 nm vl = some (if x then 8 else if decide ((vl.size : Int) > 256) then 3 else if !(decide (a0 = 7) || decide (a0 = 8)) && !(decide (vl.toList = ([] : List UInt8))) then 2 else 0) := by
  simp only [topiaryref17_Check.j3]
  by_cases h1 : (vl.size : Int) > 256 <;> by_cases h2 : vl.toList = ([] : List UInt8) <;> by_cases h7 : a0 = 7 <;> by_cases h8 : a0 = 8 <;> cases x <;> simp [h1, h2, h7, h8]
theorem rj1 (hn : nm.size ≤ 9223372036854775807) (x : Bool) : Ev (fun k => topiaryref17_Check.j1 k x a0 a1 a2 a3 a4 a5 a6 nm vl) (if x then 2 else if ((decide (a0 = 3) || (decide (a0 = 6) || (decide (a0 = 8) || decide (a0 = 9)))) && !nameB nm.data.toList) || (!(decide (a0 = 3) || (decide (a0 = 6) || (decide (a0 = 8) || decide (a0 = 9)))) && nm.toList != ([] : List UInt8)) then 8 else if decide ((vl.size : Int) > 256) then 3 else if !(decide (a0 = 7) || decide (a0 = 8)) && !(decide (vl.toList = ([] : List UInt8))) then 2 else 0) := by
  obtain ⟨m, hm⟩ := rname_f nm hn
  refine ⟨m + 5, fun k hk => ?_⟩
  obtain ⟨j, rfl⟩ : ∃ j, k = j + 1 + 1 + 1 := ⟨k - 3, by omega⟩
  have hj := hm (j + 1) (by omega)
  have e9 : (a0 == 9) = decide (a0 = 9) := rfl
  simp only at hj
  simp only [topiaryref17_Check.j1, topiaryref17_Check.j2, hj, Option.bind_some, rj3, e9]
  cases x
  · by_cases h3 : a0 = 3 <;> by_cases h6 : a0 = 6 <;> by_cases h8 : a0 = 8 <;> by_cases h9 : a0 = 9 <;> cases nameB nm.data.toList <;> simp [h3, h6, h8, h9]
  · rfl
theorem rcheck_f (hn : nm.size ≤ 9223372036854775807) : Ev (fun k => topiaryref17_Check.f k a0 a1 a2 a3 a4 a5 a6 nm vl) (if a0 < 1 ∨ a0 > 9 then 1 else val a0 a1 a2 a3 a4 a5 a6 nm vl) := by
  obtain ⟨m1, h1⟩ := rj1 a0 a1 a2 a3 a4 a5 a6 nm vl hn true
  obtain ⟨m0, h0⟩ := rj1 a0 a1 a2 a3 a4 a5 a6 nm vl hn false
  refine ⟨m1 + m0 + 9, fun k hk => ?_⟩
  obtain ⟨j, rfl⟩ : ∃ j, k = j + 3 + 1 := ⟨k - 4, by omega⟩
  have g1 := h1 (j + 3) (by omega)
  have g0 := h0 (j + 3) (by omega)
  simp only at g1 g0
  show topiaryref17_Check.f (j + 3 + 1) a0 a1 a2 a3 a4 a5 a6 nm vl = _
  unfold topiaryref17_Check.f
  by_cases hlo : a0 < 1
  · rw [if_pos hlo, if_pos (.inl hlo)]
    simp only [topiaryref17_Check.j0, if_true]
  · by_cases h9 : a0 > 9
    · rw [if_neg hlo, if_pos (.inr h9), decide_eq_true h9]
      simp only [topiaryref17_Check.j0, if_true]
    · rw [if_neg hlo, if_neg (by omega), decide_eq_false h9]
      simp only [topiaryref17_Check.j0, Bool.false_eq_true, if_false, refright_f, rnode_n, Option.bind_some, places_f]
      unfold val ans
      generalize hP : ((decide (a0 = 4) && (!isN a3 a4 || (a3 == a1 && a4 == a2))) || (!decide (a0 = 4) && !(a3 == 0 && a4 == 0))) = P
      generalize hA : (((decide (a0 = 4) || decide (a0 = 5)) && (!(a5 == 0 && a6 == 0) && (!isR a5 a6 || (a5 == a1 && a6 == a2)))) || (!(decide (a0 = 4) || decide (a0 = 5)) && !(a5 == 0 && a6 == 0))) = A
      by_cases h5 : a0 ≤ 5
      · simp only [h5, if_true, decide_true]
        cases hr : isR a1 a2
        · simp only [Bool.false_eq_true, if_false, g1]; simp
        · simp only [if_true, isR_N hr]
          cases P <;> cases A <;> simp [g1, g0]
      · simp only [h5, if_false, decide_false]
        cases isN a1 a2
        · simp only [Bool.false_eq_true, if_false, g1]; simp
        · simp only [if_true]
          cases P <;> cases A <;> simp [g1, g0]
/-! the law -/
theorem law (hn : nm.size ≤ 9223372036854775807) : Ev (fun k => topiarylaw17_PatchChecks.f k a0 a1 a2 a3 a4 a5 a6 nm vl) true := by
  unfold topiarylaw17_PatchChecks.f
  refine Ev.bind (show Ev (fun k => patch_Check.f k a0 a1 a2 a3 a4 a5 a6 nm vl) _ from ⟨60, fun k hk => by obtain ⟨k, rfl⟩ : ∃ m, k = m + 60 := ⟨k - 60, by omega⟩; exact pcheck_f a0 a1 a2 a3 a4 a5 a6 nm vl k⟩) ?_
  refine Ev.bind (rcheck_f a0 a1 a2 a3 a4 a5 a6 nm vl hn) ?_
  simp only [if_true]
  exact ⟨0, fun k hk => rfl⟩
end

end Go.Proofs.Ytaogeajjidnfgaa.PurePatchChecks
