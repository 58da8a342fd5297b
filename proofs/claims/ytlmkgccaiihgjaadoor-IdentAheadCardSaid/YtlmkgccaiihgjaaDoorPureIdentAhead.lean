-- The plain law of IdentAhead: no program in sight (by this session).
import Derived.Test.YtlmkgccaiihgjaaDoorQIdentAheadx
namespace Go.Proofs.YtlmkgccaiihgjaaDoor.PureIdentAhead
open Go.RowKit Go.Proofs.YtlmkgccaiihgjaaDoorW.PrintWords Go.Proofs.YtlmkgccaiihgjaaDoor.QIdentAhead
set_option linter.unusedVariables false
set_option linter.unusedSimpArgs false

/-- Is a stamp right, as a plain test. -/
def isR (a b : Int) : Bool := decide (1 ≤ a) && (decide (a ≤ 1099511627776) && (decide (0 ≤ b) && decide (b < 64)))
theorem right_f (a b : Int) : ident_Right.f a b = some (isR a b) := by
  unfold ident_Right.f ident_replica.f isR
  by_cases h1 : 1 ≤ a <;> by_cases h2 : a ≤ 1099511627776 <;> by_cases h3 : 0 ≤ b <;> simp [h1, h2, h3]
theorem next_f (k : Nat) (a b : Int) (hw : a ≤ 9223372036854775807) : ident_Next.f (k + 1) a b = some (if 0 ≤ a ∧ a ≤ 1099511627776 ∧ 0 ≤ b ∧ b < 64 then (if a = 1099511627776 then (0, 0, 6) else (a + 1, b, 0)) else (0, 0, 1)) := by
  unfold ident_Next.f ident_replica.f
  by_cases h1 : a < 0
  · rw [if_pos h1, if_neg (by omega)]; simp [ident_Next.j0]
  · rw [if_neg h1]
    by_cases h2 : a > 1099511627776
    · rw [if_pos h2, if_neg (by omega)]; simp [ident_Next.j0]
    · rw [if_neg h2]
      by_cases h3 : b ≥ 0
      · rw [if_pos h3]
        by_cases h4 : b < 64
        · rw [if_pos (by omega)]
          simp only [Option.bind_some, ident_Next.j0, decide_eq_true h4, Bool.not_true, Bool.false_eq_true, if_false]
          by_cases h5 : a = 1099511627776
          · simp [h5]
          · rw [if_neg h5, if_neg h5, IntWalk.wrap64_in (a + 1) ⟨by omega, by omega⟩]
        · rw [if_neg (by omega)]
          simp only [Option.bind_some, ident_Next.j0, decide_eq_false h4, Bool.not_false, if_true]
      · rw [if_neg h3, if_neg (by omega)]
        simp [ident_Next.j0]
theorem itoa8 : strconv_Itoa_33.f 8 = some ⟨#[56]⟩ := by simp [strconv_Itoa_33.f, Lib.itoa, Lib.decDigits]
theorem itoa3 : strconv_Itoa_33.f 3 = some ⟨#[51]⟩ := by simp [strconv_Itoa_33.f, Lib.itoa, Lib.decDigits]
theorem text83 : ident_Text.f 8 3 = some (⟨#[56, 46, 51]⟩, 0) := by
  unfold ident_Text.f
  rw [right_f, show isR 8 3 = true from rfl, itoa8]
  simp only [Option.bind_some, if_true, itoa3]
  rfl
theorem awake_f (k : Nat) : topiarylaw01_awake.f (k + 1) = some true := by
  unfold topiarylaw01_awake.f
  rw [next_f _ _ _ (by omega)]
  simp only [Option.bind_some]
  rw [if_pos (by omega), if_neg (by omega)]
  simp only [show (7 : Int) + 1 = 8 from rfl, text83, Option.bind_some, right_f]
  kernel_rfl

theorem beq2 (a b c d : Int) : (a == c && (b == d)) = decide (a = c ∧ b = d) := by
  by_cases h1 : a = c <;> by_cases h2 : b = d <;> simp [h1, h2]
/-- How two stamps stand, as a plain number. -/
def cmp (a b c d : Int) : Int := if a = c ∧ b = d then 0 else if a < c ∨ (a = c ∧ b < d) then -1 else 1
theorem compare_f (a b c d : Int) : ident_Compare.f a b c d = some (cmp a b c d) := by
  unfold ident_Compare.f cmp
  rw [beq2]
  by_cases h1 : a = c ∧ b = d
  · simp [h1]
  · rw [if_neg h1, if_neg (by simpa using h1)]
    by_cases h2 : a < c
    · simp [h2]
    · by_cases h3 : a = c
      · by_cases h4 : b < d <;> simp [h2, h3, h4]
      · simp [h2, h3]

theorem less_f (a b c d : Int) : ident_Less.f a b c d = some (decide (cmp a b c d < 0)) := by
  unfold ident_Less.f
  rw [compare_f]; rfl
theorem cmp_neg (a b c d : Int) : (cmp a b c d < 0) ↔ (a < c ∨ (a = c ∧ b < d)) := by
  unfold cmp
  split
  · omega
  · split <;> omega

theorem seen_bad (k : Nat) (n a b : Int) (h : ¬ (0 ≤ n ∧ n ≤ 1099511627776)) : ident_Seen.f (k + 1) n a b = some (0, 1) := by
  unfold ident_Seen.f
  by_cases h1 : n < 0
  · rw [if_pos h1]; simp [ident_Seen.j0]
  · rw [if_neg h1]; simp [ident_Seen.j0, show 1099511627776 < n from by omega]
theorem seen_ok (k : Nat) (n a b : Int) (h : 0 ≤ n ∧ n ≤ 1099511627776) : ident_Seen.f (k + 1) n a b = some (if isR a b = true then (mx n a, 0) else (0, 2)) := by
  unfold ident_Seen.f
  rw [if_neg (by omega)]
  simp only [ident_Seen.j0, right_f, Option.bind_some, gt_iff_lt, decide_eq_false (show ¬ (1099511627776 < n) from by omega), Bool.false_eq_true, if_false]
  split <;> rfl

theorem bad (k : Nat) (n r : Int) : ∃ x y : Int, ident_Next.f (k + 1) 0 r = some (x, y, 0) ∨ ident_Next.f (k + 1) 0 r = some (0, 0, 1) := by
  rw [next_f _ _ _ (by omega)]
  by_cases h3 : 0 ≤ r ∧ r < 64
  · exact ⟨1, r, .inl (by rw [if_pos (by omega), if_neg (by omega)]; rfl)⟩
  · exact ⟨0, 0, .inr (by rw [if_neg (by omega)])⟩
theorem law (k : Nat) (n r a b : Int) (hw : n ≤ 9223372036854775807) : topiarylaw01_IdentAhead.f (k + 2) n r a b = some true := by
  unfold topiarylaw01_IdentAhead.f
  by_cases h1 : 0 ≤ n ∧ n ≤ 1099511627776
  · rw [seen_ok _ _ _ _ h1]
    by_cases h2 : isR a b = true
    · rw [if_pos h2]
      have hR := h2
      simp only [isR, Bool.and_eq_true, decide_eq_true_eq] at hR
      obtain ⟨ra, rb, rc, rd⟩ := hR
      have hm : n ≤ mx n a ∧ a ≤ mx n a ∧ mx n a ≤ 1099511627776 := by unfold mx; split <;> omega
      generalize mx n a = m at hm ⊢
      simp only [Option.bind_some, if_true]
      rw [next_f _ _ _ (by omega)]
      by_cases h3 : 0 ≤ m ∧ m ≤ 1099511627776 ∧ 0 ≤ r ∧ r < 64
      · rw [if_pos h3]
        by_cases h4 : m = 1099511627776
        · rw [if_pos h4]; simp [topiarylaw01_IdentAhead.j0, awake_f]
        · rw [if_neg h4]
          simp only [Option.bind_some, topiarylaw01_IdentAhead.j0, bne_self_eq_false, Bool.false_eq_true, if_false, less_f, decide_eq_true_eq, cmp_neg, right_f, awake_f]
          rw [if_pos (by omega), if_pos (by omega), if_pos (by simp only [isR, Bool.and_eq_true, decide_eq_true_eq]; omega)]
      · rw [if_neg h3]; simp [topiarylaw01_IdentAhead.j0, awake_f]
    · rw [if_neg h2]
      simp only [Option.bind_some]
      obtain ⟨x, y, h | h⟩ := bad (k + 1) n r <;> rw [h] <;> simp [topiarylaw01_IdentAhead.j0, awake_f]
  · rw [seen_bad _ _ _ _ h1]
    simp only [Option.bind_some]
    obtain ⟨x, y, h | h⟩ := bad (k + 1) n r <;> rw [h] <;> simp [topiarylaw01_IdentAhead.j0, awake_f]
end Go.Proofs.YtlmkgccaiihgjaaDoor.PureIdentAhead
