-- The plain law of IdentNexts: no program in sight (by this session).
import Derived.Test.YtlmkgccaiihgjaaDoorQIdentNextsx
namespace Go.Proofs.YtlmkgccaiihgjaaDoor.PureIdentNexts
open Go.RowKit Go.Proofs.YtlmkgccaiihgjaaDoorW.PrintWords Go.Proofs.YtlmkgccaiihgjaaDoor.QIdentNexts
set_option linter.unusedVariables false
set_option linter.unusedSimpArgs false

/-- Is a stamp right, as a plain test. -/
def isR (a b : Int) : Bool := decide (1 ≤ a) && (decide (a ≤ 1099511627776) && (decide (0 ≤ b) && decide (b < 64)))
theorem right_f (a b : Int) : ident_Right.f a b = some (isR a b) := by
  unfold ident_Right.f ident_replica.f isR
  by_cases h1 : 1 ≤ a <;> by_cases h2 : a ≤ 1099511627776 <;> by_cases h3 : 0 ≤ b <;> simp [h1, h2, h3]
theorem next_f (k : Nat) (a b : Int) (hw : a ≤ 9223372036854775807) : ident_Next.f (k + 1) a b = some (if 0 ≤ a ∧ a ≤ 1099511627776 ∧ 0 ≤ b ∧ b < 64 then (if a = 1099511627776 then (0, 0, 6) else (a + 1, b, 0)) else (0, 0, 1)) := by
  unfold ident_Next.f ident_replica.f
  by_cases h1 : a < 0
  · rw [if_pos h1, if_neg (by omega)]; simp [ident_Next.j0]
  · rw [if_neg h1]
    by_cases h2 : a > 1099511627776
    · rw [if_pos h2, if_neg (by omega)]; simp [ident_Next.j0]
    · rw [if_neg h2]
      by_cases h3 : b ≥ 0
      · rw [if_pos h3]
        by_cases h4 : b < 64
        · rw [if_pos (by omega)]
          simp only [Option.bind_some, ident_Next.j0, decide_eq_true h4, Bool.not_true, Bool.false_eq_true, if_false]
          by_cases h5 : a = 1099511627776
          · simp [h5]
          · rw [if_neg h5, if_neg h5, IntWalk.wrap64_in (a + 1) ⟨by omega, by omega⟩]
        · rw [if_neg (by omega)]
          simp only [Option.bind_some, ident_Next.j0, decide_eq_false h4, Bool.not_false, if_true]
      · rw [if_neg h3, if_neg (by omega)]
        simp [ident_Next.j0]
theorem itoa8 : strconv_Itoa_33.f 8 = some ⟨#[56]⟩ := by simp [strconv_Itoa_33.f, Lib.itoa, Lib.decDigits]
theorem itoa3 : strconv_Itoa_33.f 3 = some ⟨#[51]⟩ := by simp [strconv_Itoa_33.f, Lib.itoa, Lib.decDigits]
theorem text83 : ident_Text.f 8 3 = some (⟨#[56, 46, 51]⟩, 0) := by
  unfold ident_Text.f
  rw [right_f, show isR 8 3 = true from rfl, itoa8]
  simp only [Option.bind_some, if_true, itoa3]
  rfl
theorem awake_f (k : Nat) : topiarylaw01_awake.f (k + 1) = some true := by
  unfold topiarylaw01_awake.f
  rw [next_f _ _ _ (by omega)]
  simp only [Option.bind_some]
  rw [if_pos (by omega), if_neg (by omega)]
  simp only [show (7 : Int) + 1 = 8 from rfl, text83, Option.bind_some, right_f]
  kernel_rfl

theorem refright_f (a b : Int) : topiaryref01_Right.f a b = some (isR a b) := by
  unfold topiaryref01_Right.f isR
  by_cases h1 : 1 ≤ a <;> by_cases h2 : a ≤ 1099511627776 <;> by_cases h3 : 0 ≤ b <;> simp [h1, h2, h3]

theorem seen_bad (k : Nat) (n a b : Int) (h : ¬ (0 ≤ n ∧ n ≤ 1099511627776)) : ident_Seen.f (k + 1) n a b = some (0, 1) := by
  unfold ident_Seen.f
  by_cases h1 : n < 0
  · rw [if_pos h1]; simp [ident_Seen.j0]
  · rw [if_neg h1]; simp [ident_Seen.j0, show 1099511627776 < n from by omega]
theorem seen_ok (k : Nat) (n a b : Int) (h : 0 ≤ n ∧ n ≤ 1099511627776) : ident_Seen.f (k + 1) n a b = some (if isR a b = true then (mx n a, 0) else (0, 2)) := by
  unfold ident_Seen.f
  rw [if_neg (by omega)]
  simp only [ident_Seen.j0, right_f, Option.bind_some, gt_iff_lt, decide_eq_false (show ¬ (1099511627776 < n) from by omega), Bool.false_eq_true, if_false]
  split <;> rfl

theorem refnext_f (k : Nat) (a b : Int) (hw : a ≤ 9223372036854775807) : topiaryref01_Next.f (k + 1) a b = some (if 0 ≤ a ∧ a ≤ 1099511627776 ∧ 0 ≤ b ∧ b < 64 then (if a = 1099511627776 then (0, 0, 6) else (a + 1, b, 0)) else (0, 0, 1)) := by
  rw [← next_f k a b hw]
  unfold ident_Next.f topiaryref01_Next.f ident_replica.f
  by_cases h3 : b < 0
  · simp [h3, ident_Next.j0, topiaryref01_Next.j0, show ¬ (0 ≤ b) from by omega]
  · by_cases h4 : b < 64
    · simp [h3, h4, ident_Next.j0, topiaryref01_Next.j0, show 0 ≤ b from by omega, show ¬ (64 ≤ b) from by omega]
    · simp [h3, h4, ident_Next.j0, topiaryref01_Next.j0, show 0 ≤ b from by omega, show 64 ≤ b from by omega]
theorem law (k : Nat) (n r a b : Int) (hw : n ≤ 9223372036854775807) : topiarylaw01_IdentNexts.f (k + 3) n r a b = some true := by
  unfold topiarylaw01_IdentNexts.f
  rw [next_f _ _ _ hw, refnext_f _ _ _ hw]
  generalize (if 0 ≤ n ∧ n ≤ 1099511627776 ∧ 0 ≤ r ∧ r < 64 then (if n = 1099511627776 then ((0, 0, 6) : Int × Int × Int) else (n + 1, r, 0)) else (0, 0, 1)) = q
  simp only [Option.bind_some, beq_self_eq_true, Bool.not_true, Bool.or_self, Bool.false_eq_true, if_false, if_true, awake_f]
  simp only [topiarylaw01_IdentNexts.j0, Bool.false_eq_true, if_false]
  by_cases h1 : n < 0
  · rw [seen_bad _ _ _ _ (by omega)]; simp [topiarylaw01_IdentNexts.j1, h1]
  · by_cases h2 : n > 1099511627776
    · rw [seen_bad _ _ _ _ (by omega)]; simp [topiarylaw01_IdentNexts.j1, h1, h2]
    · rw [seen_ok _ _ _ _ (by omega)]
      simp only [Option.bind_some, if_neg h1, topiarylaw01_IdentNexts.j1, decide_eq_false h2, Bool.false_eq_true, if_false, refright_f, Option.bind_some]
      by_cases h3 : isR a b = true
      · simp [h3]
      · simp [h3]
end Go.Proofs.YtlmkgccaiihgjaaDoor.PureIdentNexts
