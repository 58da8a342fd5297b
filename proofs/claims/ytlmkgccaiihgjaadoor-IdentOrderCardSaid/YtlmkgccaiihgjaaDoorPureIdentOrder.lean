-- The plain law of IdentOrder: no program in sight (by this session).
import Derived.Test.YtlmkgccaiihgjaaDoorQIdentOrderx
namespace Go.Proofs.YtlmkgccaiihgjaaDoor.PureIdentOrder
open Go.RowKit Go.Proofs.YtlmkgccaiihgjaaDoorW.PrintWords Go.Proofs.YtlmkgccaiihgjaaDoor.QIdentOrder
set_option linter.unusedVariables false
set_option linter.unusedSimpArgs false

/-- Is a stamp right, as a plain test. -/
def isR (a b : Int) : Bool := decide (1 ≤ a) && (decide (a ≤ 1099511627776) && (decide (0 ≤ b) && decide (b < 64)))
theorem right_f (a b : Int) : ident_Right.f a b = some (isR a b) := by
  unfold ident_Right.f ident_replica.f isR
  by_cases h1 : 1 ≤ a <;> by_cases h2 : a ≤ 1099511627776 <;> by_cases h3 : 0 ≤ b <;> simp [h1, h2, h3]
theorem next_f (k : Nat) (a b : Int) (hw : a ≤ 9223372036854775807) : ident_Next.f (k + 1) a b = some (if 0 ≤ a ∧ a ≤ 1099511627776 ∧ 0 ≤ b ∧ b < 64 then (if a = 1099511627776 then (0, 0, 6) else (a + 1, b, 0)) else (0, 0, 1)) := by
  unfold ident_Next.f ident_replica.f
  by_cases h1 : a < 0
  · rw [if_pos h1, if_neg (by omega)]; simp [ident_Next.j0]
  · rw [if_neg h1]
    by_cases h2 : a > 1099511627776
    · rw [if_pos h2, if_neg (by omega)]; simp [ident_Next.j0]
    · rw [if_neg h2]
      by_cases h3 : b ≥ 0
      · rw [if_pos h3]
        by_cases h4 : b < 64
        · rw [if_pos (by omega)]
          simp only [Option.bind_some, ident_Next.j0, decide_eq_true h4, Bool.not_true, Bool.false_eq_true, if_false]
          by_cases h5 : a = 1099511627776
          · simp [h5]
          · rw [if_neg h5, if_neg h5, IntWalk.wrap64_in (a + 1) ⟨by omega, by omega⟩]
        · rw [if_neg (by omega)]
          simp only [Option.bind_some, ident_Next.j0, decide_eq_false h4, Bool.not_false, if_true]
      · rw [if_neg h3, if_neg (by omega)]
        simp [ident_Next.j0]
theorem itoa8 : strconv_Itoa_33.f 8 = some ⟨#[56]⟩ := by simp [strconv_Itoa_33.f, Lib.itoa, Lib.decDigits]
theorem itoa3 : strconv_Itoa_33.f 3 = some ⟨#[51]⟩ := by simp [strconv_Itoa_33.f, Lib.itoa, Lib.decDigits]
theorem text83 : ident_Text.f 8 3 = some (⟨#[56, 46, 51]⟩, 0) := by
  unfold ident_Text.f
  rw [right_f, show isR 8 3 = true from rfl, itoa8]
  simp only [Option.bind_some, if_true, itoa3]
  rfl
theorem awake_f (k : Nat) : topiarylaw01_awake.f (k + 1) = some true := by
  unfold topiarylaw01_awake.f
  rw [next_f _ _ _ (by omega)]
  simp only [Option.bind_some]
  rw [if_pos (by omega), if_neg (by omega)]
  simp only [show (7 : Int) + 1 = 8 from rfl, text83, Option.bind_some, right_f]
  kernel_rfl

theorem beq2 (a b c d : Int) : (a == c && (b == d)) = decide (a = c ∧ b = d) := by
  by_cases h1 : a = c <;> by_cases h2 : b = d <;> simp [h1, h2]
/-- How two stamps stand, as a plain number. -/
def cmp (a b c d : Int) : Int := if a = c ∧ b = d then 0 else if a < c ∨ (a = c ∧ b < d) then -1 else 1
theorem compare_f (a b c d : Int) : ident_Compare.f a b c d = some (cmp a b c d) := by
  unfold ident_Compare.f cmp
  rw [beq2]
  by_cases h1 : a = c ∧ b = d
  · simp [h1]
  · rw [if_neg h1, if_neg (by simpa using h1)]
    by_cases h2 : a < c
    · simp [h2]
    · by_cases h3 : a = c
      · by_cases h4 : b < d <;> simp [h2, h3, h4]
      · simp [h2, h3]

theorem less_f (a b c d : Int) : ident_Less.f a b c d = some (decide (cmp a b c d < 0)) := by
  unfold ident_Less.f
  rw [compare_f]; rfl
theorem cmp_neg (a b c d : Int) : (cmp a b c d < 0) ↔ (a < c ∨ (a = c ∧ b < d)) := by
  unfold cmp
  split
  · omega
  · split <;> omega

theorem cmp_neg_ (a b c d : Int) : wrap64 (-(cmp c d a b)) = cmp a b c d := by
  have : cmp a b c d = -(cmp c d a b) := by
    unfold cmp
    repeat' split
    all_goals omega
  rw [this]
  have h : cmp c d a b = 0 ∨ cmp c d a b = -1 ∨ cmp c d a b = 1 := by unfold cmp; (repeat' split) <;> simp
  rcases h with h | h | h <;> rw [h] <;> exact IntWalk.wrap64_in _ ⟨by omega, by omega⟩
theorem j0_false (k : Nat) (a b c d e f : Int) : topiarylaw01_IdentOrder.j0 (k + 2) false a b c d e f = some true := by
  simp only [topiarylaw01_IdentOrder.j0, Bool.false_eq_true, if_false, less_f, Option.bind_some, awake_f, decide_eq_true_eq, cmp_neg]
  by_cases h1 : a < c ∨ (a = c ∧ b < d)
  · rw [if_pos h1]
    by_cases h2 : c < e ∨ (c = e ∧ d < f)
    · rw [if_pos h2, if_pos (by omega)]
    · rw [if_neg h2]
  · rw [if_neg h1]
theorem law (k : Nat) (a b c d e f : Int) : topiarylaw01_IdentOrder.f (k + 2) a b c d e f = some true := by
  unfold topiarylaw01_IdentOrder.f
  simp only [less_f, compare_f, Option.bind_some, cmp_neg_, bne_self_eq_false, j0_false, decide_eq_true_eq, cmp_neg]
  rw [beq2]
  by_cases h : a = c ∧ b = d
  · obtain ⟨rfl, rfl⟩ := h
    simp
  · have hb : (!(a == c) || (!(b == d))) = true := by
      by_cases h1 : a = c
      · have : b ≠ d := fun h2 => h ⟨h1, h2⟩
        simp [this]
      · simp [h1]
    rw [if_pos hb, if_neg, if_neg (by simpa using h)]
    simp only [beq_iff_eq, decide_eq_decide]
    omega
end Go.Proofs.YtlmkgccaiihgjaaDoor.PureIdentOrder
