-- The plain law of IdentGoes: no program in sight (by this session).
import Derived.Test.YtlmkgccaiihgjaaDoorQIdentGoesx
namespace Go.Proofs.YtlmkgccaiihgjaaDoor.PureIdentGoes
open Go.RowKit Go.Proofs.YtlmkgccaiihgjaaDoorW.PrintWords Go.Proofs.YtlmkgccaiihgjaaDoor.QIdentGoes
set_option linter.unusedVariables false
set_option linter.unusedSimpArgs false

/-- Is a stamp right, as a plain test. -/
def isR (a b : Int) : Bool := decide (1 ≤ a) && (decide (a ≤ 1099511627776) && (decide (0 ≤ b) && decide (b < 64)))
theorem right_f (a b : Int) : ident_Right.f a b = some (isR a b) := by
  unfold ident_Right.f ident_replica.f isR
  by_cases h1 : 1 ≤ a <;> by_cases h2 : a ≤ 1099511627776 <;> by_cases h3 : 0 ≤ b <;> simp [h1, h2, h3]
theorem next_f (k : Nat) (a b : Int) (hw : a ≤ 9223372036854775807) : ident_Next.f (k + 1) a b = some (if 0 ≤ a ∧ a ≤ 1099511627776 ∧ 0 ≤ b ∧ b < 64 then (if a = 1099511627776 then (0, 0, 6) else (a + 1, b, 0)) else (0, 0, 1)) := by
  unfold ident_Next.f ident_replica.f
  by_cases h1 : a < 0
  · rw [if_pos h1, if_neg (by omega)]; simp [ident_Next.j0]
  · rw [if_neg h1]
    by_cases h2 : a > 1099511627776
    · rw [if_pos h2, if_neg (by omega)]; simp [ident_Next.j0]
    · rw [if_neg h2]
      by_cases h3 : b ≥ 0
      · rw [if_pos h3]
        by_cases h4 : b < 64
        · rw [if_pos (by omega)]
          simp only [Option.bind_some, ident_Next.j0, decide_eq_true h4, Bool.not_true, Bool.false_eq_true, if_false]
          by_cases h5 : a = 1099511627776
          · simp [h5]
          · rw [if_neg h5, if_neg h5, IntWalk.wrap64_in (a + 1) ⟨by omega, by omega⟩]
        · rw [if_neg (by omega)]
          simp only [Option.bind_some, ident_Next.j0, decide_eq_false h4, Bool.not_false, if_true]
      · rw [if_neg h3, if_neg (by omega)]
        simp [ident_Next.j0]
theorem itoa8 : strconv_Itoa_33.f 8 = some ⟨#[56]⟩ := by simp [strconv_Itoa_33.f, Lib.itoa, Lib.decDigits]
theorem itoa3 : strconv_Itoa_33.f 3 = some ⟨#[51]⟩ := by simp [strconv_Itoa_33.f, Lib.itoa, Lib.decDigits]
theorem text83 : ident_Text.f 8 3 = some (⟨#[56, 46, 51]⟩, 0) := by
  unfold ident_Text.f
  rw [right_f, show isR 8 3 = true from rfl, itoa8]
  simp only [Option.bind_some, if_true, itoa3]
  rfl
theorem awake_f (k : Nat) : topiarylaw01_awake.f (k + 1) = some true := by
  unfold topiarylaw01_awake.f
  rw [next_f _ _ _ (by omega)]
  simp only [Option.bind_some]
  rw [if_pos (by omega), if_neg (by omega)]
  simp only [show (7 : Int) + 1 = 8 from rfl, text83, Option.bind_some, right_f]
  kernel_rfl

/-! ### the reference's sort, and the law -/
theorem eqS (x y : S23) : ((x.f0 == y.f0) && (x.f1 == y.f1)) = decide (x = y) := by
  obtain ⟨a, b⟩ := x
  obtain ⟨c, d⟩ := y
  by_cases h1 : a = c <;> by_cases h2 : b = d <;> simp [h1, h2]
theorem neS (x y : S23) : (!(x.f0 == y.f0) || (!(x.f1 == y.f1))) = !decide (x = y) := by
  rw [← Bool.not_and, eqS]
theorem rd_S (x : List S23) (i : Nat) (h : i < x.length) : rd_T23 x (i : Int) = x[i] := by
  simp [rd_T23, List.getD_eq_getElem?_getD, h]
theorem wrapS {i n : Nat} (h : i < n) (hn : n < 8796093022208) : wrap64 ((i : Int) + 1) = ((i + 1 : Nat) : Int) := by
  unfold wrap64; omega
theorem has_l0 (l : List S23) (hl : l.length < 8796093022208) (x : S23) (d : Nat) : ∀ (k i : Nat), i ≤ l.length → l.length - i = d → d < k → topiaryref01_Has.l0 k l (i : Int) x.f0 x.f1 = some (decide (x ∈ l.drop i)) := by
  induction d with
  | zero =>
    intro k i hi hd hk
    obtain ⟨k, rfl⟩ : ∃ m, k = m + 1 := ⟨k - 1, by omega⟩
    simp only [topiaryref01_Has.l0]
    rw [if_neg (by omega), List.drop_eq_nil_of_le (by omega)]; simp
  | succ d ih =>
    intro k i hi hd hk
    obtain ⟨k, rfl⟩ : ∃ m, k = m + 1 := ⟨k - 1, by omega⟩
    have hlt : i < l.length := by omega
    simp only [topiaryref01_Has.l0]
    rw [if_pos (by omega), if_pos (by omega), rd_S l i hlt, wrapS hlt hl, ih k (i + 1) (by omega) (by omega) (by omega), eqS]
    have hd2 : l.drop i = l[i] :: l.drop (i + 1) := List.drop_eq_getElem_cons hlt
    generalize l[i] = y at hd2 ⊢
    generalize l.drop (i + 1) = r at hd2 ⊢
    rw [hd2]
    by_cases e : y = x
    · subst e; simp
    · have e' : ¬ x = y := fun h => e h.symm
      simp [e, e']
theorem has_f (l : List S23) (hl : l.length < 8796093022208) (x : S23) (k : Nat) (hk : l.length < k) : topiaryref01_Has.f k l x.f0 x.f1 = some (decide (x ∈ l)) := by
  unfold topiaryref01_Has.f
  have := has_l0 l hl x l.length k 0 (by omega) (by omega) hk
  simpa using this
theorem less_S (x y : S23) : topiaryref01_Less.f x.f0 x.f1 y.f0 y.f1 = some (decide (ltS x y)) := by
  unfold topiaryref01_Less.f ltS
  by_cases h1 : x.f0 < y.f0 <;> by_cases h2 : x.f0 = y.f0 <;> simp [h1, h2]
/-- A stamp's place among such as are not it. -/
def insS (x : S23) : List S23 → List S23
  | [] => [x]
  | y :: r => if ltS x y then x :: y :: r else y :: insS x r
theorem putS_ins (x : S23) : ∀ l, x ∉ l → putS x l = insS x l
  | [], _ => rfl
  | y :: r, h => by
    unfold putS insS
    rw [if_neg (fun e => h (by rw [e]; simp)), putS_ins x r (fun m => h (by simp [m]))]
theorem putS_mem (x : S23) : ∀ l, Rises l → x ∈ l → putS x l = l
  | [], _, h => by cases h
  | y :: r, hr, h => by
    unfold putS
    by_cases e : x = y
    · rw [if_pos e]
    · have hr' := List.pairwise_cons.1 hr
      have hm : x ∈ r := by rcases List.mem_cons.1 h with h | h; exact absurd h e; exact h
      rw [if_neg e, if_neg (fun k => ltS_irrefl x (ltS_trans k (hr'.1 x hm))), putS_mem x r hr'.2 hm]
theorem put_done (l : List S23) (x : S23) (hl : l.length < 8796093022207) (d : Nat) : ∀ (k i : Nat) (out : List S23), i ≤ l.length → l.length - i = d → d < k → out.length ≤ i + 1 →
    topiaryref01_Put.l0 k l out true (i : Int) x.f0 x.f1 = some (out ++ l.drop i) := by
  induction d with
  | zero =>
    intro k i out hi hd hk ho
    obtain ⟨k, rfl⟩ : ∃ m, k = m + 1 := ⟨k - 1, by omega⟩
    simp only [topiaryref01_Put.l0]
    rw [if_neg (by omega), List.drop_eq_nil_of_le (by omega)]; simp
  | succ d ih =>
    intro k i out hi hd hk ho
    obtain ⟨k, rfl⟩ : ∃ m, k = m + 1 := ⟨k - 1, by omega⟩
    have hlt : i < l.length := by omega
    simp only [topiaryref01_Put.l0, if_true]
    rw [if_pos (by omega), if_pos (by omega), if_pos (by omega), rd_S l i hlt, wrapS hlt (by omega), ih k (i + 1) _ (by omega) (by omega) (by omega) (by simp; omega), List.append_assoc]
    have hd2 : l.drop i = l[i] :: l.drop (i + 1) := List.drop_eq_getElem_cons hlt
    rw [hd2]
    rfl
theorem put_l0 (l : List S23) (x : S23) (hl : l.length < 8796093022207) (d : Nat) : ∀ (k i : Nat) (out : List S23), i ≤ l.length → l.length - i = d → d < k → out.length ≤ i →
    topiaryref01_Put.l0 k l out false (i : Int) x.f0 x.f1 = some (out ++ insS x (l.drop i)) := by
  induction d with
  | zero =>
    intro k i out hi hd hk ho
    obtain ⟨k, rfl⟩ : ∃ m, k = m + 1 := ⟨k - 1, by omega⟩
    simp only [topiaryref01_Put.l0, Bool.false_eq_true, if_false]
    rw [if_neg (by omega), if_pos (by omega), List.drop_eq_nil_of_le (by omega)]; rfl
  | succ d ih =>
    intro k i out hi hd hk ho
    obtain ⟨k, rfl⟩ : ∃ m, k = m + 1 := ⟨k - 1, by omega⟩
    have hlt : i < l.length := by omega
    simp only [topiaryref01_Put.l0, Bool.false_eq_true, if_false]
    rw [if_pos (by omega), if_pos (by omega), rd_S l i hlt, less_S, wrapS hlt (by omega), List.drop_eq_getElem_cons hlt]
    simp only [Option.bind_some, decide_eq_true_eq, insS]
    by_cases h : ltS x l[i]
    · rw [if_pos h, if_pos (by omega), if_pos (by simp; omega), put_done l x hl d k (i + 1) _ (by omega) (by omega) (by omega) (by simp; omega), if_pos h, List.append_assoc, List.append_assoc]
      rfl
    · rw [if_neg h, if_pos (by omega), ih k (i + 1) _ (by omega) (by omega) (by omega) (by simp; omega), if_neg h]
      simp
theorem put_f (l : List S23) (x : S23) (hr : Rises l) (hl : l.length < 8796093022207) (k : Nat) (hk : l.length < k) : topiaryref01_Put.f k l x.f0 x.f1 = some (putS x l) := by
  unfold topiaryref01_Put.f
  rw [has_f l (by omega) x k hk]
  simp only [Option.bind_some, decide_eq_true_eq]
  by_cases h : x ∈ l
  · rw [if_pos h, putS_mem x l hr h]
  · rw [if_neg h, putS_ins x l h]
    have := put_l0 l x hl l.length k 0 [] (by omega) (by omega) hk (by simp)
    simpa using this
theorem sort_l0 (l : List S23) (hl : l.length < 8796093022207) (d : Nat) : ∀ (k i : Nat) (a : List S23), i ≤ l.length → l.length - i = d → l.length + d < k → Rises a → a.length ≤ i →
    topiaryref01_Sort.l0 k l a (i : Int) = some ((l.drop i).foldl (fun a x => putS x a) a) := by
  induction d with
  | zero =>
    intro k i a hi hd hk hr ha
    obtain ⟨k, rfl⟩ : ∃ m, k = m + 1 := ⟨k - 1, by omega⟩
    simp only [topiaryref01_Sort.l0]
    rw [if_neg (by omega), List.drop_eq_nil_of_le (by omega)]; rfl
  | succ d ih =>
    intro k i a hi hd hk hr ha
    obtain ⟨k, rfl⟩ : ∃ m, k = m + 1 := ⟨k - 1, by omega⟩
    have hlt : i < l.length := by omega
    simp only [topiaryref01_Sort.l0]
    rw [if_pos (by omega), if_pos (by omega), rd_S l i hlt, put_f a l[i] hr (by omega) k (by omega)]
    simp only [Option.bind_some]
    rw [wrapS hlt (by omega), ih k (i + 1) _ (by omega) (by omega) (by omega) (rises_putS _ _ hr) (by have := length_putS l[i] a; omega), List.drop_eq_getElem_cons hlt]
    rfl
theorem sort_f (l : List S23) (hl : l.length < 8796093022207) (k : Nat) (hk : 2 * l.length < k) : topiaryref01_Sort.f k l = some (srtS l) := by
  unfold topiaryref01_Sort.f
  have := sort_l0 l hl l.length k 0 [] (by omega) (by omega) (by omega) List.Pairwise.nil (by simp)
  simpa [srtS] using this
theorem law (l : List S23) (stop : Int) (hl : l.length < 8796093022207) (k : Nat) (hk : 2 * l.length < k) : topiarylaw01_IdentGoes.f (k + 1) l stop = some true := by
  unfold topiarylaw01_IdentGoes.f
  rw [if_pos ⟨hl, sort_f l hl (k + 1) (by omega), awake_f k⟩]
end Go.Proofs.YtlmkgccaiihgjaaDoor.PureIdentGoes
