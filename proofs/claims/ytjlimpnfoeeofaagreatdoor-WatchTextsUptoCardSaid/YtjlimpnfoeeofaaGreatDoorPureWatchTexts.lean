/- any findings' text: the program and the reference tell the same, for all lists of at most 1048576 findings. -/
import Derived.Test.YtjlimpnfoeeofaaGreatDoorQWatchTextsx
import Derived.OpenShut
namespace Go.Proofs.YtjlimpnfoeeofaaGreatDoor.PureWatchTexts
open Go.RowKit Go.Proofs.YtjlimpnfoeeofaaGreatDoor.QWatchTexts Go.Proofs.YtjlimpnfoeeofaaGreatDoorW.PrintWords Go.Proofs.YtjlimpnfoeeofaaGreatDoorW.PrintLast
set_option linter.unusedVariables false
set_option linter.unusedSimpArgs false
theorem dec_small {u : Nat} (h : u < 10) : Lib.decDigits u = [UInt8.ofNat (48 + u)] := by rw [Lib.decDigits, dif_pos h]
theorem dec_big {u : Nat} (h : ¬ u < 10) : Lib.decDigits u = Lib.decDigits (u / 10) ++ [UInt8.ofNat (48 + u % 10)] := by rw [Lib.decDigits, dif_neg h]
/-- All digits but the last. -/
def upper (n : Nat) : List UInt8 := if n < 10 then [] else Lib.decDigits (n / 10)
theorem upper_big {n : Nat} (h : ¬ n < 10) : upper n = upper (n / 10) ++ [UInt8.ofNat (48 + n / 10 % 10)] := by
  unfold upper
  rw [if_neg h]
  by_cases h2 : n / 10 < 10
  · rw [if_pos h2, dec_small h2, Nat.mod_eq_of_lt h2]; rfl
  · rw [if_neg h2, dec_big h2]
theorem upper_dec (n : Nat) : upper n ++ [UInt8.ofNat (48 + n % 10)] = Lib.decDigits n := by
  unfold upper
  by_cases h : n < 10
  · rw [if_pos h, dec_small h, Nat.mod_eq_of_lt h]; rfl
  · rw [if_neg h, dec_big h]
theorem w64 (a : Int) (h0 : -9223372036854775808 ≤ a) (h1 : a ≤ 9223372036854775807) : wrap64 a = a := by unfold wrap64; omega
theorem digit (n : Nat) (h : n < 9223372036854775808) : (wrap64 (48 + (Int.tmod (n : Int) 10))) % 256 = ((48 + n % 10 : Nat) : Int) := by
  rw [show Int.tmod (n : Int) 10 = ((n % 10 : Nat) : Int) from by rw [Int.tmod_eq_emod_of_nonneg (by omega)]; omega, w64 _ (by omega) (by omega)]
  omega
theorem tenth (n : Nat) (h : n < 9223372036854775808) : wrap64 (Int.tdiv (n : Int) 10) = ((n / 10 : Nat) : Int) := by
  rw [show Int.tdiv (n : Int) 10 = ((n / 10 : Nat) : Int) from by rw [Int.tdiv_eq_ediv_of_nonneg (by omega)]; omega, w64 _ (by omega) (by omega)]
theorem one (z : Nat) : strOfNums ([((z : Nat) : Int)] : List Int) = ⟨[UInt8.ofNat z].toArray⟩ := by
  simp [strOfNums]
theorem bl_app (a b : List UInt8) : (⟨a.toArray⟩ : ByteArray) ++ ⟨b.toArray⟩ = ⟨(a ++ b).toArray⟩ := by apply ByteArray.ext; simp [ByteArray.data_append]
theorem bl_size (a : List UInt8) : (⟨a.toArray⟩ : ByteArray).size = a.length := by simp [ByteArray.size]
theorem digits_l0 : ∀ (j n k : Nat) (s : List UInt8), n < 10 ^ j → n < 9223372036854775808 → j ≤ 20 → s.length + j ≤ 100 → j < k → topiaryref01_Digits.l0 k (n : Int) ⟨s.toArray⟩ = some ⟨(upper n ++ s).toArray⟩
  | j, n, 0, s, hn, hn2, hj, hs, hk => by omega
  | 0, n, k + 1, s, hn, hn2, hj, hs, hk => by
    simp only [topiaryref01_Digits.l0]
    rw [if_neg (by omega), show upper n = [] from by unfold upper; rw [if_pos (by omega)]]
    rfl
  | j + 1, n, k + 1, s, hn, hn2, hj, hs, hk => by
    simp only [topiaryref01_Digits.l0]
    by_cases h : n < 10
    · rw [if_neg (by omega), show upper n = [] from by unfold upper; rw [if_pos h]]
      rfl
    · rw [if_pos (by omega), tenth n hn2, digit (n / 10) (by omega)]
      simp only [Option.bind_some]
      rw [one, bl_size, bl_size, if_pos (by simp only [List.length_singleton]; omega), bl_app]
      rw [digits_l0 j (n / 10) k _ (by rw [Nat.pow_succ] at hn; omega) (by omega) (by omega) (by simp; omega) (by omega), upper_big h]
      simp
theorem digits_f (k n : Nat) (h : n < 9223372036854775808) : topiaryref01_Digits.f (k + 21) (n : Int) = some ⟨(Lib.decDigits n).toArray⟩ := by
  unfold topiaryref01_Digits.f
  rw [digit n h, one, digits_l0 20 n (k + 21) _ (Nat.lt_of_lt_of_le h (by decide)) h (by omega) (by simp) (by omega), upper_dec]
/-- A number's digits; none of nought. -/
def ups (m : Nat) : List UInt8 := if m = 0 then [] else Lib.decDigits m
theorem ups_step {m : Nat} (h : m ≠ 0) : ups m = ups (m / 10) ++ Lib.decDigits (m % 10) := by
  unfold ups
  rw [if_neg h, dec_small (show m % 10 < 10 by omega)]
  by_cases h2 : m < 10
  · rw [if_pos (by omega), dec_small h2, Nat.mod_eq_of_lt h2]; rfl
  · rw [if_neg (by omega), dec_big h2]
theorem neg_l0 : ∀ (j m k : Nat) (s : List UInt8), m < 10 ^ j → m ≤ 9223372036854775808 → j ≤ 20 → s.length + j ≤ 100 → j + 22 < k → topiaryref24_whole.l0 k (-(m : Int)) ⟨s.toArray⟩ = some ⟨(45 :: (ups m ++ s)).toArray⟩
  | j, m, 0, s, hn, hm, hj, hs, hk => by omega
  | j, m, k + 1, s, hn, hm, hj, hs, hk => by
    simp only [topiaryref24_whole.l0]
    by_cases h0 : m = 0
    · subst h0
      rw [if_neg (by omega), bl_size, if_pos (by omega), show ups 0 = [] from rfl, show (⟨#[45]⟩ : ByteArray) = ⟨[45].toArray⟩ from rfl, bl_app]
      rfl
    · cases j with
      | zero => simp at hn; omega
      | succ j =>
        have e1 : wrap64 (-(Int.tmod (-(m : Int)) 10)) = ((m % 10 : Nat) : Int) := by
          rw [Int.neg_tmod, Int.neg_neg, show Int.tmod (m : Int) 10 = ((m % 10 : Nat) : Int) from by rw [Int.tmod_eq_emod_of_nonneg (by omega)]; omega, w64 _ (by omega) (by omega)]
        have e2 : wrap64 (Int.tdiv (-(m : Int)) 10) = -((m / 10 : Nat) : Int) := by
          rw [Int.neg_tdiv, show Int.tdiv (m : Int) 10 = ((m / 10 : Nat) : Int) from by rw [Int.tdiv_eq_ediv_of_nonneg (by omega)]; omega, w64 _ (by omega) (by omega)]
        obtain ⟨k, rfl⟩ : ∃ q, k = q + 21 := ⟨k - 21, by omega⟩
        rw [if_pos (by omega), e1, e2, digits_f k (m % 10) (by omega)]
        simp only [Option.bind_some]
        rw [bl_size, bl_size, dec_small (show m % 10 < 10 by omega), if_pos (by simp only [List.length_singleton]; omega), bl_app]
        rw [neg_l0 j (m / 10) (k + 21) _ (by rw [Nat.pow_succ] at hn; omega) (by omega) (by omega) (by simp; omega) (by omega), ups_step h0, dec_small (show m % 10 < 10 by omega)]
        simp
theorem whole_f (k : Nat) (a : Int) (h : isI64 a = true) : topiaryref24_whole.f (k + 60) a = some ⟨(Lib.itoa a).toArray⟩ := by
  simp only [isI64, Bool.and_eq_true, decide_eq_true_eq] at h
  obtain ⟨h0, h1⟩ := h
  unfold topiaryref24_whole.f Lib.itoa
  by_cases hn : a < 0
  · rw [if_neg (by omega), if_pos hn]
    have e : a = -((a.natAbs : Nat) : Int) := by omega
    have := neg_l0 20 a.natAbs (k + 60) [] (by omega) (by omega) (by omega) (by simp) (by omega)
    rw [← e] at this
    rw [show (⟨#[]⟩ : ByteArray) = ⟨([] : List UInt8).toArray⟩ from rfl, this, List.append_nil]
    unfold ups
    rw [if_neg (by omega)]
  · rw [if_pos (by omega), if_neg hn]
    have e : a = ((a.toNat : Nat) : Int) := by omega
    have := digits_f (k + 39) a.toNat (by omega)
    rw [← e] at this
    rw [this]; rfl
def nums (l : List UInt8) : List Int := l.map fun b => (b.toNat : Int)
theorem nums_app (l m : List UInt8) : nums (l ++ m) = nums l ++ nums m := by simp [nums]
theorem nums_len (l : List UInt8) : (nums l).length = l.length := by simp [nums]
theorem str_nums (l : List UInt8) : strOfNums (nums l) = ⟨l.toArray⟩ := by
  unfold strOfNums nums
  rw [List.map_map, show ((fun n : Int => UInt8.ofNat n.toNat) ∘ fun b : UInt8 => (b.toNat : Int)) = id from funext fun b => by simp, List.map_id]
theorem bytes_bl (l : List UInt8) : bytesOf ⟨l.toArray⟩ = nums l := by simp [bytesOf, nums]
def ws : List ByteArray := [(⟨#[]⟩ : ByteArray), (⟨#[111, 112, 101, 110]⟩ : ByteArray), (⟨#[116, 114, 101, 101]⟩ : ByteArray), (⟨#[108, 105, 110, 107, 115]⟩ : ByteArray), (⟨#[104, 116, 109, 108]⟩ : ByteArray), (⟨#[97, 112, 97, 114, 116]⟩ : ByteArray), (⟨#[116, 119, 111]⟩ : ByteArray)]
theorem ws_rd {k : Int} (h1 : ¬ k < 1) (h2 : ¬ 6 < k) : rdOf ByteArray.empty ws k = ⟨(kindT k).toArray⟩ := by
  have h6 : k = 1 ∨ k = 2 ∨ k = 3 ∨ k = 4 ∨ k = 5 ∨ k = 6 := by omega
  rcases h6 with h | h | h | h | h | h <;> subst h <;> rfl
theorem text_l0 (l : List S32) (hl : l.length ≤ 1048576) (hI : ∀ x ∈ l, isI64 x.f1 = true ∧ isI64 x.f2 = true) : ∀ (m i : Nat), i + m = l.length → ∀ k, topiaryref24_Text.l0 (k + 2 * m + 62) l ws (nums (textT (l.take i))) (i : Int) = some ⟨(textT l).toArray⟩
  | 0, i, h, k => by
    rw [show k + 2 * 0 + 62 = (k + 61) + 1 from by omega]
    simp only [topiaryref24_Text.l0]
    rw [if_neg (by omega), List.take_of_length_le (by omega), str_nums]
  | m + 1, i, h, k => by
    have hlt : i < l.length := by omega
    rw [show k + 2 * (m + 1) + 62 = (k + 2 * m + 62 + 1) + 1 from by omega]
    simp only [topiaryref24_Text.l0]
    rw [if_pos (by omega), if_pos (by omega)]
    have hs := gf_step hlt (X := rd_T32 l (i : Int)) rfl
    have hm := rd_mem hlt
    obtain ⟨hi1, hi2⟩ := hI _ hm
    generalize hX : rd_T32 l (i : Int) = X at *
    have next : wrap64 ((i : Int) + 1) = ((i + 1 : Nat) : Int) := by rw [w64 _ (by omega) (by omega)]; omega
    have ih := fun q => text_l0 l hl hI m (i + 1) (by omega) q
    have bound := textT_le (l.take i) (fun x hx => hI x (List.mem_of_mem_take hx))
    rw [List.length_take] at bound
    by_cases c1 : X.f0 < 1
    · rw [if_pos c1]
      simp only [topiaryref24_Text.j1]
      rw [if_pos trivial, next, ← ih k, hs, find_no (.inl c1), List.append_nil]
    · rw [if_neg c1]
      by_cases c2 : 6 < X.f0
      · rw [decide_eq_true (show X.f0 > 6 from c2)]
        simp only [topiaryref24_Text.j1]
        rw [if_pos trivial, next, ← ih k, hs, find_no (.inr c2), List.append_nil]
      · rw [decide_eq_false (show ¬ X.f0 > 6 from c2)]
        simp only [topiaryref24_Text.j1]
        have b1 := kindT_le X.f0
        have b2 := itoa_le _ hi1
        have b3 := itoa_le _ hi2
        rw [if_neg Bool.false_ne_true, if_pos (by omega), if_pos (by show X.f0 < 7; omega), ws_rd c1 c2, bl_size, if_pos (by omega), show k + 2 * m + 62 = (k + 2 * m + 2) + 60 from by omega, whole_f _ _ hi1]
        simp only [Option.bind_some]
        rw [show (⟨#[32]⟩ : ByteArray) = ⟨[32].toArray⟩ from rfl, bl_app, bl_size, bl_size, if_pos (by simp only [List.length_append, List.length_singleton]; omega)]
        by_cases c5 : 5 ≤ X.f0
        · rw [if_pos (show X.f0 ≥ 5 from c5), bl_app, bl_size, if_pos (by simp only [List.length_append, List.length_singleton]; omega), whole_f _ _ hi2]
          simp only [Option.bind_some]
          rw [bl_app, bl_size, bl_size, if_pos (by simp only [List.length_append, List.length_singleton]; omega), bl_app, bl_size, nums_len, if_pos (by simp only [List.length_append, List.length_singleton]; omega), bytes_bl, ← nums_app]
          rw [nums_len, if_pos (by simp only [List.length_append, List.length_singleton]; omega), show ([10] : List Int) = nums [10] from rfl, ← nums_app, next, show k + 2 * m + 2 + 60 = k + 2 * m + 62 from by omega, ← ih k, hs]
          congr 2
          unfold findT
          rw [if_neg (by omega), if_pos c5]
          simp
        · rw [if_neg (show ¬ X.f0 ≥ 5 from c5), bl_app, bl_size, nums_len, if_pos (by simp only [List.length_append, List.length_singleton]; omega), bytes_bl, ← nums_app]
          rw [nums_len, if_pos (by simp only [List.length_append, List.length_singleton]; omega), show ([10] : List Int) = nums [10] from rfl, ← nums_app, next, show k + 2 * m + 2 + 60 = k + 2 * m + 62 from by omega, ← ih k, hs]
          congr 2
          unfold findT
          rw [if_neg (by omega), if_neg c5]
          simp
theorem law (l : List S32) (hl : l.length ≤ 1048576) (hI : ∀ x ∈ l, isI64 x.f1 = true ∧ isI64 x.f2 = true) : topiarylaw24_WatchTexts.f (2 * l.length + 62) l = some true := by
  unfold topiarylaw24_WatchTexts.f
  have e1 : watch_Text.f (2 * l.length + 62) l = some ⟨(textT l).toArray⟩ := by
    unfold watch_Text.f
    rw [if_pos (by omega), if_pos (List.all_eq_true.2 fun x hx => by have := hI x hx; simp [this])]
  have e2 : topiaryref24_Text.f (2 * l.length + 62) l = some ⟨(textT l).toArray⟩ := by
    unfold topiaryref24_Text.f
    have := text_l0 l hl hI l.length 0 (by omega) 0
    rw [show 0 + 2 * l.length + 62 = 2 * l.length + 62 from by omega] at this
    exact this
  rw [e1, e2]
  simp only [Option.bind_some]
  rw [if_pos trivial]
  rfl
theorem i64_ok {a : Int} (h : (Lit.int .i64 a).wf = true) : isI64 a = true := by
  have := bounds_i64 h
  simp only [isI64, Bool.and_eq_true, decide_eq_true_eq]
  omega
end Go.Proofs.YtjlimpnfoeeofaaGreatDoor.PureWatchTexts
