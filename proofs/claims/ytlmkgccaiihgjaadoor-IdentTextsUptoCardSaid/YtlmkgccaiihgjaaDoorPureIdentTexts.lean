-- The plain law of IdentTexts: no program in sight (by this session).
import Derived.Test.YtlmkgccaiihgjaaDoorQIdentTextsx
namespace Go.Proofs.YtlmkgccaiihgjaaDoor.PureIdentTexts
open Go.RowKit Go.Proofs.YtlmkgccaiihgjaaDoorW.PrintWords Go.Proofs.YtlmkgccaiihgjaaDoor.QIdentTexts
set_option linter.unusedVariables false
set_option linter.unusedSimpArgs false

/-- Is a stamp right, as a plain test. -/
def isR (a b : Int) : Bool := decide (1 ≤ a) && (decide (a ≤ 1099511627776) && (decide (0 ≤ b) && decide (b < 64)))
theorem right_f (a b : Int) : ident_Right.f a b = some (isR a b) := by
  unfold ident_Right.f ident_replica.f isR
  by_cases h1 : 1 ≤ a <;> by_cases h2 : a ≤ 1099511627776 <;> by_cases h3 : 0 ≤ b <;> simp [h1, h2, h3]
theorem next_f (k : Nat) (a b : Int) (hw : a ≤ 9223372036854775807) : ident_Next.f (k + 1) a b = some (if 0 ≤ a ∧ a ≤ 1099511627776 ∧ 0 ≤ b ∧ b < 64 then (if a = 1099511627776 then (0, 0, 6) else (a + 1, b, 0)) else (0, 0, 1)) := by
  unfold ident_Next.f ident_replica.f
  by_cases h1 : a < 0
  · rw [if_pos h1, if_neg (by omega)]; simp [ident_Next.j0]
  · rw [if_neg h1]
    by_cases h2 : a > 1099511627776
    · rw [if_pos h2, if_neg (by omega)]; simp [ident_Next.j0]
    · rw [if_neg h2]
      by_cases h3 : b ≥ 0
      · rw [if_pos h3]
        by_cases h4 : b < 64
        · rw [if_pos (by omega)]
          simp only [Option.bind_some, ident_Next.j0, decide_eq_true h4, Bool.not_true, Bool.false_eq_true, if_false]
          by_cases h5 : a = 1099511627776
          · simp [h5]
          · rw [if_neg h5, if_neg h5, IntWalk.wrap64_in (a + 1) ⟨by omega, by omega⟩]
        · rw [if_neg (by omega)]
          simp only [Option.bind_some, ident_Next.j0, decide_eq_false h4, Bool.not_false, if_true]
      · rw [if_neg h3, if_neg (by omega)]
        simp [ident_Next.j0]
theorem itoa8 : strconv_Itoa_33.f 8 = some ⟨#[56]⟩ := by simp [strconv_Itoa_33.f, Lib.itoa, Lib.decDigits]
theorem itoa3 : strconv_Itoa_33.f 3 = some ⟨#[51]⟩ := by simp [strconv_Itoa_33.f, Lib.itoa, Lib.decDigits]
theorem text83 : ident_Text.f 8 3 = some (⟨#[56, 46, 51]⟩, 0) := by
  unfold ident_Text.f
  rw [right_f, show isR 8 3 = true from rfl, itoa8]
  simp only [Option.bind_some, if_true, itoa3]
  rfl
theorem awake_f (k : Nat) : topiarylaw01_awake.f (k + 1) = some true := by
  unfold topiarylaw01_awake.f
  rw [next_f _ _ _ (by omega)]
  simp only [Option.bind_some]
  rw [if_pos (by omega), if_neg (by omega)]
  simp only [show (7 : Int) + 1 = 8 from rfl, text83, Option.bind_some, right_f]
  kernel_rfl

/-! numerals, as lists of bytes -/
def isD (x : UInt8) : Bool := decide (48 ≤ x.toNat) && decide (x.toNat ≤ 57)
/-- The number that goes on from n by these digits, if all are digits. -/
def res : Nat → List UInt8 → Option Nat
  | n, [] => some n
  | n, x :: l => if isD x = true then res (10 * n + (x.toNat - 48)) l else none
theorem res_append : ∀ (l m : List UInt8) (n : Nat), res n (l ++ m) = (res n l).bind fun k => res k m
  | [], m, n => rfl
  | x :: l, m, n => by
    simp only [List.cons_append, res]
    split
    · exact res_append l m _
    · rfl
theorem toNat_of {n : Nat} (h : n < 10) : (UInt8.ofNat (48 + n)).toNat = 48 + n := by
  rw [UInt8.toNat_ofNat']; omega
theorem isD_of {n : Nat} (h : n < 10) : isD (UInt8.ofNat (48 + n)) = true := by
  unfold isD; rw [toNat_of h]; simp; omega
theorem of_isD {x : UInt8} (h : isD x = true) : UInt8.ofNat (48 + (x.toNat - 48)) = x ∧ x.toNat - 48 < 10 := by
  unfold isD at h
  simp only [Bool.and_eq_true, decide_eq_true_eq] at h
  refine ⟨?_, by omega⟩
  rw [show 48 + (x.toNat - 48) = x.toNat from by omega]
  exact UInt8.ofNat_toNat
/-- The one form of a numeral: not empty, no nought ahead. -/
def canon (l : List UInt8) : Prop := l ≠ [] ∧ (l.length = 1 ∨ l.head? ≠ some 48)
theorem dec_small {u : Nat} (h : u < 10) : Lib.decDigits u = [UInt8.ofNat (48 + u)] := by rw [Lib.decDigits, dif_pos h]
theorem dec_big {u : Nat} (h : ¬ u < 10) : Lib.decDigits u = Lib.decDigits (u / 10) ++ [UInt8.ofNat (48 + u % 10)] := by rw [Lib.decDigits, dif_neg h]
theorem dec_res : ∀ (u : Nat), res 0 (Lib.decDigits u) = some u := by
  intro u
  induction u using Nat.strongRecOn with
  | _ u ih =>
    by_cases h : u < 10
    · rw [dec_small h]
      simp only [res, isD_of h, if_true, toNat_of h]
      congr 1; omega
    · rw [dec_big h, res_append, ih (u / 10) (by omega)]
      simp only [Option.bind_some, res, isD_of (show u % 10 < 10 by omega), if_true, toNat_of (show u % 10 < 10 by omega)]
      congr 1; omega
theorem dec_ne (u : Nat) : Lib.decDigits u ≠ [] := by
  by_cases h : u < 10
  · rw [dec_small h]; simp
  · rw [dec_big h]; simp
theorem dec_head : ∀ (u : Nat), 1 ≤ u → (Lib.decDigits u).head? ≠ some 48 := by
  intro u
  induction u using Nat.strongRecOn with
  | _ u ih =>
    intro h1
    by_cases h : u < 10
    · rw [dec_small h]
      simp only [List.head?_cons, ne_eq, Option.some.injEq]
      intro he
      have := congrArg UInt8.toNat he
      rw [toNat_of h] at this
      simp at this
      omega
    · rw [dec_big h]
      have hi := ih (u / 10) (by omega) (by omega)
      rcases hd : Lib.decDigits (u / 10) with _ | ⟨y, m⟩
      · exact absurd hd (dec_ne _)
      · rw [hd] at hi; simpa using hi
theorem dec_canon (u : Nat) : canon (Lib.decDigits u) := by
  refine ⟨dec_ne u, ?_⟩
  by_cases h : u < 10
  · left; rw [dec_small h]; rfl
  · right; exact dec_head u (by omega)
theorem dec_length : ∀ (n u : Nat), 1 ≤ n → u < 10 ^ n → (Lib.decDigits u).length ≤ n := by
  intro n
  induction n with
  | zero => intro u h; omega
  | succ n ih =>
    intro u _ hu
    by_cases h : u < 10
    · rw [dec_small h]; simp
    · rw [dec_big h]
      have hn : 1 ≤ n := by
        rcases n with _ | n
        · simp at hu; omega
        · omega
      have := ih (u / 10) hn (by rw [Nat.pow_succ] at hu; omega)
      simp; omega
theorem res_le : ∀ (l : List UInt8) (n v : Nat), res n l = some v → n ≤ v
  | [], n, v, h => by simp only [res, Option.some.injEq] at h; omega
  | x :: l, n, v, h => by
    simp only [res] at h
    split at h
    · have := res_le l _ v h; omega
    · cases h
/-- A numeral in its one form is the numeral of its number. -/
theorem dec_of_res : ∀ (k : Nat) (l : List UInt8) (v : Nat), l.length = k → canon l → res 0 l = some v → Lib.decDigits v = l := by
  intro k
  induction k with
  | zero => intro l v hl hc; exact absurd (List.eq_nil_of_length_eq_zero hl) hc.1
  | succ k ih =>
    intro l v hl hc hv
    obtain ⟨m, x, rfl⟩ : ∃ m x, l = m ++ [x] := ⟨l.dropLast, l.getLast hc.1, (List.dropLast_concat_getLast hc.1).symm⟩
    rw [res_append] at hv
    obtain ⟨q, hq, hz⟩ := Option.bind_eq_some_iff.mp hv
    clear hv
    simp only [res] at hz
    split at hz
    · rename_i hx
      have hv := Option.some.inj hz
      obtain ⟨hx1, hx2⟩ := of_isD hx
      have hml : m.length = k := by simpa using hl
      rcases m with _ | ⟨y, m⟩
      · simp only [res, Option.some.injEq] at hq
        subst hq
        subst hv
        rw [dec_small (by omega)]
        simp only [Nat.mul_zero, Nat.zero_add, List.nil_append, hx1]
      · have hh : (y :: m).head? ≠ some 48 := by
          rcases hc.2 with h | h
          · simp at h
          · simpa using h
        have hi := ih (y :: m) q hml ⟨by simp, .inr hh⟩ hq
        have hq1 : 1 ≤ q := by
          rcases Nat.eq_zero_or_pos q with h0 | h0
          · subst h0
            rw [dec_small (by omega)] at hi
            simp only [List.cons.injEq] at hi
            obtain ⟨hy, _⟩ := hi
            exact absurd (by rw [← hy]; rfl) hh
          · exact h0
        subst hv
        rw [dec_big (by omega), show (10 * q + (x.toNat - 48)) / 10 = q from by omega, show (10 * q + (x.toNat - 48)) % 10 = x.toNat - 48 from by omega, hx1, hi]
    · cases hz
theorem res_lt : ∀ (l : List UInt8) (n v j : Nat), res n l = some v → n < 10 ^ j → v < 10 ^ (j + l.length)
  | [], n, v, j, h, hn => by simp only [res, Option.some.injEq] at h; subst h; simpa using hn
  | x :: l, n, v, j, h, hn => by
    simp only [res] at h
    split at h
    · rename_i hx
      have h2 := (of_isD hx).2
      have := res_lt l _ v (j + 1) h (by rw [Nat.pow_succ]; omega)
      simpa [Nat.add_assoc, Nat.add_comm 1] using this
    · cases h

/-! the loops -/
theorem size_len (a : ByteArray) : a.size = a.data.toList.length := rfl
theorem bt_list (a : ByteArray) (i : Nat) (h : i < a.data.toList.length) : bt a (i : Int) = ((a.data.toList[i]).toNat : Int) := by
  unfold bt
  rw [dif_pos (show ((i : Int)).toNat < a.size from by rw [Int.toNat_natCast]; exact h)]
  rfl
theorem bt_isD {x : UInt8} : (¬ ((x.toNat : Int) < 48) ∧ ¬ ((x.toNat : Int) > 57)) ↔ isD x = true := by
  unfold isD; simp only [Bool.and_eq_true, decide_eq_true_eq]; omega
def out (o : Option Nat) : Int × Bool := match o with | some v => ((v : Int), true) | none => (0, false)
theorem whole_l0 (a : ByteArray) (ha : a.size ≤ 14) : ∀ (m i n k : Nat), i + m = a.size → n < 10 ^ i → m < k → ident_whole.l0 k a (n : Int) (a.size : Int) (i : Int) = some (out (res n (a.data.toList.drop i)))
  | 0, i, n, k, hi, hn, hk => by
    obtain ⟨k, rfl⟩ : ∃ q, k = q + 1 := ⟨k - 1, by omega⟩
    simp only [ident_whole.l0]
    rw [if_neg (by omega), List.drop_eq_nil_of_le (by rw [← size_len]; omega)]
    rfl
  | m + 1, i, n, k, hi, hn, hk => by
    obtain ⟨k, rfl⟩ : ∃ q, k = q + 1 := ⟨k - 1, by omega⟩
    have hil : i < a.data.toList.length := by rw [← size_len]; omega
    have hp : 10 ^ i ≤ 10 ^ 13 := Nat.pow_le_pow_right (by omega) (by omega)
    simp only [ident_whole.l0]
    rw [if_pos (by omega), if_pos (by omega), if_pos (by omega), bt_list a i hil, List.drop_eq_getElem_cons hil]
    generalize a.data.toList[i] = x
    by_cases hx : isD x = true
    · obtain ⟨h1, h2⟩ := bt_isD.mpr hx
      rw [if_neg h1, if_neg h2]
      have hb := (of_isD hx).2
      have e1 : wrap64 (wrap64 (10 * (n : Int)) + (((x.toNat : Int) - 48) % 256)) = ((10 * n + (x.toNat - 48) : Nat) : Int) := by
        rw [IntWalk.wrap64_in (10 * (n : Int)) ⟨by omega, by omega⟩, show ((x.toNat : Int) - 48) % 256 = (x.toNat : Int) - 48 from by omega, IntWalk.wrap64_in _ ⟨by omega, by omega⟩]
        omega
      have e2 : wrap64 ((i : Int) + 1) = ((i + 1 : Nat) : Int) := by rw [IntWalk.wrap64_in _ ⟨by omega, by omega⟩]; omega
      rw [e1, e2, whole_l0 a ha m (i + 1) _ k (by omega) (by rw [Nat.pow_succ]; omega) (by omega)]
      simp only [res, hx, if_true]
    · simp only [res, hx, Bool.false_eq_true, if_false, out]
      by_cases h1 : (x.toNat : Int) < 48
      · rw [if_pos h1]
      · rw [if_neg h1]
        by_cases h2 : (x.toNat : Int) > 57
        · rw [if_pos h2]
        · exact absurd (bt_isD.mp ⟨h1, h2⟩) hx
/-- What 'whole' says of a text: up to so many digits. -/
def whole (mx_ : Nat) (l : List UInt8) : Option Nat := if l.length = 0 ∨ l.length > mx_ ∨ (l.head? = some 48 ∧ l.length > 1) then none else res 0 l
theorem head48 : ∀ (l : List UInt8) (h : 0 < l.length), ((l[0].toNat : Int) = 48 ↔ l.head? = some 48)
  | [], h => by simp at h
  | x :: l, h => by
    simp only [List.getElem_cons_zero, List.head?_cons, Option.some.injEq]
    constructor
    · intro e; exact UInt8.toNat_inj.mp (show x.toNat = (48 : UInt8).toNat from by simp; omega)
    · rintro rfl; rfl
theorem bt_head (a : ByteArray) (h : a.size ≠ 0) : bt a 0 = 48 ↔ a.data.toList.head? = some 48 := by
  have hl : 0 < a.data.toList.length := by rw [← size_len]; omega
  have := bt_list a 0 hl
  rw [show bt a 0 = ((a.data.toList[0]).toNat : Int) from this]
  exact head48 _ hl
theorem whole_f (k : Nat) (a : ByteArray) : ident_whole.f (k + 20) a = some (out (whole 14 a.data.toList)) := by
  unfold ident_whole.f whole
  rw [← size_len]
  by_cases h0 : a.size = 0
  · rw [if_pos (by omega), if_pos (.inl h0)]; simp [ident_whole.j0, out]
  · rw [if_neg (by omega)]
    by_cases h1 : a.size > 14
    · rw [if_pos (by omega), if_pos (.inr (.inl h1))]; simp [ident_whole.j0, out]
    · rw [if_neg (by omega), if_pos (by omega)]
      have hrun : ident_whole.j0 (k + 20) a false = some (out (res 0 a.data.toList)) := by
        simp only [ident_whole.j0, Bool.false_eq_true, if_false]
        have := whole_l0 a (by omega) a.size 0 0 (k + 19) (by omega) (by omega) (by omega)
        simpa using this
      by_cases h2 : bt a 0 = 48
      · rw [if_pos h2]
        have h3 := (bt_head a h0).mp h2
        by_cases h4 : a.size > 1
        · rw [if_pos (.inr (.inr ⟨h3, h4⟩)), decide_eq_true (show (a.size : Int) > 1 from by omega)]
          simp [ident_whole.j0, out]
        · rw [decide_eq_false (show ¬ (a.size : Int) > 1 from by omega), hrun, if_neg (by rintro (h | h | h) <;> omega)]
      · rw [if_neg h2, hrun, if_neg (by
          rintro (h | h | h)
          · omega
          · omega
          · exact h2 ((bt_head a h0).mpr h.1))]
/-! the text of a stamp, cut in two -/
def fin : Option Nat → Option Nat → Int × Int × Int
  | some n, some m => if isR n m = true then ((n : Int), (m : Int), 0) else (0, 0, 2)
  | _, _ => (0, 0, 2)
theorem whole_14 (l : List UInt8) : whole 14 l = whole 13 l ∨ (whole 13 l = none ∧ ∃ v, whole 14 l = some v ∧ 10 ^ 13 ≤ v) := by
  by_cases h : l.length = 14
  · have h13 : whole 13 l = none := by unfold whole; rw [if_pos (.inr (.inl (by omega)))]
    rw [h13]
    by_cases h1 : l.head? = some 48
    · left; unfold whole; rw [if_pos (.inr (.inr ⟨h1, by omega⟩))]
    · rcases hw : whole 14 l with _ | v
      · left; rfl
      · right
        refine ⟨rfl, v, rfl, ?_⟩
        unfold whole at hw
        split at hw
        · cases hw
        · have hd := dec_of_res l.length l v rfl ⟨by intro e; rw [e] at h; simp at h, .inr h1⟩ hw
          rcases Nat.lt_or_ge v (10 ^ 13) with hv | hv
          · have := dec_length 13 v (by omega) hv
            rw [hd] at this; omega
          · exact hv
  · left
    unfold whole
    by_cases h2 : l.length = 0 ∨ l.length > 14 ∨ (l.head? = some 48 ∧ l.length > 1)
    · rw [if_pos h2, if_pos (by
        rcases h2 with h2 | h2 | h2
        · exact .inl h2
        · exact .inr (.inl (by omega))
        · exact .inr (.inr h2))]
    · rw [if_neg h2, if_neg (by
        rintro (h3 | h3 | h3)
        · exact h2 (.inl h3)
        · exact h2 (.inr (.inl (by omega)))
        · exact h2 (.inr (.inr h3)))]
theorem fin_same (x y : List UInt8) : fin (whole 14 x) (whole 14 y) = fin (whole 13 x) (whole 13 y) := by
  rcases whole_14 x with hx | ⟨hx, v, hv, hb⟩ <;> rcases whole_14 y with hy | ⟨hy, u, hu, hc⟩
  · rw [hx, hy]
  · rw [hx, hy, hu]
    rcases whole 13 x with _ | n
    · rfl
    · simp only [fin]
      rw [if_neg (by simp only [isR, Bool.and_eq_true, decide_eq_true_eq]; omega)]
  · rw [hx, hv]
    rcases whole 14 y with _ | n
    · rcases whole 13 y with _ | n <;> rfl
    · simp only [fin]
      rw [if_neg (by simp only [isR, Bool.and_eq_true, decide_eq_true_eq]; omega)]
  · rw [hx, hv, hu]
    simp only [fin]
    rw [if_neg (by simp only [isR, Bool.and_eq_true, decide_eq_true_eq]; omega)]
def sp : List UInt8 → Option (List UInt8 × List UInt8)
  | [] => none
  | x :: l => if x = 46 then some ([], l) else (sp l).map fun p => (x :: p.1, p.2)
theorem cut_sp : ∀ l : List UInt8, Lib.cut l [46] = match sp l with | some (a, b) => (a, b, true) | none => (l, [], false)
  | [] => by simp [Lib.cut, Lib.index, sp]
  | x :: l => by
    have ih := cut_sp l
    have hg := Lib.index_ge l [46]
    unfold Lib.cut at ih ⊢
    by_cases hx : x = 46
    · subst hx
      simp [Lib.index, sp]
    · have hp : List.isPrefixOf [46] (x :: l) = false := by simp [List.isPrefixOf, Ne.symm hx]
      simp only [Lib.index, hp, Bool.false_eq_true, if_false, sp, if_neg hx]
      by_cases hi : 0 ≤ Lib.index l [46]
      · rw [if_pos hi] at ih
        have h1 : (Lib.index l [46] == -1) = false := by simp; omega
        simp only [h1, Bool.false_eq_true, if_false]
        rw [if_pos (by omega)]
        rcases hs : sp l with _ | ⟨a, b⟩
        · rw [hs] at ih; simp at ih
        · rw [hs] at ih
          simp only [Prod.mk.injEq] at ih
          obtain ⟨ha, hb, _⟩ := ih
          simp only [Option.map_some, Prod.mk.injEq]
          rw [show (Lib.index l [46] + 1).toNat = (Lib.index l [46]).toNat + 1 from by omega]
          refine ⟨by rw [List.take_succ_cons, ha], ?_, trivial⟩
          rw [Nat.add_right_comm, List.drop_succ_cons, ← hb]
      · rw [if_neg hi] at ih
        have h1 : (Lib.index l [46] == -1) = true := by simp; omega
        simp only [h1, if_true]
        rw [if_neg (by omega)]
        rcases hs : sp l with _ | ⟨a, b⟩
        · rfl
        · rw [hs] at ih; simp at ih
def parse (l : List UInt8) : Int × Int × Int := if l = [114, 111, 111, 116] then (0, 0, 0) else if l = [116, 114, 97, 115, 104] then (0, 1, 0) else match sp l with | some (a, b) => fin (whole 14 a) (whole 14 b) | none => (0, 0, 2)
theorem parse_f (k : Nat) (a : ByteArray) (ha : a.size ≤ 1048576) : ident_Parse.f (k + 20) a = some (parse a.data.toList) := by
  unfold ident_Parse.f parse
  rw [ByteArray.toList_eq]
  by_cases h1 : a.data.toList = [114, 111, 111, 116]
  · rw [if_pos h1, if_pos h1]
  · rw [if_neg h1, if_neg h1]
    by_cases h2 : a.data.toList = [116, 114, 97, 115, 104]
    · rw [if_pos h2, if_pos h2]
    · rw [if_neg h2, if_neg h2]
      unfold strings_Cut.f
      rw [if_pos ha, show (⟨#[46]⟩ : ByteArray).data.toList = [46] from rfl, cut_sp]
      simp only [Option.bind_some, whole_f]
      rcases sp a.data.toList with _ | ⟨x, y⟩
      · simp
      · simp only [if_true]
        rcases whole 14 x with _ | n
        · simp [out, fin]
        · rcases whole 14 y with _ | m
          · simp [out, fin]
          · simp only [out, if_true, right_f, Option.bind_some, fin]
            split <;> rfl
/-! the text of a stamp -/
theorem itoa_f (n : Nat) (h : n < 9223372036854775808) : strconv_Itoa_33.f (n : Int) = some ⟨(Lib.decDigits n).toArray⟩ := by
  unfold strconv_Itoa_33.f
  rw [if_pos (by omega), if_pos (by omega), Lib.itoa_nonneg]
def textOf (n m : Nat) : List UInt8 := Lib.decDigits n ++ 46 :: Lib.decDigits m
def text (a b : Int) : List UInt8 × Int := if isR a b = true then (textOf a.toNat b.toNat, 0) else if a = 0 ∧ b = 0 then ([114, 111, 111, 116], 0) else if a = 0 ∧ b = 1 then ([116, 114, 97, 115, 104], 0) else ([], 2)
theorem beq2 (a b c d : Int) : (a == c && (b == d)) = decide (a = c ∧ b = d) := by
  by_cases h1 : a = c <;> by_cases h2 : b = d <;> simp [h1, h2]
theorem join (x y : List UInt8) : (⟨x.toArray⟩ : ByteArray) ++ (⟨#[46]⟩ : ByteArray) ++ ⟨y.toArray⟩ = ⟨(x ++ 46 :: y).toArray⟩ := by
  apply ByteArray.ext
  simp [ByteArray.data_append]
theorem text_f (a b : Int) : ident_Text.f a b = some (⟨(text a b).1.toArray⟩, (text a b).2) := by
  unfold ident_Text.f text
  rw [right_f]
  simp only [Option.bind_some]
  by_cases h : isR a b = true
  · rw [if_pos h, if_pos h]
    have hR := h
    simp only [isR, Bool.and_eq_true, decide_eq_true_eq] at hR
    obtain ⟨n, rfl⟩ : ∃ n : Nat, a = n := ⟨a.toNat, by omega⟩
    obtain ⟨m, rfl⟩ : ∃ n : Nat, b = n := ⟨b.toNat, by omega⟩
    rw [itoa_f n (by omega), itoa_f m (by omega)]
    have l1 := dec_length 19 n (by omega) (by omega)
    have l2 := dec_length 19 m (by omega) (by omega)
    have s1 : (⟨(Lib.decDigits n).toArray⟩ : ByteArray).size ≤ 19 := by simpa [ByteArray.size] using l1
    have s2 : (⟨(Lib.decDigits m).toArray⟩ : ByteArray).size ≤ 19 := by simpa [ByteArray.size] using l2
    simp only [Option.bind_some]
    rw [if_pos (by omega), if_pos (by rw [ByteArray.size_append]; have : (⟨#[46]⟩ : ByteArray).size = 1 := rfl; omega), join]
    simp only [textOf, Int.toNat_natCast]
  · rw [if_neg h, if_neg h]
    simp only [beq2, decide_eq_true_eq]
    split
    · rfl
    · split <;> rfl
/-! both ways -/
theorem isD_46 : isD 46 = false := by decide
theorem dec_isD (m : List UInt8) : ∀ (l : List UInt8) (n v : Nat), res n l = some v → sp (l ++ 46 :: m) = some (l, m)
  | [], n, v, h => by simp [sp]
  | x :: l, n, v, h => by
    simp only [res] at h
    split at h
    · rename_i hx
      have hne : x ≠ 46 := by rintro rfl; rw [isD_46] at hx; cases hx
      simp only [List.cons_append, sp, if_neg hne, dec_isD m l _ v h, Option.map_some]
    · cases h
theorem whole_dec (n : Nat) (h : n < 10 ^ 14) : whole 14 (Lib.decDigits n) = some n := by
  unfold whole
  have hl := dec_length 14 n (by omega) h
  obtain ⟨h1, h2⟩ := dec_canon n
  rw [if_neg, dec_res]
  rintro (h3 | h3 | h3)
  · exact h1 (List.eq_nil_of_length_eq_zero h3)
  · omega
  · rcases h2 with h2 | h2
    · omega
    · exact h2 h3.1
theorem textOf_head (n m : Nat) : ∃ x l, textOf n m = x :: l ∧ isD x = true := by
  have hr := dec_res n
  unfold textOf
  rcases hd : Lib.decDigits n with _ | ⟨x, l⟩
  · exact absurd hd (dec_ne n)
  · rw [hd] at hr
    simp only [res] at hr
    split at hr
    · rename_i hx
      exact ⟨x, l ++ 46 :: Lib.decDigits m, rfl, hx⟩
    · cases hr
theorem parse_text (n m : Nat) (h : isR n m = true) : parse (textOf n m) = ((n : Int), (m : Int), 0) := by
  have hR := h
  simp only [isR, Bool.and_eq_true, decide_eq_true_eq] at hR
  obtain ⟨x, l, hx, hd⟩ := textOf_head n m
  unfold parse
  rw [if_neg (by rw [hx]; rintro e; simp only [List.cons.injEq] at e; rw [e.1] at hd; exact absurd hd (by decide)), if_neg (by rw [hx]; rintro e; simp only [List.cons.injEq] at e; rw [e.1] at hd; exact absurd hd (by decide))]
  unfold textOf
  rw [dec_isD _ _ 0 n (dec_res n)]
  simp only
  rw [whole_dec n (by omega), whole_dec m (by omega)]
  simp only [fin]
  rw [if_pos h]
theorem sp_join : ∀ (l a b : List UInt8), sp l = some (a, b) → l = a ++ 46 :: b
  | [], a, b, h => by simp [sp] at h
  | x :: l, a, b, h => by
    simp only [sp] at h
    split at h
    · rename_i hx
      simp only [Option.some.injEq, Prod.mk.injEq] at h
      obtain ⟨rfl, rfl⟩ := h
      rw [hx]; rfl
    · obtain ⟨⟨c, d⟩, hc, e⟩ := Option.map_eq_some_iff.mp h
      simp only [Prod.mk.injEq] at e
      obtain ⟨rfl, rfl⟩ := e
      rw [sp_join l c d hc]; rfl
theorem whole_canon (l : List UInt8) (v : Nat) (h : whole 14 l = some v) : Lib.decDigits v = l := by
  unfold whole at h
  split at h
  · cases h
  · rename_i hn
    refine dec_of_res l.length l v rfl ⟨fun e => hn (.inl (by rw [e]; rfl)), ?_⟩ h
    by_cases h1 : l.length = 1
    · exact .inl h1
    · exact .inr fun e => hn (.inr (.inr ⟨e, by
        rcases l with _ | ⟨x, l⟩
        · exact absurd (.inl rfl) hn
        · simp at h1 ⊢; rcases l with _ | ⟨y, l⟩
          · exact absurd rfl h1
          · simp⟩))
theorem text_parse (l : List UInt8) (a b : Int) (h : parse l = (a, b, 0)) : text a b = (l, 0) := by
  unfold parse at h
  split at h
  · rename_i e
    simp only [Prod.mk.injEq] at h
    obtain ⟨rfl, rfl, _⟩ := h
    rw [e]; rfl
  · split at h
    · rename_i e
      simp only [Prod.mk.injEq] at h
      obtain ⟨rfl, rfl, _⟩ := h
      rw [e]; rfl
    · split at h
      · rename_i x y hs
        rcases hx : whole 14 x with _ | n
        · rw [hx] at h; simp [fin] at h
        · rcases hy : whole 14 y with _ | m
          · rw [hx, hy] at h; simp [fin] at h
          · rw [hx, hy] at h
            simp only [fin] at h
            split at h
            · rename_i hR
              simp only [Prod.mk.injEq] at h
              obtain ⟨rfl, rfl, _⟩ := h
              unfold text
              rw [if_pos hR]
              simp only [Int.toNat_natCast, textOf, Prod.mk.injEq, and_true]
              rw [whole_canon x n hx, whole_canon y m hy, ← sp_join l x y hs]
            · simp at h
      · simp at h
theorem parse_of_text (a b : Int) (h : (text a b).2 = 0) : parse (text a b).1 = (a, b, 0) := by
  unfold text at h ⊢
  by_cases h1 : isR a b = true
  · have hR := h1
    simp only [isR, Bool.and_eq_true, decide_eq_true_eq] at hR
    rw [if_pos h1]
    obtain ⟨n, rfl⟩ : ∃ n : Nat, a = n := ⟨a.toNat, by omega⟩
    obtain ⟨m, rfl⟩ : ∃ n : Nat, b = n := ⟨b.toNat, by omega⟩
    simp only [Int.toNat_natCast]
    exact parse_text n m h1
  · rw [if_neg h1] at h ⊢
    by_cases h2 : a = 0 ∧ b = 0
    · obtain ⟨rfl, rfl⟩ := h2; rfl
    · rw [if_neg h2] at h ⊢
      by_cases h3 : a = 0 ∧ b = 1
      · obtain ⟨rfl, rfl⟩ := h3; rfl
      · rw [if_neg h3] at h; cases h
theorem text_size (a b : Int) : (text a b).1.length ≤ 40 := by
  unfold text
  split
  · rename_i hR
    simp only [isR, Bool.and_eq_true, decide_eq_true_eq] at hR
    have l1 := dec_length 19 a.toNat (by omega) (by omega)
    have l2 := dec_length 19 b.toNat (by omega) (by omega)
    simp only [textOf, List.length_append, List.length_cons]; omega
  · split
    · decide
    · split <;> decide

/-! the document's answer -/
theorem refright_f (a b : Int) : topiaryref01_Right.f a b = some (isR a b) := by
  unfold topiaryref01_Right.f isR
  by_cases h1 : 1 ≤ a <;> by_cases h2 : a ≤ 1099511627776 <;> by_cases h3 : 0 ≤ b <;> simp [h1, h2, h3]
/-- All digits but the last. -/
def upper (n : Nat) : List UInt8 := if n < 10 then [] else Lib.decDigits (n / 10)
theorem upper_big {n : Nat} (h : ¬ n < 10) : upper n = upper (n / 10) ++ [UInt8.ofNat (48 + n / 10 % 10)] := by
  unfold upper
  rw [if_neg h]
  by_cases h2 : n / 10 < 10
  · rw [if_pos h2, dec_small h2, Nat.mod_eq_of_lt h2]; rfl
  · rw [if_neg h2, dec_big h2]
theorem upper_dec (n : Nat) : upper n ++ [UInt8.ofNat (48 + n % 10)] = Lib.decDigits n := by
  unfold upper
  by_cases h : n < 10
  · rw [if_pos h, dec_small h, Nat.mod_eq_of_lt h]; rfl
  · rw [if_neg h, dec_big h]
theorem digit (n : Nat) (h : n < 9223372036854775808) : (wrap64 (48 + (Int.tmod (n : Int) 10))) % 256 = ((48 + n % 10 : Nat) : Int) := by
  rw [show Int.tmod (n : Int) 10 = ((n % 10 : Nat) : Int) from by rw [Int.tmod_eq_emod_of_nonneg (by omega)]; omega, IntWalk.wrap64_in _ ⟨by omega, by omega⟩]
  omega
theorem tenth (n : Nat) (h : n < 9223372036854775808) : wrap64 (Int.tdiv (n : Int) 10) = ((n / 10 : Nat) : Int) := by
  rw [show Int.tdiv (n : Int) 10 = ((n / 10 : Nat) : Int) from by rw [Int.tdiv_eq_ediv_of_nonneg (by omega)]; omega, IntWalk.wrap64_in _ ⟨by omega, by omega⟩]
theorem one (z : Nat) : strOfNums ([((z : Nat) : Int)] : List Int) = ⟨[UInt8.ofNat z].toArray⟩ := by
  simp [strOfNums]
theorem digits_l0 : ∀ (j n k : Nat) (s : List UInt8), n < 10 ^ j → j ≤ 15 → s.length + j ≤ 100 → j < k → topiaryref01_Digits.l0 k (n : Int) ⟨s.toArray⟩ = some ⟨(upper n ++ s).toArray⟩
  | j, n, 0, s, hn, hj, hs, hk => by omega
  | 0, n, k + 1, s, hn, hj, hs, hk => by
    simp only [topiaryref01_Digits.l0]
    rw [if_neg (by omega), show upper n = [] from by unfold upper; rw [if_pos (by omega)]]
    rfl
  | j + 1, n, k + 1, s, hn, hj, hs, hk => by
    simp only [topiaryref01_Digits.l0]
    have hp : 10 ^ (j + 1) ≤ 10 ^ 15 := Nat.pow_le_pow_right (by omega) (by omega)
    by_cases h : n < 10
    · rw [if_neg (by omega), show upper n = [] from by unfold upper; rw [if_pos h]]
      rfl
    · rw [if_pos (by omega), tenth n (by omega), digit (n / 10) (by omega)]
      simp only [Option.bind_some]
      rw [one, if_pos (by simp only [ByteArray.size, List.size_toArray, List.length_singleton]; omega)]
      rw [show (⟨[UInt8.ofNat (48 + n / 10 % 10)].toArray⟩ : ByteArray) ++ ⟨s.toArray⟩ = ⟨(UInt8.ofNat (48 + n / 10 % 10) :: s).toArray⟩ from by apply ByteArray.ext; simp [ByteArray.data_append]]
      rw [digits_l0 j (n / 10) k _ (by rw [Nat.pow_succ] at hn; omega) (by omega) (by simp; omega) (by omega), upper_big h]
      simp
theorem digits_f (k n : Nat) (h : n < 10 ^ 15) : topiaryref01_Digits.f (k + 20) (n : Int) = some ⟨(Lib.decDigits n).toArray⟩ := by
  unfold topiaryref01_Digits.f
  rw [digit n (by omega), one, digits_l0 15 n (k + 20) _ h (by omega) (by simp) (by omega), upper_dec]
theorem refnode_f (a b : Int) : topiaryref01_Node.f a b = some (isR a b || decide (a = 0 ∧ (b = 0 ∨ b = 1))) := by
  unfold topiaryref01_Node.f
  rw [refright_f]
  simp only [Option.bind_some]
  by_cases h : isR a b = true
  · simp [h]
  · have h' : isR a b = false := by simpa using h
    by_cases h1 : a = 0 <;> by_cases h2 : b = 0 <;> simp [h', h1, h2]
    all_goals simp_all
    all_goals by_cases h3 : b = 1 <;> simp [h3]
theorem reftext_f (k : Nat) (a b : Int) : topiaryref01_Text.f (k + 20) a b = some (⟨(text a b).1.toArray⟩, (text a b).2) := by
  unfold topiaryref01_Text.f text
  rw [refnode_f]
  simp only [Option.bind_some]
  by_cases h : isR a b = true
  · have hR := h
    simp only [isR, Bool.and_eq_true, decide_eq_true_eq] at hR
    rw [h, Bool.true_or, if_pos rfl, if_pos (by omega), if_pos rfl]
    obtain ⟨n, rfl⟩ : ∃ n : Nat, a = n := ⟨a.toNat, by omega⟩
    obtain ⟨m, rfl⟩ : ∃ n : Nat, b = n := ⟨b.toNat, by omega⟩
    rw [digits_f k n (by omega), digits_f k m (by omega)]
    have l1 := dec_length 19 n (by omega) (by omega)
    have l2 := dec_length 19 m (by omega) (by omega)
    have s1 : (⟨(Lib.decDigits n).toArray⟩ : ByteArray).size ≤ 19 := by simpa [ByteArray.size] using l1
    have s2 : (⟨(Lib.decDigits m).toArray⟩ : ByteArray).size ≤ 19 := by simpa [ByteArray.size] using l2
    simp only [Option.bind_some]
    rw [if_pos (by omega), if_pos (by rw [ByteArray.size_append]; have : (⟨#[46]⟩ : ByteArray).size = 1 := rfl; omega), join]
    simp only [textOf, Int.toNat_natCast]
  · have h' : isR a b = false := by simpa using h
    rw [h', Bool.false_or]
    by_cases h1 : a = 0 ∧ (b = 0 ∨ b = 1)
    · obtain ⟨rfl, h2⟩ := h1
      rcases h2 with rfl | rfl
      · rfl
      · rfl
    · rw [if_neg (by simpa using h1), if_neg (by simp), if_neg (by omega), if_neg (by omega)]
def out13 (o : Option Nat) : Int × Bool := match o with | some v => ((v : Int), decide ((v : Int) ≤ 1099511627776)) | none => (0, false)
theorem whole13_l0 (a : ByteArray) (ha : a.size ≤ 13) : ∀ (m i n k : Nat), i + m = a.size → n < 10 ^ i → m < k → topiaryref01_Whole.l0 k a (n : Int) (i : Int) = some (out13 (res n (a.data.toList.drop i)))
  | 0, i, n, k, hi, hn, hk => by
    obtain ⟨k, rfl⟩ : ∃ q, k = q + 1 := ⟨k - 1, by omega⟩
    simp only [topiaryref01_Whole.l0]
    rw [if_neg (by omega), List.drop_eq_nil_of_le (by rw [← size_len]; omega)]
    rfl
  | m + 1, i, n, k, hi, hn, hk => by
    obtain ⟨k, rfl⟩ : ∃ q, k = q + 1 := ⟨k - 1, by omega⟩
    have hil : i < a.data.toList.length := by rw [← size_len]; omega
    have hp : 10 ^ i ≤ 10 ^ 13 := Nat.pow_le_pow_right (by omega) (by omega)
    simp only [topiaryref01_Whole.l0]
    rw [if_pos (by omega), if_pos (by omega), bt_list a i hil, List.drop_eq_getElem_cons hil]
    generalize a.data.toList[i] = x
    by_cases hx : isD x = true
    · obtain ⟨h1, h2⟩ := bt_isD.mpr hx
      rw [if_neg h1, if_neg h2]
      have hb := (of_isD hx).2
      have e1 : wrap64 (wrap64 (10 * (n : Int)) + (((x.toNat : Int) - 48) % 256)) = ((10 * n + (x.toNat - 48) : Nat) : Int) := by
        rw [IntWalk.wrap64_in (10 * (n : Int)) ⟨by omega, by omega⟩, show ((x.toNat : Int) - 48) % 256 = (x.toNat : Int) - 48 from by omega, IntWalk.wrap64_in _ ⟨by omega, by omega⟩]
        omega
      have e2 : wrap64 ((i : Int) + 1) = ((i + 1 : Nat) : Int) := by rw [IntWalk.wrap64_in _ ⟨by omega, by omega⟩]; omega
      rw [e1, e2, whole13_l0 a ha m (i + 1) _ k (by omega) (by rw [Nat.pow_succ]; omega) (by omega)]
      simp only [res, hx, if_true]
    · simp only [res, hx, Bool.false_eq_true, if_false, out13]
      by_cases h1 : (x.toNat : Int) < 48
      · rw [if_pos h1]
      · rw [if_neg h1]
        by_cases h2 : (x.toNat : Int) > 57
        · rw [if_pos h2]
        · exact absurd (bt_isD.mp ⟨h1, h2⟩) hx
theorem refwhole_f (k : Nat) (a : ByteArray) : topiaryref01_Whole.f (k + 20) a = some (out13 (whole 13 a.data.toList)) := by
  unfold topiaryref01_Whole.f whole
  rw [← size_len]
  by_cases h0 : a.size = 0
  · rw [if_pos (by omega), if_pos (.inl h0)]; simp [topiaryref01_Whole.j0, out13]
  · rw [if_neg (by omega)]
    by_cases h1 : a.size > 13
    · rw [if_pos (by omega), if_pos (.inr (.inl h1))]; simp [topiaryref01_Whole.j0, out13]
    · rw [if_neg (by omega), if_pos (by omega)]
      have hrun : topiaryref01_Whole.j0 (k + 20) a false = some (out13 (res 0 a.data.toList)) := by
        simp only [topiaryref01_Whole.j0, Bool.false_eq_true, if_false]
        have := whole13_l0 a (by omega) a.size 0 0 (k + 19) (by omega) (by omega) (by omega)
        simpa using this
      by_cases h2 : bt a 0 = 48
      · rw [if_pos h2]
        have h3 := (bt_head a h0).mp h2
        by_cases h4 : a.size > 1
        · rw [if_pos (.inr (.inr ⟨h3, h4⟩)), decide_eq_true (show (a.size : Int) > 1 from by omega)]
          simp [topiaryref01_Whole.j0, out13]
        · rw [decide_eq_false (show ¬ (a.size : Int) > 1 from by omega), hrun, if_neg (by rintro (h | h | h) <;> omega)]
      · rw [if_neg h2, hrun, if_neg (by
          rintro (h | h | h)
          · omega
          · omega
          · exact h2 ((bt_head a h0).mpr h.1))]
theorem extract_list (a : ByteArray) (i j : Nat) : (a.extract i j).data.toList = (a.data.toList.take j).drop i := by
  rw [ByteArray.data_extract, Array.toList_extract, List.extract_eq_take_drop, List.drop_take]
def parse13 : List UInt8 → List UInt8 → Int × Int × Int
  | _, [] => (0, 0, 2)
  | p, x :: l => if x = 46 then fin (whole 13 p) (whole 13 l) else parse13 (p ++ [x]) l
theorem parse13_sp : ∀ (l p : List UInt8), parse13 p l = match sp l with | some (x, y) => fin (whole 13 (p ++ x)) (whole 13 y) | none => (0, 0, 2)
  | [], p => rfl
  | x :: l, p => by
    simp only [parse13, sp]
    split
    · simp
    · rw [parse13_sp l]
      rcases sp l with _ | ⟨c, d⟩
      · rfl
      · simp
theorem step13 (k : Nat) (x y : List UInt8) (z : Int × Bool) (u : Int × Bool) (hz : z = out13 (whole 13 x)) (hu : u = out13 (whole 13 y)) :
    (if z.2 = true then (if u.2 = true then ((topiaryref01_Right.f z.1 u.1).bind fun t => (if t = true then (some (z.1, u.1, 0)) else (some (0, 0, 2)))) else (some (0, 0, 2))) else (some ((0 : Int), (0 : Int), (2 : Int)))) = some (fin (whole 13 x) (whole 13 y)) := by
  subst hz hu
  rcases whole 13 x with _ | n
  · simp [out13, fin]
  · rcases whole 13 y with _ | m
    · simp [out13, fin]
    · simp only [out13, refright_f, Option.bind_some, fin, decide_eq_true_eq]
      by_cases hR : isR n m = true
      · have h := hR
        simp only [isR, Bool.and_eq_true, decide_eq_true_eq] at h
        rw [if_pos (by omega), if_pos (by omega), if_pos hR, if_pos hR]
      · rw [if_neg hR, if_neg hR]
        split
        · split <;> rfl
        · rfl
theorem parse_l0 (a : ByteArray) (ha : a.size ≤ 1048576) : ∀ (m i k : Nat), i + m = a.size → m + 25 < k → topiaryref01_Parse.l0 k a (i : Int) = some (parse13 (a.data.toList.take i) (a.data.toList.drop i))
  | 0, i, k, hi, hk => by
    obtain ⟨k, rfl⟩ : ∃ q, k = q + 1 := ⟨k - 1, by omega⟩
    simp only [topiaryref01_Parse.l0]
    rw [if_neg (by omega), List.drop_eq_nil_of_le (by rw [← size_len]; omega)]
    rfl
  | m + 1, i, k, hi, hk => by
    obtain ⟨k, rfl⟩ : ∃ q, k = q + 1 := ⟨k - 1, by omega⟩
    have hil : i < a.data.toList.length := by rw [← size_len]; omega
    have e2 : wrap64 ((i : Int) + 1) = ((i + 1 : Nat) : Int) := by rw [IntWalk.wrap64_in _ ⟨by omega, by omega⟩]; omega
    have hsz : a.data.toList.length = a.size := (size_len a).symm
    simp only [topiaryref01_Parse.l0]
    rw [if_pos (by omega), if_pos (by omega), bt_list a i hil, List.drop_eq_getElem_cons hil, e2]
    simp only [parse13]
    by_cases hx : a.data.toList[i] = 46
    · rw [if_pos (by rw [hx]; rfl), if_pos hx, if_pos (by omega)]
      obtain ⟨k, rfl⟩ : ∃ q, k = q + 20 := ⟨k - 20, by omega⟩
      rw [refwhole_f, refwhole_f]
      simp only [Option.bind_some]
      rw [if_pos (by omega), if_pos (by omega)]
      refine step13 k _ _ _ _ ?_ ?_
      · rw [extract_list]; simp
      · rw [extract_list, ← hsz, List.take_length, Int.toNat_natCast]
    · rw [if_neg (by intro e; exact hx (UInt8.toNat_inj.mp (show (a.data.toList[i]).toNat = 46 from by omega))), if_neg hx, parse_l0 a ha m (i + 1) k (by omega) (by omega)]
      rw [List.take_succ_eq_append_getElem hil]
theorem refparse_f (k : Nat) (a : ByteArray) (ha : a.size ≤ 1048576) (hk : a.size + 25 < k) : topiaryref01_Parse.f k a = some (parse a.data.toList) := by
  unfold topiaryref01_Parse.f parse
  rw [ByteArray.toList_eq]
  by_cases h1 : a.data.toList = [114, 111, 111, 116]
  · rw [if_pos h1, if_pos h1]
  · rw [if_neg h1, if_neg h1]
    by_cases h2 : a.data.toList = [116, 114, 97, 115, 104]
    · rw [if_pos h2, if_pos h2]
    · rw [if_neg h2, if_neg h2]
      have h := parse_l0 a ha a.size 0 k (by omega) hk
      simp only [List.take_zero, List.drop_zero] at h
      rw [show ((0 : Nat) : Int) = 0 from rfl] at h
      rw [h, parse13_sp]
      rcases sp a.data.toList with _ | ⟨x, y⟩
      · rfl
      · simp only [List.nil_append, fin_same]
theorem law (a b : Int) (t : ByteArray) (ht : t.size ≤ 1048576) : topiarylaw01_IdentTexts.f (t.size + 60) a b t = some true := by
  unfold topiarylaw01_IdentTexts.f
  rw [text_f, show t.size + 60 = (t.size + 40) + 20 from rfl, reftext_f, parse_f _ t ht, refparse_f _ t ht (by omega)]
  simp only [Option.bind_some, if_true, beq_self_eq_true, Bool.and_self]
  rw [show t.size + 40 + 20 = (t.size + 59) + 1 from rfl, awake_f]
  rfl
end Go.Proofs.YtlmkgccaiihgjaaDoor.PureIdentTexts
