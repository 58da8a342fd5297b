/- any text quoted, and any quoted text's: the program and the reference tell the same, for all texts of at most 1048576 bytes. -/
import Derived.Test.YtgoolgmcbnikkaaDoorQChangeQuotesx
namespace Go.Proofs.YtgoolgmcbnikkaaDoor.PureChangeQuotes
open Go.RowKit Go.Proofs.YtgoolgmcbnikkaaDoor.QChangeQuotes Go.Proofs.YtgoolgmcbnikkaaDoorW.PrintWords Go.Proofs.YtgoolgmcbnikkaaDoorW.PrintLast
set_option linter.unusedVariables false
set_option linter.unusedSimpArgs false
theorem wrap_in {n : Int} (h0 : -9223372036854775808 ≤ n) (h1 : n ≤ 9223372036854775807) : wrap64 n = n := by unfold wrap64; omega
theorem step_nat (i : Nat) : (i : Int) + 1 = ((i + 1 : Nat) : Int) := by omega
theorem rd_get (xs : List Int) (i : Nat) (h : i < xs.length) : rd xs (i : Int) = xs[i] := by simp [rd, List.getD_eq_getElem?_getD, h]
theorem mx_max (a b : Int) : mx a b = max a b := by unfold mx; omega


/-! two changes that are the same, and that the program answers at all -/
theorem awake : Ev (fun k => topiarylaw05_awake.f k) true := Ev.of topiarylaw05_awake.mono (k := 40) (by decide +kernel)

/-! quoting, on lists of bytes -/
theorem qsize_len (a : ByteArray) : a.size = a.data.toList.length := rfl
theorem qbt (a : ByteArray) (i : Nat) (h : i < a.data.toList.length) : bt a (i : Int) = ((a.data.toList[i]).toNat : Int) := by
  have h' : ((i : Int)).toNat < a.size := by rw [Int.toNat_natCast]; exact h
  rw [← bt_at a (i : Int) h']
  rfl
def pl (x : UInt8) : Bool := decide (32 ≤ x.toNat) && (decide (x.toNat ≤ 126) && (decide (x.toNat ≠ 34) && decide (x.toNat ≠ 92)))
theorem ofn {n : Nat} (h : n < 256) : (UInt8.ofNat n).toNat = n := by
  simp [UInt8.toNat_ofNat']
  omega
theorem plain_f (n : Nat) (h : n < 256) : change_plain.f (n : Int) = some (pl (UInt8.ofNat n)) := by
  have hn : (UInt8.ofNat n).toNat = n := ofn h
  unfold change_plain.f pl
  rw [hn]
  by_cases h1 : 32 ≤ n
  · rw [if_pos (by omega)]
    by_cases h2 : n ≤ 126
    · rw [if_pos (by omega)]
      by_cases h3 : n = 34
      · subst h3; rfl
      · rw [if_neg (by omega)]
        by_cases h4 : n = 92
        · subst h4; rfl
        · have h5 : ((n : Int) != 92) = true := by rw [bne_iff_ne]; omega
          rw [h5]; simp [h1, h2, h3, h4]
    · rw [if_neg (by omega)]; simp [h2]
  · rw [if_neg (by omega)]; simp [h1]
theorem plain_u (x : UInt8) : change_plain.f (x.toNat : Int) = some (pl x) := by
  rw [plain_f _ x.toNat_lt]
  simp
def nums (l : List UInt8) : List Int := l.map fun b => (b.toNat : Int)
theorem nums_app (l m : List UInt8) : nums (l ++ m) = nums l ++ nums m := by simp [nums]
theorem nums_len (l : List UInt8) : (nums l).length = l.length := by simp [nums]
theorem str_nums (l : List UInt8) : strOfNums (nums l) = ⟨l.toArray⟩ := by
  unfold strOfNums nums
  rw [List.map_map, show ((fun n : Int => UInt8.ofNat n.toNat) ∘ fun b : UInt8 => (b.toNat : Int)) = id from funext fun b => by simp, List.map_id]
def hx (n : Nat) : UInt8 := if n < 10 then UInt8.ofNat (48 + n) else UInt8.ofNat (87 + n)
def quo1 (x : UInt8) : List UInt8 := if pl x then [x] else [92, hx (x.toNat / 16), hx (x.toNat % 16)]
def quoB (l : List UInt8) : List UInt8 := l.flatMap quo1
def quo (l : List UInt8) : List UInt8 := 34 :: (quoB l ++ [34])
theorem quo1_len (x : UInt8) : (quo1 x).length ≤ 3 := by unfold quo1; split <;> simp
theorem quoB_len : ∀ l : List UInt8, (quoB l).length ≤ 3 * l.length
  | [] => by simp [quoB]
  | x :: l => by
    have h1 := quo1_len x
    have h2 := quoB_len l
    simp only [quoB, List.flatMap_cons, List.length_append, List.length_cons] at *
    omega
theorem quoB_take (l : List UInt8) (i : Nat) (h : i < l.length) : quoB (l.take (i + 1)) = quoB (l.take i) ++ quo1 l[i] := by
  unfold quoB
  rw [List.take_succ_eq_append_getElem h, List.flatMap_append]
  simp only [List.flatMap_cons, List.flatMap_nil, List.append_nil]
theorem dig_tab (n : Nat) (h : n < 16) : bt (⟨#[48, 49, 50, 51, 52, 53, 54, 55, 56, 57, 97, 98, 99, 100, 101, 102]⟩ : ByteArray) (n : Int) = ((hx n).toNat : Int) := by
  have : ∀ m : Fin 16, bt (⟨#[48, 49, 50, 51, 52, 53, 54, 55, 56, 57, 97, 98, 99, 100, 101, 102]⟩ : ByteArray) (m.val : Int) = ((hx m.val).toNat : Int) := by decide +kernel
  exact this ⟨n, h⟩
theorem and15 (n : Nat) (h : n < 256) : Go.bits .and .u8 (n : Int) 15 = ((n % 16 : Nat) : Int) := by
  have : ∀ m : Fin 256, Go.bits .and .u8 (m.val : Int) 15 = ((m.val % 16 : Nat) : Int) := by decide +kernel
  exact this ⟨n, h⟩
theorem quote_l0 (s : ByteArray) (hs : s.size ≤ 1048576) : ∀ (d i k : Nat), i + d = s.size → d < k → change_Quote.l0 k s (nums (34 :: quoB (s.data.toList.take i))) (s.size : Int) (i : Int) = some ⟨(quo s.data.toList).toArray⟩
  | d, i, 0, hi, hk => by omega
  | 0, i, k + 1, hi, hk => by
    have hb := quoB_len s.data.toList
    rw [← qsize_len] at hb
    simp only [change_Quote.l0]
    rw [if_neg (by omega), List.take_of_length_le (by rw [← qsize_len]; omega), if_pos (by rw [nums_len]; simp only [List.length_cons]; omega)]
    rw [show (nums (34 :: quoB s.data.toList) ++ [34] : List Int) = nums (quo s.data.toList) from by simp [nums, quo], str_nums]
  | d + 1, i, k + 1, hi, hk => by
    have hl : i < s.data.toList.length := by rw [← qsize_len]; omega
    have hb := quoB_len (s.data.toList.take i)
    have hb2 : (s.data.toList.take i).length ≤ i := by simp; omega
    have hx' := (s.data.toList[i]).toNat_lt
    simp only [change_Quote.l0]
    rw [if_pos (by omega), if_pos (by omega), if_pos (by omega), qbt s i hl, plain_u]
    simp only [Option.bind_some]
    have hw : wrap64 ((i : Int) + 1) = ((i + 1 : Nat) : Int) := by unfold wrap64; omega
    have ih := quote_l0 s hs d (i + 1) k (by omega) (by omega)
    rw [quoB_take _ _ hl] at ih
    rw [hw]
    by_cases hp : pl s.data.toList[i] = true
    · rw [if_pos hp, if_pos (by rw [nums_len]; simp only [List.length_cons]; omega)]
      rw [show quo1 s.data.toList[i] = [s.data.toList[i]] from by unfold quo1; rw [if_pos hp]] at ih
      rw [← ih, ← List.cons_append, nums_app]
      rfl
    · rw [if_neg hp]
      have h16 : (((s.data.toList[i]).toNat : Int) / 16) = (((s.data.toList[i]).toNat / 16 : Nat) : Int) := by omega
      rw [h16, and15 _ hx', if_pos (by omega), if_pos (by omega), if_pos (by omega), if_pos (by omega), dig_tab _ (by omega), dig_tab _ (by omega)]
      simp only [Option.bind_some, List.length_cons, List.length_nil]
      rw [if_pos (by rw [nums_len]; simp only [List.length_cons]; omega)]
      rw [show quo1 s.data.toList[i] = [92, hx ((s.data.toList[i]).toNat / 16), hx ((s.data.toList[i]).toNat % 16)] from by unfold quo1; rw [if_neg hp]] at ih
      rw [← ih, ← List.cons_append, nums_app]
      rfl
theorem quote_f (s : ByteArray) (hs : s.size ≤ 1048576) : Ev (fun k => change_Quote.f k s) ⟨(quo s.data.toList).toArray⟩ :=
  ⟨s.size + 1, fun k hk => quote_l0 s hs s.size 0 k (by omega) (by omega)⟩
/-! and back -/
def hv (x : UInt8) : Option Nat := if 48 ≤ x.toNat ∧ x.toNat ≤ 57 then some (x.toNat - 48) else if 97 ≤ x.toNat ∧ x.toNat ≤ 102 then some (x.toNat - 87) else none
theorem hv_lt {x : UInt8} {u : Nat} (h : hv x = some u) : u < 16 := by
  unfold hv at h
  split at h
  · simp at h; omega
  · split at h
    · simp at h; omega
    · cases h
def esc (a b : UInt8) : Option UInt8 := match hv a, hv b with | some u, some v => if pl (UInt8.ofNat (16 * u + v)) then none else some (UInt8.ofNat (16 * u + v)) | _, _ => none
def unq : List UInt8 → Option (List UInt8)
  | [] => some []
  | [x] => if pl x then some [x] else none
  | [x, y] => if pl x then (unq [y]).map (x :: ·) else none
  | x :: a :: b :: r => if pl x then (unq (a :: b :: r)).map (x :: ·) else if x = 92 then (esc a b).bind fun z => (unq r).map (z :: ·) else none
theorem unq_plain {x : UInt8} (h : pl x = true) (r : List UInt8) : unq (x :: r) = (unq r).map (x :: ·) := by
  rcases r with _ | ⟨a, _ | ⟨b, r⟩⟩
  · simp [unq, h]
  · simp [unq, h]
  · rw [unq, if_pos h]
theorem unq_esc (a b : UInt8) (r : List UInt8) : unq (92 :: a :: b :: r) = (esc a b).bind fun z => (unq r).map (z :: ·) := by
  rw [unq, if_neg (by decide), if_pos rfl]
theorem unq_bad {x : UInt8} (h : pl x = false) (hx : x ≠ 92) (r : List UInt8) : unq (x :: r) = none := by
  rcases r with _ | ⟨a, _ | ⟨b, r⟩⟩
  · rw [unq, if_neg (by simp [h])]
  · rw [unq, if_neg (by simp [h])]
  · rw [unq, if_neg (by simp [h]), if_neg hx]
theorem unq_short {r : List UInt8} (h : r.length < 2) : unq (92 :: r) = none := by
  rcases r with _ | ⟨a, _ | ⟨b, r⟩⟩
  · rfl
  · rfl
  · simp at h; omega
theorem ix_tab (x : UInt8) : Lib.indexByte [48, 49, 50, 51, 52, 53, 54, 55, 56, 57, 97, 98, 99, 100, 101, 102] x = match hv x with | some u => (u : Int) | none => -1 := by
  have : ∀ m : Fin 256, Lib.indexByte [48, 49, 50, 51, 52, 53, 54, 55, 56, 57, 97, 98, 99, 100, 101, 102] (UInt8.ofNat m.val) = match hv (UInt8.ofNat m.val) with | some u => (u : Int) | none => -1 := by decide +kernel
  have h := this ⟨x.toNat, x.toNat_lt⟩
  simpa using h
theorem or16 (u v : Nat) (hu : u < 16) (hv : v < 16) : (Go.bits .or .i64 (wrap64 ((u : Int) * 16)) (v : Int)) % 256 = ((16 * u + v : Nat) : Int) := by
  have : ∀ a : Fin 16, ∀ b : Fin 16, (Go.bits .or .i64 (wrap64 ((a.val : Int) * 16)) (b.val : Int)) % 256 = ((16 * a.val + b.val : Nat) : Int) := by decide +kernel
  exact this ⟨u, hu⟩ ⟨v, hv⟩
theorem hv_hx : ∀ x : UInt8, hv (hx (x.toNat / 16)) = some (x.toNat / 16) ∧ hv (hx (x.toNat % 16)) = some (x.toNat % 16) := by
  have : ∀ m : Fin 16, hv (hx m.val) = some m.val := by decide +kernel
  intro x
  have := x.toNat_lt
  exact ⟨this' ⟨x.toNat / 16, by omega⟩, this' ⟨x.toNat % 16, by omega⟩⟩
where this' : ∀ m : Fin 16, hv (hx m.val) = some m.val := by decide +kernel
theorem unq_quo : ∀ l : List UInt8, unq (quoB l) = some l
  | [] => rfl
  | x :: l => by
    have ih := unq_quo l
    have e : quoB (x :: l) = quo1 x ++ quoB l := by simp [quoB]
    rw [e]
    unfold quo1
    by_cases hp : pl x = true
    · rw [if_pos hp, List.cons_append, List.nil_append]
      rw [unq_plain hp, ih]; rfl
    · rw [if_neg hp]
      obtain ⟨h1, h2⟩ := hv_hx x
      have hx' : UInt8.ofNat (16 * (x.toNat / 16) + x.toNat % 16) = x := by
        rw [show 16 * (x.toNat / 16) + x.toNat % 16 = x.toNat from by omega]; simp
      have he : esc (hx (x.toNat / 16)) (hx (x.toNat % 16)) = some x := by
        unfold esc
        rw [h1, h2]
        simp only [hx', hp, Bool.false_eq_true, if_false]
      rw [List.cons_append, List.cons_append, List.cons_append, List.nil_append, unq_esc, he, ih]
      rfl
def unqOut (p : List UInt8) : Option (List UInt8) → ByteArray × Bool
  | some q => (⟨(p ++ q).toArray⟩, true)
  | none => (⟨#[]⟩, false)
theorem unq_l0 (n : ByteArray) (hs : n.size ≤ 4194304) : ∀ (d i k : Nat) (p : List UInt8), i + d = n.size → 2 * d < k → p.length ≤ i → change_Unquote.l0 k (nums p) n (i : Int) = some (unqOut p (unq (n.data.toList.drop i))) := by
  intro d
  induction d using Nat.strongRecOn with
  | _ d ih =>
    intro i k p hi hk hp
    obtain ⟨k, rfl⟩ : ∃ m, k = m + 1 := ⟨k - 1, by omega⟩
    simp only [change_Unquote.l0]
    by_cases hd : d = 0
    · subst hd
      rw [if_neg (by omega), List.drop_eq_nil_of_le (by rw [← qsize_len]; omega), str_nums]
      simp [unq, unqOut]
    have hl : i < n.data.toList.length := by rw [← qsize_len]; omega
    have hx' := (n.data.toList[i]).toNat_lt
    rw [if_pos (by omega), if_pos (by omega), qbt n i hl, plain_u]
    simp only [Option.bind_some]
    have hw : wrap64 ((i : Int) + 1) = ((i + 1 : Nat) : Int) := by unfold wrap64; omega
    have hw2 : wrap64 ((i : Int) + 2) = ((i + 2 : Nat) : Int) := by unfold wrap64; omega
    rw [hw, hw2, List.drop_eq_getElem_cons hl]
    generalize hg : n.data.toList[i] = x at *
    by_cases hpl : pl x = true
    · rw [if_pos hpl, if_pos (by rw [nums_len]; omega)]
      rw [show nums p ++ [(x.toNat : Int)] = nums (p ++ [x]) from by simp [nums], ih (d - 1) (by omega) (i + 1) k (p ++ [x]) (by omega) (by omega) (by simp; omega)]
      rw [unq_plain hpl]
      cases unq (List.drop (i + 1) n.data.toList) <;> simp [unqOut]
    · rw [if_neg hpl]
      obtain ⟨k, rfl⟩ : ∃ m, k = m + 1 := ⟨k - 1, by omega⟩
      have hpf : pl x = false := by simpa using hpl
      clear hx'
      by_cases h92 : x = 92
      · have hc : (x.toNat : Int) = 92 := by rw [h92]; rfl
        rw [if_pos hc]
        clear hg hc
        subst h92
        simp only [change_Unquote.j2]
        by_cases h2 : i + 2 < n.data.toList.length
        · have hi1 : i + 1 < n.data.toList.length := by omega
          have hz : n.size = n.data.toList.length := rfl
          have e1 : d - 3 < d := by omega
          have e2 : i + 3 + (d - 3) = n.size := by omega
          have e3 : 2 * (d - 3) < k := by omega
          have e4 : p.length + 1 ≤ i + 3 := by omega
          have e5 : p.length < 140737488355328 := by omega
          have hw3 : wrap64 (((i + 2 : Nat) : Int) + 1) = ((i + 3 : Nat) : Int) := by unfold wrap64; omega
          rw [if_neg (by simp; omega), hw, hw2, if_pos (by omega), if_pos (by omega), List.drop_eq_getElem_cons hi1, List.drop_eq_getElem_cons h2, qbt n (i + 1) hi1, qbt n (i + 2) h2]
          unfold strings_IndexByte.f
          simp only [Int.toNat_natCast, Option.bind_some, UInt8.ofNat_toNat, Nat.toUInt8_eq, ix_tab, List.toList_toArray]
          rw [if_pos (by omega), if_pos (by omega)]
          generalize hga : n.data.toList[i + 1] = a
          generalize hgb : n.data.toList[i + 2] = b
          rw [unq_esc]
          unfold esc
          cases ha : hv a with
          | none => simp [unqOut]
          | some u =>
            cases hb : hv b with
            | none => simp [unqOut]
            | some v =>
              have hu := hv_lt ha
              have hv' := hv_lt hb
              simp only []
              rw [if_neg (by omega), if_neg (by omega), or16 u v hu hv', plain_f _ (by omega)]
              simp only [Option.bind_some]
              by_cases hq : pl (UInt8.ofNat (16 * u + v)) = true
              · rw [if_pos hq, if_pos hq]; simp [unqOut]
              · rw [if_neg hq, if_neg hq, if_pos (by rw [nums_len]; exact e5)]
                generalize hzz : UInt8.ofNat (16 * u + v) = zz
                have hn : ((16 * u + v : Nat) : Int) = (zz.toNat : Int) := by rw [← hzz, ofn (by omega)]
                rw [hw3, hn, show nums p ++ [(zz.toNat : Int)] = nums (p ++ [zz]) from by simp [nums], ih (d - 3) e1 (i + 3) k _ e2 e3 (by rw [List.length_append]; exact e4)]
                cases unq (List.drop (i + 2 + 1) n.data.toList) <;> simp [unqOut]
        · have hz : n.size = n.data.toList.length := rfl
          rw [if_pos (by simp; omega), unq_short (by simp; omega)]
          rfl
      · rw [if_neg (by intro h; exact h92 (UInt8.toNat_inj.mp (by show x.toNat = 92; omega)))]
        rw [unq_bad hpf h92]
        simp [change_Unquote.j2, unqOut]
/-- the text of a quoted one, on lists -/
def unqV (l : List UInt8) : ByteArray × Bool := if 2 ≤ l.length ∧ l.head? = some 34 ∧ l.getLast? = some 34 then unqOut [] (unq ((l.take (l.length - 1)).drop 1)) else (⟨#[]⟩, false)
theorem unquote_f (s : ByteArray) (hs : s.size ≤ 4194304) : Ev (fun k => change_Unquote.f k s) (unqV s.data.toList) := by
  refine ⟨2 * s.size + 3, fun k hk => ?_⟩
  obtain ⟨k, rfl⟩ : ∃ m, k = m + 1 := ⟨k - 1, by omega⟩
  have hz : s.size = s.data.toList.length := rfl
  show change_Unquote.f (k + 1) s = _
  unfold change_Unquote.f unqV
  by_cases h2 : (s.size : Int) < 2
  · rw [if_pos h2, if_neg (by omega)]
    simp [change_Unquote.j0]
  · have h0 : 0 < s.data.toList.length := by omega
    have hlast : s.data.toList.length - 1 < s.data.toList.length := by omega
    rw [if_neg h2, if_pos (by omega)]
    rw [show bt s 0 = ((s.data.toList[0]).toNat : Int) from by simpa using qbt s 0 h0]
    have hw : wrap64 ((s.size : Int) - 1) = ((s.data.toList.length - 1 : Nat) : Int) := by unfold wrap64; omega
    have hh : s.data.toList.head? = some s.data.toList[0] := List.head?_eq_getElem? ▸ List.getElem?_eq_getElem h0
    have hg : s.data.toList.getLast? = some s.data.toList[s.data.toList.length - 1] := by rw [List.getLast?_eq_getElem?, List.getElem?_eq_getElem hlast]
    rw [hw, qbt s _ hlast, hh, hg]
    have key : ∀ x : UInt8, ((x.toNat : Int) = 34 ↔ some x = some (34 : UInt8)) := fun x => by
      rw [Option.some.injEq, ← UInt8.toNat_inj]
      show (x.toNat : Int) = 34 ↔ x.toNat = 34
      omega
    by_cases hA : ((s.data.toList[0]).toNat : Int) = 34
    · rw [if_pos hA, if_pos (by omega), if_pos (by omega)]
      simp only [change_Unquote.j0]
      by_cases hB : ((s.data.toList[s.data.toList.length - 1]).toNat : Int) = 34
      · rw [if_neg (by rw [bne_iff_ne]; exact fun h => h hB), hw, if_pos (by omega), if_pos (by omega), if_pos ⟨by omega, (key _).mp hA, (key _).mp hB⟩, Int.toNat_natCast]
        have e : (s.extract 1 (s.data.toList.length - 1)).data.toList = (s.data.toList.take (s.data.toList.length - 1)).drop 1 := by
          rw [ByteArray.data_extract, Array.toList_extract, List.extract_eq_take_drop]
          simp [List.drop_take]
        have hsz : (s.extract 1 (s.data.toList.length - 1)).size = s.data.toList.length - 1 - 1 := by rw [qsize_len, e]; simp
        have := unq_l0 (s.extract 1 (s.data.toList.length - 1)) (by omega) (s.extract 1 (s.data.toList.length - 1)).size 0 k [] (by omega) (by omega) (by simp)
        rw [e] at this
        exact this
      · rw [if_pos (by rw [bne_iff_ne]; exact hB), if_neg (by rintro ⟨_, _, h⟩; exact hB ((key _).mpr h))]
    · rw [if_neg hA, if_neg (by rintro ⟨_, h, _⟩; exact hA ((key _).mpr h))]
      simp [change_Unquote.j0]
theorem unqV_quo (l : List UInt8) : unqV (quo l) = (⟨l.toArray⟩, true) := by
  unfold unqV quo
  have h1 : (34 :: (quoB l ++ [34]) : List UInt8).getLast? = some 34 := by
    rw [← List.cons_append, List.getLast?_append]; simp
  rw [if_pos ⟨by simp, by simp, h1⟩]
  have e : ((34 :: (quoB l ++ [34]) : List UInt8).take ((34 :: (quoB l ++ [34]) : List UInt8).length - 1)).drop 1 = quoB l := by
    simp
  rw [e, unq_quo]
  simp [unqOut]

/-! the reference's quoting -/
theorem rplain_u (n : Nat) (h : n < 256) : topiaryref05_plain.f (n : Int) = some (pl (UInt8.ofNat n)) := plain_f n h
theorem rdigit (n : Nat) (h : n < 16) : topiaryref05_digit.f (n : Int) = some ((hx n).toNat : Int) := by
  have : ∀ m : Fin 16, topiaryref05_digit.f (m.val : Int) = some ((hx m.val).toNat : Int) := by decide +kernel
  exact this ⟨n, h⟩
theorem rquote_l0 (s : ByteArray) (hs : s.size ≤ 1048576) : ∀ (d i k : Nat), i + d = s.size → d < k → topiaryref05_Quote.l0 k s (nums (34 :: quoB (s.data.toList.take i))) (i : Int) = some ⟨(quo s.data.toList).toArray⟩
  | d, i, 0, hi, hk => by omega
  | 0, i, k + 1, hi, hk => by
    have hb := quoB_len s.data.toList
    rw [← qsize_len] at hb
    simp only [topiaryref05_Quote.l0]
    rw [if_neg (by omega), List.take_of_length_le (by rw [← qsize_len]; omega), if_pos (by rw [nums_len]; simp only [List.length_cons]; omega)]
    rw [show (nums (34 :: quoB s.data.toList) ++ [34] : List Int) = nums (quo s.data.toList) from by simp [nums, quo], str_nums]
  | d + 1, i, k + 1, hi, hk => by
    have hl : i < s.data.toList.length := by rw [← qsize_len]; omega
    have hb := quoB_len (s.data.toList.take i)
    have hb2 : (s.data.toList.take i).length ≤ i := by simp; omega
    have hx' := (s.data.toList[i]).toNat_lt
    simp only [topiaryref05_Quote.l0]
    rw [if_pos (by omega), if_pos (by omega), qbt s i hl, rplain_u _ hx', UInt8.ofNat_toNat]
    simp only [Option.bind_some]
    have hw : wrap64 ((i : Int) + 1) = ((i + 1 : Nat) : Int) := by unfold wrap64; omega
    have ih := rquote_l0 s hs d (i + 1) k (by omega) (by omega)
    rw [quoB_take _ _ hl] at ih
    rw [hw]
    by_cases hp : pl s.data.toList[i] = true
    · rw [if_pos hp, if_pos (by rw [nums_len]; simp only [List.length_cons]; omega)]
      rw [show quo1 s.data.toList[i] = [s.data.toList[i]] from by unfold quo1; rw [if_pos hp]] at ih
      rw [← ih, ← List.cons_append, nums_app]
      rfl
    · rw [if_neg hp]
      have h16 : (Int.tdiv ((s.data.toList[i]).toNat : Int) 16) % 256 = (((s.data.toList[i]).toNat / 16 : Nat) : Int) := by
        rw [Int.tdiv_eq_ediv_of_nonneg (by omega)]; omega
      have h15 : Int.tmod ((s.data.toList[i]).toNat : Int) 16 = (((s.data.toList[i]).toNat % 16 : Nat) : Int) := by
        rw [Int.tmod_eq_emod_of_nonneg (by omega)]; omega
      rw [h16, h15, rdigit _ (by omega), rdigit _ (by omega)]
      simp only [Option.bind_some, List.length_cons, List.length_nil]
      rw [if_pos (by rw [nums_len]; simp only [List.length_cons]; omega)]
      rw [show quo1 s.data.toList[i] = [92, hx ((s.data.toList[i]).toNat / 16), hx ((s.data.toList[i]).toNat % 16)] from by unfold quo1; rw [if_neg hp]] at ih
      rw [← ih, ← List.cons_append, nums_app]
      rfl
theorem rquote_f (s : ByteArray) (hs : s.size ≤ 1048576) : Ev (fun k => topiaryref05_Quote.f k s) ⟨(quo s.data.toList).toArray⟩ :=
  ⟨s.size + 1, fun k hk => rquote_l0 s hs s.size 0 k (by omega) (by omega)⟩
/-! the text of the quoted one at a place -/
def vl16 (x : UInt8) : Nat := match hv x with | some u => u | none => 16
theorem rvalue (k n : Nat) (h : n < 256) : topiaryref05_value.f (k + 1) (n : Int) = some ((vl16 (UInt8.ofNat n) : Nat) : Int) := by
  have : ∀ m : Fin 256, topiaryref05_value.f 1 (m.val : Int) = some ((vl16 (UInt8.ofNat m.val) : Nat) : Int) := by decide +kernel
  exact at_rounds (topiaryref05_value.mono (n : Int)) (by omega) (this ⟨n, h⟩)
/-- what stands quoted at the head of a list (behind its first sign), and what is left -/
def unr : List UInt8 → Option (List UInt8 × List UInt8)
  | [] => none
  | [x] => if x = 34 then some ([], []) else none
  | [x, y] => if x = 34 then some ([], [y]) else if pl x then (unr [y]).map fun p => (x :: p.1, p.2) else none
  | x :: a :: b :: r => if x = 34 then some ([], a :: b :: r) else if pl x then (unr (a :: b :: r)).map (fun p => (x :: p.1, p.2)) else if x = 92 then (esc a b).bind fun z => (unr r).map fun p => (z :: p.1, p.2) else none
theorem unr_end (r : List UInt8) : unr (34 :: r) = some ([], r) := by
  rcases r with _ | ⟨a, _ | ⟨b, r⟩⟩ <;> simp [unr]
theorem unr_plain {x : UInt8} (h : pl x = true) (h34 : x ≠ 34) (r : List UInt8) : unr (x :: r) = (unr r).map fun p => (x :: p.1, p.2) := by
  rcases r with _ | ⟨a, _ | ⟨b, r⟩⟩
  · simp [unr, h34]
  · simp [unr, h, h34]
  · rw [unr, if_neg h34, if_pos h]
theorem unr_esc (a b : UInt8) (r : List UInt8) : unr (92 :: a :: b :: r) = (esc a b).bind fun z => (unr r).map fun p => (z :: p.1, p.2) := by
  rw [unr, if_neg (by decide), if_neg (by decide), if_pos rfl]
theorem unr_bad {x : UInt8} (h : pl x = false) (hx : x ≠ 92) (h34 : x ≠ 34) (r : List UInt8) : unr (x :: r) = none := by
  rcases r with _ | ⟨a, _ | ⟨b, r⟩⟩
  · simp [unr, h34]
  · simp [unr, h, h34]
  · rw [unr, if_neg h34, if_neg (by simp [h]), if_neg hx]
theorem unr_short {r : List UInt8} (h : r.length < 2) : unr (92 :: r) = none := by
  rcases r with _ | ⟨a, _ | ⟨b, r⟩⟩
  · rfl
  · rfl
  · simp at h; omega
theorem pl34 : pl 34 = false := by decide
theorem hv34 : hv 34 = none := by decide
/-- with the closing sign behind it, and nothing more: the same as the list that stands between -/
theorem unr_of_unq : ∀ (n : Nat) (m v : List UInt8), m.length ≤ n → unq m = some v → unr (m ++ [34]) = some (v, []) := by
  intro n
  induction n with
  | zero =>
    intro m v hm h
    obtain rfl := List.eq_nil_of_length_eq_zero (by omega : m.length = 0)
    simp only [unq, Option.some.injEq] at h
    subst h
    rfl
  | succ n ih =>
    intro m v hm h
    rcases m with _ | ⟨x, r⟩
    · simp only [unq, Option.some.injEq] at h
      subst h
      rfl
    · by_cases hp : pl x = true
      · rw [unq_plain hp] at h
        obtain ⟨w, hw, rfl⟩ := Option.map_eq_some_iff.mp h
        rw [List.cons_append, unr_plain hp (by rintro rfl; rw [pl34] at hp; cases hp), ih r w (by simp at hm; omega) hw]
        rfl
      · have hpf : pl x = false := by simpa using hp
        by_cases h92 : x = 92
        · subst h92
          rcases r with _ | ⟨a, _ | ⟨b, r⟩⟩
          · rw [unq_short (by simp)] at h; cases h
          · rw [unq_short (by simp)] at h; cases h
          · rw [unq_esc] at h
            obtain ⟨z, hz, h⟩ := Option.bind_eq_some_iff.mp h
            obtain ⟨w, hw, rfl⟩ := Option.map_eq_some_iff.mp h
            rw [List.cons_append, List.cons_append, List.cons_append, unr_esc, hz, Option.bind_some, ih r w (by simp at hm; omega) hw]
            rfl
        · rw [unq_bad hpf h92] at h; cases h
theorem unq_of_unr : ∀ (n : Nat) (l v : List UInt8), l.length ≤ n → unr l = some (v, []) → ∃ m, l = m ++ [34] ∧ unq m = some v := by
  intro n
  induction n with
  | zero =>
    intro l v hl h
    obtain rfl := List.eq_nil_of_length_eq_zero (by omega : l.length = 0)
    simp [unr] at h
  | succ n ih =>
    intro l v hl h
    rcases l with _ | ⟨x, r⟩
    · simp [unr] at h
    · by_cases h34 : x = 34
      · subst h34
        rw [unr_end] at h
        simp only [Option.some.injEq, Prod.mk.injEq] at h
        obtain ⟨rfl, rfl⟩ := h
        exact ⟨[], rfl, rfl⟩
      · by_cases hp : pl x = true
        · rw [unr_plain hp h34] at h
          obtain ⟨⟨w, q⟩, hw, he⟩ := Option.map_eq_some_iff.mp h
          simp only [Prod.mk.injEq] at he
          obtain ⟨rfl, rfl⟩ := he
          obtain ⟨m, rfl, hm⟩ := ih r w (by simp at hl; omega) hw
          exact ⟨x :: m, rfl, by rw [unq_plain hp, hm]; rfl⟩
        · have hpf : pl x = false := by simpa using hp
          by_cases h92 : x = 92
          · subst h92
            rcases r with _ | ⟨a, _ | ⟨b, r⟩⟩
            · rw [unr_short (by simp)] at h; cases h
            · rw [unr_short (by simp)] at h; cases h
            · rw [unr_esc] at h
              obtain ⟨z, hz, h⟩ := Option.bind_eq_some_iff.mp h
              obtain ⟨⟨w, q⟩, hw, he⟩ := Option.map_eq_some_iff.mp h
              simp only [Prod.mk.injEq] at he
              obtain ⟨rfl, rfl⟩ := he
              obtain ⟨m, rfl, hm⟩ := ih r w (by simp at hl; omega) hw
              exact ⟨92 :: a :: b :: m, rfl, by rw [unq_esc, hz, Option.bind_some, hm]; rfl⟩
          · rw [unr_bad hpf h92 h34] at h; cases h

def unrOut (n : Nat) (p : List UInt8) : Option (List UInt8 × List UInt8) → ByteArray × Int × Bool
  | some (q, r) => (⟨(p ++ q).toArray⟩, ((n - r.length : Nat) : Int), true)
  | none => (⟨#[]⟩, 0, false)
theorem esc_val (a b : UInt8) : esc a b = if vl16 a = 16 then none else if vl16 b = 16 then none else if pl (UInt8.ofNat (16 * vl16 a + vl16 b)) then none else some (UInt8.ofNat (16 * vl16 a + vl16 b)) := by
  unfold esc vl16
  cases ha : hv a with
  | none => simp
  | some u =>
    have hu := hv_lt ha
    cases hb : hv b with
    | none => simp
    | some v =>
      have hv' := hv_lt hb
      have h1 : ¬ u = 16 := by omega
      have h2 : ¬ v = 16 := by omega
      simp [h1, h2]
theorem vl16_le (x : UInt8) : vl16 x ≤ 16 := by
  unfold vl16
  cases h : hv x with
  | none => simp
  | some u => have := hv_lt h; simp; omega
theorem val16 (a b : Nat) (ha : a ≤ 16) (hb : b ≤ 16) (ha' : ¬ a = 16) (hb' : ¬ b = 16) : (wrap64 ((wrap64 (16 * (a : Int))) + (b : Int))) % 256 = ((16 * a + b : Nat) : Int) ∧ 16 * a + b < 256 := by
  refine ⟨?_, by omega⟩
  unfold wrap64; omega
theorem ref_esc (n : ByteArray) (hs : n.size ≤ 1048576) (i k : Nat) (p : List UInt8) (h2 : i + 2 < n.data.toList.length) (f5 : p.length < 140737488355328) (hb0 : bt n (i : Int) = 92) :
    topiaryref05_Unquoted.j2 (k + 1 + 1 + 1 + 1) n (nums p) (i : Int) true = match esc (n.data.toList[i + 1]'(by omega)) (n.data.toList[i + 2]) with | some z => topiaryref05_Unquoted.l0 (k + 1 + 1) n (nums (p ++ [z])) ((i + 3 : Nat) : Int) | none => some (⟨#[]⟩, 0, false) := by
  have hz : n.size = n.data.toList.length := rfl
  have hi1 : i + 1 < n.data.toList.length := by omega
  have e0 : (i : Int) < (n.size : Int) := by omega
  have e00 : (0 : Int) ≤ (i : Int) := by omega
  have hw : wrap64 ((i : Int) + 1) = ((i + 1 : Nat) : Int) := by unfold wrap64; omega
  have hw2 : wrap64 ((i : Int) + 2) = ((i + 2 : Nat) : Int) := by unfold wrap64; omega
  have hw3 : wrap64 ((i : Int) + 3) = ((i + 3 : Nat) : Int) := by unfold wrap64; omega
  have c1 : ¬ (((i + 2 : Nat) : Int) ≥ (n.size : Int)) := by omega
  have c2 : (0 : Int) ≤ ((i + 1 : Nat) : Int) := by omega
  have c3 : ((i + 1 : Nat) : Int) < (n.size : Int) := by omega
  have c4 : (0 : Int) ≤ ((i + 2 : Nat) : Int) := by omega
  have c5 : ((i + 2 : Nat) : Int) < (n.size : Int) := by omega
  have b1 : bt n ((i + 1 : Nat) : Int) = ((n.data.toList[i + 1]).toNat : Int) := qbt n (i + 1) hi1
  have b2 : bt n ((i + 2 : Nat) : Int) = ((n.data.toList[i + 2]).toNat : Int) := qbt n (i + 2) h2
  have r1 := rvalue (k + 1 + 1) _ (n.data.toList[i + 1]).toNat_lt
  have r2 := rvalue (k + 1 + 1) _ (n.data.toList[i + 2]).toNat_lt
  have s1 := rvalue (k + 1) _ (n.data.toList[i + 1]).toNat_lt
  have s2 := rvalue (k + 1) _ (n.data.toList[i + 2]).toNat_lt
  rw [UInt8.ofNat_toNat] at r1 r2 s1 s2
  have hpl0 : topiaryref05_plain.f 92 = some false := by decide
  have l1 := vl16_le (n.data.toList[i + 1])
  have l2 := vl16_le (n.data.toList[i + 2])
  generalize hga : n.data.toList[i + 1] = a at *
  generalize hgb : n.data.toList[i + 2] = b at *
  clear hga hgb hs hz hi1 h2
  rw [esc_val]
  simp only [topiaryref05_Unquoted.j2, if_true]
  rw [if_pos e00, if_pos e0, hb0, hpl0, Option.bind_some, if_neg Bool.false_ne_true, if_pos (rfl : (92 : Int) = 92)]
  rw [hw2, hw, if_neg c1, if_pos c2, if_pos c3, b1, r1]
  simp only [Option.bind_some]
  by_cases ha : vl16 a = 16
  · have ha' : ((vl16 a : Nat) : Int) = 16 := by rw [ha]; rfl
    rw [if_pos ha', if_pos ha]
    simp [topiaryref05_Unquoted.j3]
  · have ha' : ¬ ((vl16 a : Nat) : Int) = 16 := fun h => ha (Int.ofNat_inj.mp h)
    rw [if_neg ha', if_neg ha, if_pos c4, if_pos c5, b2, r2]
    simp only [Option.bind_some]
    by_cases hb' : vl16 b = 16
    · have hq' : (((vl16 b : Nat) : Int) == 16) = true := by rw [hb']; rfl
      rw [if_pos hb', hq']
      simp [topiaryref05_Unquoted.j3]
    · have hq' : (((vl16 b : Nat) : Int) == 16) = false := by rw [beq_eq_false_iff_ne]; exact fun h => hb' (Int.ofNat_inj.mp h)
      rw [if_neg hb', hq']
      rw [topiaryref05_Unquoted.j3, if_neg Bool.false_ne_true]
      rw [hw, hw2, hw3, if_pos c2, if_pos c3, b1, s1, Option.bind_some]
      rw [if_pos c4, if_pos c5, b2, s2, Option.bind_some]
      obtain ⟨hm, hlt⟩ := val16 _ _ l1 l2 ha hb'
      rw [hm, rplain_u _ hlt, Option.bind_some]
      generalize hzz : UInt8.ofNat (16 * vl16 a + vl16 b) = zz
      have hn : ((16 * vl16 a + vl16 b : Nat) : Int) = (zz.toNat : Int) := by rw [← hzz, ofn hlt]
      by_cases hq : pl zz = true
      · rw [if_pos hq, if_pos hq]
      · rw [if_neg hq, if_neg hq, if_pos (by rw [nums_len]; exact f5), hn, show nums p ++ [(zz.toNat : Int)] = nums (p ++ [zz]) from by simp [nums]]
theorem unr_l0 (n : ByteArray) (hs : n.size ≤ 1048576) : ∀ (d i k : Nat) (p : List UInt8), i + d = n.size → 3 * d + 5 < k → p.length ≤ i → topiaryref05_Unquoted.l0 k n (nums p) (i : Int) = some (unrOut n.size p (unr (n.data.toList.drop i))) := by
  intro d
  induction d using Nat.strongRecOn with
  | _ d ih =>
    intro i k p hi hk hp
    obtain ⟨k, rfl⟩ : ∃ m, k = m + 1 + 1 + 1 + 1 + 1 := ⟨k - 5, by omega⟩
    have hz : n.size = n.data.toList.length := rfl
    simp only [topiaryref05_Unquoted.l0]
    by_cases hd : d = 0
    · subst hd
      rw [if_neg (by omega), List.drop_eq_nil_of_le (by omega)]
      simp only [topiaryref05_Unquoted.j2, Bool.false_eq_true, if_false]
      rw [if_pos (by omega)]
      rfl
    have hl : i < n.data.toList.length := by omega
    have hx' := (n.data.toList[i]).toNat_lt
    have e0 : (i : Int) < (n.size : Int) := by omega
    have e00 : (0 : Int) ≤ (i : Int) := by omega
    have hw : wrap64 ((i : Int) + 1) = ((i + 1 : Nat) : Int) := by unfold wrap64; omega
    have hw2 : wrap64 ((i : Int) + 2) = ((i + 2 : Nat) : Int) := by unfold wrap64; omega
    have hw3 : wrap64 ((i : Int) + 3) = ((i + 3 : Nat) : Int) := by unfold wrap64; omega
    have hb : bt n (i : Int) = ((n.data.toList[i]).toNat : Int) := qbt n i hl
    have hpl0 := rplain_u _ hx'
    rw [UInt8.ofNat_toNat] at hpl0
    rw [if_pos e0, if_pos e00, hb, List.drop_eq_getElem_cons hl]
    have f1 : d - 1 < d := by omega
    have f2 : i + 1 + (d - 1) = n.size := by omega
    have f3 : 3 * (d - 1) + 5 < k + 1 + 1 + 1 := by omega
    have f4 : p.length + 1 ≤ i + 1 := by omega
    have f5 : p.length < 140737488355328 := by omega
    have f6 : p.length + 1 ≤ i + 3 := by omega
    have k1 : ¬ (i + 2 < n.data.toList.length) → ((i + 2 : Nat) : Int) ≥ (n.size : Int) := by omega
    have k2 : ¬ (i + 2 < n.data.toList.length) → (List.drop (i + 1) n.data.toList).length < 2 := by intro h; rw [List.length_drop]; omega
    generalize hg : n.data.toList[i] = x at *
    clear hx'
    have key34 : ((x.toNat : Int) = 34 ↔ x = 34) := by
      rw [← UInt8.toNat_inj]
      show (x.toNat : Int) = 34 ↔ x.toNat = 34
      omega
    have key92 : ((x.toNat : Int) = 92 ↔ x = 92) := by
      rw [← UInt8.toNat_inj]
      show (x.toNat : Int) = 92 ↔ x.toNat = 92
      omega
    by_cases h34 : x = 34
    · have hc : ((x.toNat : Int) != 34) = false := by rw [bne_eq_false_iff_eq]; exact key34.mpr h34
      rw [hc, h34, unr_end]
      simp only [topiaryref05_Unquoted.j2, Bool.false_eq_true, if_false]
      rw [if_neg (by omega), hw, str_nums]
      simp only [unrOut, List.append_nil, List.length_drop]
      rw [show n.size - (n.data.toList.length - (i + 1)) = i + 1 from by omega]
    · have hc : ((x.toNat : Int) != 34) = true := by rw [bne_iff_ne]; exact fun h => h34 (key34.mp h)
      rw [hc]
      by_cases h92 : x = 92
      · have hb92 : bt n (i : Int) = 92 := by rw [hb, h92]; rfl
        clear hpl0 key34 key92 hc hb
        by_cases h2 : i + 2 < n.data.toList.length
        · have hi1 : i + 1 < n.data.toList.length := by omega
          have g1 : d - 3 < d := by omega
          have g2 : i + 3 + (d - 3) = n.size := by omega
          have g3 : 3 * (d - 3) + 5 < k + 1 + 1 := by omega
          rw [ref_esc n hs i k p h2 f5 hb92, List.drop_eq_getElem_cons hi1, List.drop_eq_getElem_cons h2, h92, unr_esc]
          clear hg
          rcases esc (n.data.toList[i + 1]) (n.data.toList[i + 1 + 1]) with _ | zz
          · rfl
          · simp only [Option.bind_some]
            rw [ih (d - 3) g1 (i + 3) (k + 1 + 1) (p ++ [zz]) g2 g3 (by rw [List.length_append]; exact f6)]
            rcases unr (List.drop (i + 1 + 1 + 1) n.data.toList) with _ | ⟨q, r⟩ <;> simp [unrOut]
        · rw [h92, unr_short (k2 h2)]
          simp only [topiaryref05_Unquoted.j2, if_true]
          rw [if_pos e00, if_pos e0, hb92, show topiaryref05_plain.f 92 = some false from by decide, Option.bind_some, if_neg Bool.false_ne_true, if_pos (rfl : (92 : Int) = 92)]
          rw [hw2, if_pos (k1 h2)]
          simp [topiaryref05_Unquoted.j3, unrOut]
      · simp only [topiaryref05_Unquoted.j2, if_true]
        rw [if_pos e00, if_pos e0, hb, hpl0]
        simp only [Option.bind_some]
        by_cases hpl : pl x = true
        · rw [if_pos hpl, if_pos (by rw [nums_len]; exact f5), hw, show nums p ++ [(x.toNat : Int)] = nums (p ++ [x]) from by simp [nums], ih (d - 1) f1 (i + 1) (k + 1 + 1 + 1) (p ++ [x]) f2 f3 (by rw [List.length_append]; exact f4), unr_plain hpl h34]
          rcases unr (List.drop (i + 1) n.data.toList) with _ | ⟨q, r⟩
          · simp [unrOut]
          · simp [unrOut]
        · rw [if_neg hpl]
          have hpf : pl x = false := by simpa using hpl
          rw [if_neg (fun h => h92 (key92.mp h)), unr_bad hpf h92 h34]
          simp [topiaryref05_Unquoted.j3, unrOut]
theorem runquote_f (s : ByteArray) (hs : s.size ≤ 1048576) : Ev (fun k => topiaryref05_Unquote.f k s) (unqV s.data.toList) := by
  refine ⟨3 * s.size + 20, fun k hk => ?_⟩
  obtain ⟨k, rfl⟩ : ∃ m, k = m + 1 := ⟨k - 1, by omega⟩
  have hz : s.size = s.data.toList.length := rfl
  show topiaryref05_Unquote.f (k + 1) s = _
  unfold topiaryref05_Unquote.f topiaryref05_Unquoted.f
  by_cases h0 : s.data.toList.length = 0
  · rw [if_pos (by omega)]
    unfold unqV
    rw [if_neg (by omega)]
    simp [topiaryref05_Unquoted.j0]
  · have hl : 0 < s.data.toList.length := by omega
    rw [if_neg (by omega), if_pos (by omega), if_pos (by omega), show bt s 0 = ((s.data.toList[0]).toNat : Int) from by simpa using qbt s 0 hl]
    obtain ⟨x, rest, hr⟩ : ∃ x rest, s.data.toList = x :: rest := by
      rcases h : s.data.toList with _ | ⟨x, r⟩
      · rw [h] at hl; simp at hl
      · exact ⟨x, r, rfl⟩
    have hx0 : s.data.toList[0] = x := by simp [hr]
    rw [hx0]
    have key34 : ((x.toNat : Int) = 34 ↔ x = 34) := by
      rw [← UInt8.toNat_inj]
      show (x.toNat : Int) = 34 ↔ x.toNat = 34
      omega
    by_cases h34 : x = 34
    · have hc : ((x.toNat : Int) != 34) = false := by rw [bne_eq_false_iff_eq]; exact key34.mpr h34
      rw [hc]
      simp only [topiaryref05_Unquoted.j0, Bool.false_eq_true, if_false]
      have hw : wrap64 ((0 : Int) + 1) = ((1 : Nat) : Int) := by unfold wrap64; omega
      have hu := unr_l0 s hs (s.size - 1) 1 k [] (by omega) (by omega) (by simp)
      rw [show (nums [] : List Int) = [] from rfl] at hu
      rw [hw, hu, hr, List.drop_succ_cons, List.drop_zero]
      have hsz : s.size = rest.length + 1 := by rw [hz, hr]; simp
      simp only [Option.bind_some]
      subst h34
      by_cases hq : ∃ m v, rest = m ++ [34] ∧ unq m = some v
      · obtain ⟨m, v, rfl, hm⟩ := hq
        rw [unr_of_unq m.length m v (Nat.le_refl _) hm]
        simp only [unrOut, if_true, List.nil_append, List.length_nil, Nat.sub_zero]
        unfold unqV
        have h1 : (34 :: (m ++ [34]) : List UInt8).getLast? = some 34 := by rw [← List.cons_append, List.getLast?_append]; simp
        rw [if_pos ⟨by simp, by simp, h1⟩]
        have e : ((34 :: (m ++ [34]) : List UInt8).take ((34 :: (m ++ [34]) : List UInt8).length - 1)).drop 1 = m := by simp
        rw [e, hm]
        simp [unqOut]
      · have hV : unqV (34 :: rest) = (⟨#[]⟩, false) := by
          unfold unqV
          by_cases hc2 : 2 ≤ (34 :: rest : List UInt8).length ∧ (34 :: rest : List UInt8).head? = some 34 ∧ (34 :: rest : List UInt8).getLast? = some 34
          · rw [if_pos hc2]
            have hne : rest ≠ [] := by rintro rfl; simp at hc2
            have hlast : rest = rest.dropLast ++ [34] := by
              have h3 := hc2.2.2
              rw [List.getLast?_cons, Option.some.injEq] at h3
              have h4 : rest.getLast hne = 34 := by
                rw [List.getLast?_eq_some_getLast hne] at h3
                simpa using h3
              rw [← h4, List.dropLast_concat_getLast]
            have e : ((34 :: rest : List UInt8).take ((34 :: rest : List UInt8).length - 1)).drop 1 = rest.dropLast := by
              rw [hlast]; simp
            rw [e]
            cases hu2 : unq rest.dropLast with
            | none => rfl
            | some v => exact absurd ⟨_, v, hlast, hu2⟩ hq
          · rw [if_neg hc2]
        rw [hV]
        rcases hu2 : unr rest with _ | ⟨v, r⟩
        · simp [unrOut]
        · show (if ((s.size - r.length : Nat) : Int) = (s.size : Int) then some ((⟨([] ++ v).toArray⟩ : ByteArray), true) else some (⟨#[]⟩, false)) = _
          have hne : ¬ (((s.size - r.length : Nat) : Int) = (s.size : Int)) := by
            intro he
            have hr0 : r.length = 0 := by omega
            obtain rfl := List.eq_nil_of_length_eq_zero hr0
            obtain ⟨m, h1, h2⟩ := unq_of_unr rest.length rest v (Nat.le_refl _) hu2
            exact hq ⟨m, v, h1, h2⟩
          rw [if_neg hne]
    · have hc : ((x.toNat : Int) != 34) = true := by rw [bne_iff_ne]; exact fun h => h34 (key34.mp h)
      rw [hc, hr]
      simp only [topiaryref05_Unquoted.j0, if_true, Option.bind_some, Bool.false_eq_true, if_false]
      unfold unqV
      rw [if_neg]
      rintro ⟨_, h, _⟩
      simp at h
      exact h34 h

theorem ChangeQuotes : topiarylaw05_ChangeQuotes.Pure := by
  intro s t hs ht
  have hs := hs; have ht := ht
  refine Ev.rounds (g := fun k => topiarylaw05_ChangeQuotes.f k s t) ?_
  unfold topiarylaw05_ChangeQuotes.f
  have hq : (⟨(quo s.data.toList).toArray⟩ : ByteArray).size ≤ 1048576 ∨ True := .inr trivial
  refine Ev.bind (unquote_f t (by omega)) (Ev.bind (runquote_f t ht) (Ev.bind (quote_f s hs) (Ev.bind (unquote_f _ ?_) (Ev.bind (quote_f s hs) (Ev.bind (rquote_f s hs) ?_)))))
  · have := quoB_len s.data.toList
    rw [← qsize_len] at this
    simp only [ByteArray.size, List.size_toArray, quo, List.length_cons, List.length_append, List.length_nil]
    have : s.size = s.data.size := rfl
    omega
  · rw [show (⟨(quo s.data.toList).toArray⟩ : ByteArray).data.toList = quo s.data.toList from rfl, unqV_quo]
    simp only [if_true, beq_self_eq_true]
    exact Ev.bind awake (Ev.now _)

end Go.Proofs.YtgoolgmcbnikkaaDoor.PureChangeQuotes
