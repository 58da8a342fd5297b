-- Own text of this seat, laid by the session's program ownprint.py (wip/tools). Lean checks it.
import Derived.Test.YtjlimpnfoeeofaaGreatDoorQWatchTextsx0
namespace Go.Proofs.YtjlimpnfoeeofaaGreatDoor.QWatchTexts
open Go.RowKit Go.Proofs.YtjlimpnfoeeofaaGreatDoorW.PrintWords Go.Proofs.YtjlimpnfoeeofaaGreatDoorW.PrintLast Go.Proofs.YtjlimpnfoeeofaaGreatDoorW.PrintMore
attribute [local go_sem] max2_int min2_int max_two min_two max_three min_three max_four min_four   -- for this text's walks alone
set_option linter.unusedVariables false
set_option linter.unusedSimpArgs false

-- NOT PRINTED: function 23 (abi_NoEscape)

-- NOT PRINTED: function 13 (strings_Builder_copyCheck)

-- NOT PRINTED: function 7 (strings_Builder_WriteString)

-- NOT PRINTED: function 35 (strconv_small)

-- NOT PRINTED: function 52 (strconv_log10Pow2)

-- NOT PRINTED: function 53 (bits_Len64)

-- NOT PRINTED: function 54 (strconv_bool2_int)

-- NOT PRINTED: function 36 (strconv_numDigits)

-- NOT PRINTED: function 37 (strconv_formatBase10)

-- NOT PRINTED: function 55 (strconv_isPowerOfTwo)

-- NOT PRINTED: function 84 (bits_TrailingZeros32)

-- NOT PRINTED: function 85 (bits_TrailingZeros64)

-- NOT PRINTED: function 56 (bits_TrailingZeros)

-- NOT PRINTED: function 38 (strconv_formatBits)

-- NOT PRINTED: function 24 (strconv_FormatInt)

-- NOT PRINTED: function 14 (strconv_Itoa_14)

/-! ### strconv_Itoa_8: function 8 (by hand) -/
/-- The table of powers of ten, as the library's initialiser lays it. -/
def TabW_ (w : World) : Prop := Lib.TabIs Tryz.prog w "internal/strconv.uint64pow10" .u64 Lib.pow10Tab
theorem tabW_below_ {w w' : World} (h : TabW_ w) (hb : Below w.heap.size w w') : TabW_ w' := by
  unfold TabW_ Lib.TabIs World.var? at h ⊢
  cases hg : Tryz.prog.globalNamed "internal/strconv.uint64pow10" with
  | none => rw [hg] at h; cases h
  | some g =>
    rw [hg] at h
    simp only [Option.bind_some] at h ⊢
    have hlt : g < w.heap.size := by
      rcases Nat.lt_or_ge g w.heap.size with h' | h'
      · exact h'
      · rw [Array.getElem?_eq_none h'] at h; cases h
    rw [hb.block _ hlt]
    exact h
def strconv_Itoa_8.f (a0 : Int) : Option ByteArray := if -9223372036854775808 ≤ a0 then (if a0 ≤ 9223372036854775807 then some ⟨(Lib.itoa a0).toArray⟩ else none) else none
set_option maxRecDepth 100000 in
theorem strconv_Itoa_8.calls (a0 : Int) (r : ByteArray) (w : World) (htab : TabW_ w) (h : strconv_Itoa_8.f a0 = some r) :
    Calls Tryz.prog 8 #[.int .i64 a0] w fun e w' => e = .returned (.string r) ∧ Below w.heap.size w w' := by
  unfold strconv_Itoa_8.f at h
  split at h
  · split at h
    · obtain rfl := Option.some.inj h
      refine (Tryz.strconv_Itoa a0 (by omega) (by omega) w htab).mono ?_
      rintro e w' ⟨rfl, k, os, rfl⟩
      exact ⟨rfl, Lib.below_grow _ _ (Nat.le_refl _) _ _⟩
    · cases h
  · cases h


-- NOT PRINTED: function 9 (strings_Builder_String)

/-! ### watch_Text: function 4 (by hand) -/
section
attribute [local go_sem] Oper.semAt_some
open Go.Shelf
def KeepsT (b : Nat) (w w' : World) : Prop := ∀ k cs T, k ≠ b → T ≠ 5 → w.heap[k]? = some (.cells cs T (0, 0)) → w'.heap[k]? = some (.cells cs T (0, 0))
theorem keepsT_set (b j : Nat) (w : World) (v : Value) : KeepsT b w (w.setCell ⟨b, j, none⟩ v) := fun k cs T hk _ h => by rw [Below.heap_setCell w ⟨b, j, none⟩ v k hk]; exact h
theorem KeepsT.trans {b : Nat} {A B C : World} (h : KeepsT b A B) (k : KeepsT b B C) : KeepsT b A C := fun j cs T hj hT e => k j cs T hj hT (h j cs T hj hT e)
theorem bat_below {T e B b : Nat} {p : Value} {bs : List Value} {w w' : World} (h : Lib.BuilderAt T e B b p bs w) (hb : Below w.heap.size w w') : Lib.BuilderAt T e B b p bs w' := by
  have hlt := h.lt
  obtain ⟨h1, v, h2, h3, h4⟩ := h
  refine ⟨h1, v, (hb.block b hlt).trans h2, h3.kept (row := none) ⟨hb.os, hb.tape, hb.output, hb.size, fun k hk _ => hb.block k hk⟩ ?_, h4⟩
  cases hv : v.ownBlock with
  | none => exact .inl rfl
  | some x => exact .inr (fun e => by cases e)
theorem isb_below {T e B b : Nat} {bs : List Value} {w w' : World} (h : Lib.IsBuilder T e B b bs w) (hb : Below w.heap.size w w') : Lib.IsBuilder T e B b bs w' := h.imp (bat_below · hb) (bat_below · hb)
theorem isb_lt {T e B b : Nat} {bs : List Value} {w : World} (h : Lib.IsBuilder T e B b bs w) : b < w.heap.size := by rcases h with h | h <;> exact h.lt
set_option maxHeartbeats 1000000 in
set_option maxRecDepth 100000 in
theorem copy_used (b : Nat) (w : World) (h0 : w.cell? ⟨b, 0, none⟩ = some (.pointer (some ⟨b, 0, none⟩))) :
    Calls Tryz.prog 13 #[.pointer (some ⟨b, 0, none⟩)] w fun e w' => e = .returned (.tuple #[]) ∧ w' = w := by
  obtain ⟨j, hj, _⟩ : ∃ j, Tryz.prog.info? 30 = some j ∧ j.size = 2 := by
    have h : (Tryz.prog.info? 30).map (·.size) = some 2 := by kernel_rfl
    exact Option.map_eq_some_iff.1 h
  go_enter Tryz.func13, Tryz.ntmps13
  go_wp2
  rw [Lib.run_neq_ptr_same w _ Tryz.underlying27 hj]
  go_wp2
  go_end0
  exact ⟨rfl, rfl⟩
set_option maxHeartbeats 1000000 in
set_option maxRecDepth 100000 in
theorem copy_fresh (b : Nat) (w : World) (h0 : w.cell? ⟨b, 0, none⟩ = some (.pointer none)) (hsh : w.shape? b = some (30, 2)) (hfz : w.frozen? ⟨b, 0, none⟩ = false) :
    Calls Tryz.prog 13 #[.pointer (some ⟨b, 0, none⟩)] w fun e w' => e = .returned (.tuple #[]) ∧ w' = w.setCell ⟨b, 0, none⟩ (.pointer (some ⟨b, 0, none⟩)) := by
  obtain ⟨j, hj, hjs⟩ : ∃ j, Tryz.prog.info? 30 = some j ∧ j.size = 2 := by
    have h : (Tryz.prog.info? 30).map (·.size) = some 2 := by kernel_rfl
    exact Option.map_eq_some_iff.1 h
  go_enter Tryz.func13, Tryz.ntmps13
  go_wp2
  rw [Lib.run_to_unsafe w ⟨b, 0, none⟩ Tryz.underlying27 Tryz.underlying60 hj (by rw [hjs]; decide) hsh (Nat.zero_lt_succ 1)]
  simp only [Result.andThen]
  rw [Oper.upon_value]
  go_wp2
  rw [run_callFunc_extern (P := Tryz.prog) (f := 23) (fn := (Tryz.prog.funcs[23]?).getD default) (by kernel_rfl) (by kernel_rfl) (by kernel_rfl) (by kernel_rfl) (e := Extern.AbiNoEscape.same) (by kernel_rfl)]
  rw [Lib.run_noEscape]
  simp only [Result.andThen]
  rw [Oper.upon_value]
  go_wp2
  rw [Lib.run_from_unsafe w ⟨b, 0, none⟩ Tryz.underlying60 Tryz.underlying27 hj hsh (by kernel_rfl)]
  simp only [Result.andThen]
  rw [Oper.upon_value]
  go_wp2
  go_end0
  exact ⟨rfl, rfl⟩
theorem copyCheck (B b : Nat) (bs : List Value) (w : World) (h : Lib.IsBuilder 30 5 B b bs w) :
    Calls Tryz.prog 13 #[.pointer (some ⟨b, 0, none⟩)] w fun e w' => e = .returned (.tuple #[]) ∧ (Lib.BuilderAt 30 5 B b (.pointer (some ⟨b, 0, none⟩)) bs w' ∧ Below B w w' ∧ KeepsT b w w') := by
  rcases h with h | h
  · refine (copy_fresh b w h.cell0 h.shape h.frozen0).mono ?_
    rintro e w' ⟨rfl, rfl⟩
    exact ⟨rfl, h.used _, (Below.refl B w).setCell (p := ⟨b, 0, none⟩) h.1 _, keepsT_set _ _ _ _⟩
  · refine (copy_used b w h.cell0).mono ?_
    rintro e w' ⟨rfl, rfl⟩
    exact ⟨rfl, h, Below.refl B _, fun _ _ _ _ _ e => e⟩
set_option maxHeartbeats 2000000 in
set_option maxRecDepth 100000 in
theorem writeString (B b : Nat) (bs : List Value) (s : ByteArray) (w : World) (h : Lib.IsBuilder 30 5 B b bs w) (hlen : bs.length + s.size ≤ 140737488355328) (hBw : B ≤ w.heap.size) :
    Calls Tryz.prog 7 #[.pointer (some ⟨b, 0, none⟩), .string s] w fun e w' => e = .returned (.tuple #[.int .i64 s.size, .nilIface]) ∧ (Lib.BuilderAt 30 5 B b (.pointer (some ⟨b, 0, none⟩)) (bs ++ Lib.strCells s) w' ∧ Below B w w' ∧ KeepsT b w w') := by
  have hinfo : (Tryz.prog.info? 5).map (fun i => (i.zero, i.size, i.bytes)) = some (some (.int .u8 0), 1, 1) := by kernel_rfl
  obtain ⟨i0, hi, hz0, hz1, hz2⟩ := info_parts hinfo
  go_enter Tryz.func7, Tryz.ntmps7
  go_wp2_with (go_at_call 13; refine (copyCheck B b bs _ h).mono ?_)
  rintro e w1 ⟨rfl, h1, hb1, hkt⟩
  obtain ⟨hB, v, hbk, hown, hne⟩ := h1
  have c0 : w1.cell? ⟨b, 0, none⟩ = some (.pointer (some ⟨b, 0, none⟩)) := by rw [Lib.cell_of_heap hbk]; rfl
  have c1 : w1.cell? ⟨b, 1, none⟩ = some v := by rw [Lib.cell_of_heap hbk]; rfl
  go_wp2_with (at_builtin; refine Lib.wpList_append_own_string _ rfl _ _ 28 9 rfl B 5 i0 Tryz.underlying28 Tryz.underlying9 hi hz0 hz1 hz2 _ _ _ rfl hown s rfl ?c3 ?c4 ?c5 ?_)
  case c3 => unfold maxLen; omega
  case c4 => omega
  case c5 => have := hb1.size; omega
  intro v' w2 hown' hgrow _
  have hlt : b < w1.heap.size := by
    rcases Nat.lt_or_ge b w1.heap.size with h' | h'
    · exact h'
    · simp [Array.getElem?_eq_none h'] at hbk
  have hb2 : w2.heap[b]? = some (.cells #[.pointer (some ⟨b, 0, none⟩), v] 30 (0, 0)) := by
    rw [hgrow.block b hlt (fun e => hne e.symm)]
    exact hbk
  have d0 : w2.cell? ⟨b, 0, none⟩ = some (.pointer (some ⟨b, 0, none⟩)) := by rw [Lib.cell_of_heap hb2]; rfl
  have d1 : w2.cell? ⟨b, 1, none⟩ = some v := by rw [Lib.cell_of_heap hb2]; rfl
  have f1 : w2.frozen? ⟨b, 1, none⟩ = false := Lib.frozen_of_heap hb2 1
  obtain ⟨ao, n', cap, rfl⟩ : ∃ ao n' cap, v' = .slice ao n' cap := by
    rcases hown'.2 with ⟨hv, _⟩ | ⟨g, cap, cur, hv, _⟩
    · exact ⟨_, _, _, hv⟩
    · exact ⟨_, _, _, hv⟩
  go_wp2
  go_ret2
  refine ⟨rfl, ?_, ?_, ?_⟩
  · exact Lib.BuilderAt.put (T := 30) (e := 5) hB hb2 (bs' := bs ++ Lib.strCells s) (by simpa [Lib.strCells_length] using hown') (by decide)
  · exact (hb1.grown hgrow (by have := hb1.size; omega) (fun k hk => (hown.lt k hk).1)).setCell (p := ⟨b, 1, none⟩) hB _
  · refine hkt.trans (KeepsT.trans (fun k cs T hk hT e => ?_) (keepsT_set b 1 _ _))
    have hl : k < w1.heap.size := by
      rcases Nat.lt_or_ge k w1.heap.size with h' | h'
      · exact h'
      · rw [Array.getElem?_eq_none h'] at e; cases e
    rw [hgrow.block k hl (fun e' => Lib.ownBlock_ne hown e hT e'.symm)]; exact e
def kindT (k : Int) : List UInt8 := if k = 1 then [111, 112, 101, 110] else if k = 2 then [116, 114, 101, 101] else if k = 3 then [108, 105, 110, 107, 115] else if k = 4 then [104, 116, 109, 108] else if k = 5 then [97, 112, 97, 114, 116] else [116, 119, 111]
def findT (x : S32) : List UInt8 := if x.f0 < 1 ∨ 6 < x.f0 then [] else kindT x.f0 ++ [32] ++ Lib.itoa x.f1 ++ ((if 5 ≤ x.f0 then 32 :: Lib.itoa x.f2 else []) ++ [10])
def textT : List S32 → List UInt8
  | [] => []
  | x :: l => findT x ++ textT l
def isI64 (a : Int) : Bool := decide (-9223372036854775808 ≤ a) && decide (a ≤ 9223372036854775807)
def watch_Text.f (_ : Nat) (l0 : List S32) : Option ByteArray := if l0.length ≤ 1000000000000 then (if (l0.all fun x => isI64 x.f1 && isI64 x.f2) = true then some ⟨(textT l0).toArray⟩ else none) else none
theorem watch_Text.mono : ∀ a0 k, LeO (watch_Text.f k a0) (watch_Text.f (k + 1) a0) := fun _ _ => LeO.refl _
theorem rd_mem {l : List S32} {j : Nat} (h : j < l.length) : rd_T32 l (j : Int) ∈ l := by simp [rd_T32, List.getD_eq_getElem?_getD, h]
theorem itoa_le (n : Int) (h : isI64 n = true) : (Lib.itoa n).length ≤ 21 := by
  simp only [isI64, Bool.and_eq_true, decide_eq_true_eq] at h
  exact Lib.itoa_length_le n h.1 h.2
theorem kindT_le (k : Int) : (kindT k).length ≤ 5 := by unfold kindT; (repeat' split) <;> decide
theorem findT_le (x : S32) (h1 : isI64 x.f1 = true) (h2 : isI64 x.f2 = true) : (findT x).length ≤ 64 := by
  unfold findT
  have a := kindT_le x.f0
  have b := itoa_le _ h1
  have c := itoa_le _ h2
  split
  · simp
  · split <;> simp <;> omega
theorem textT_app (a b : List S32) : textT (a ++ b) = textT a ++ textT b := by
  induction a with
  | nil => rfl
  | cons x a ih => simp only [List.cons_append, textT, ih, List.append_assoc]
theorem textT_le (l : List S32) (h : ∀ x ∈ l, isI64 x.f1 = true ∧ isI64 x.f2 = true) : (textT l).length ≤ 64 * l.length := by
  induction l with
  | nil => simp [textT]
  | cons x l ih =>
    have a := findT_le x (h x (by simp)).1 (h x (by simp)).2
    have b := ih fun y hy => h y (by simp [hy])
    simp only [textT, List.length_append, List.length_cons]; omega
theorem strCells_app (a b : List UInt8) : Lib.byteCells a ++ Lib.strCells ⟨b.toArray⟩ = Lib.byteCells (a ++ b) := by simp [Lib.byteCells, Lib.strCells]
theorem itoa_f {a : Int} {t : ByteArray} (h : isI64 a = true) (ht : t = ⟨(Lib.itoa a).toArray⟩) : strconv_Itoa_8.f a = some t := by
  simp only [isI64, Bool.and_eq_true, decide_eq_true_eq] at h
  rw [ht]; unfold strconv_Itoa_8.f; rw [if_pos h.1, if_pos h.2]
theorem gf_step {l : List S32} {j : Nat} {X : S32} (hj : j < l.length) (hX : rd_T32 l (j : Int) = X) : textT (l.take (j + 1)) = textT (l.take j) ++ findT X := by
  rw [List.take_succ_eq_append_getElem hj, textT_app]
  have : l[j] = X := by rw [← hX]; simp [rd_T32, List.getD_eq_getElem?_getD, hj]
  rw [this]; simp [textT]
def theWords : Array Value := #[.string ⟨#[]⟩, .string ⟨#[111, 112, 101, 110]⟩, .string ⟨#[116, 114, 101, 101]⟩, .string ⟨#[108, 105, 110, 107, 115]⟩, .string ⟨#[104, 116, 109, 108]⟩, .string ⟨#[97, 112, 97, 114, 116]⟩, .string ⟨#[116, 119, 111]⟩]
theorem start_b (w : World) (ws : Array Value) : Lib.IsBuilder 30 5 (w.heap.size + 1) (w.heap.size + 1) [] ((w.alloc (.cells ws 9)).alloc (.cells #[.pointer none, .slice none 0 0] 30)) := by
  have h := Lib.fresh_isBuilder 30 5 (w.alloc (.cells ws 9))
  simpa using h
theorem word_of {W : World} {b : Nat} {k : Int} {s : ByteArray} (h : W.heap[b]? = some (.cells theWords 9 (0, 0))) (hk : theWords[k.toNat]? = some (.string s)) : W.cell? ⟨b, k.toNat, none⟩ = some (.string s) := (blk_cell h _).trans hk
theorem cells_app (a : List UInt8) (s : ByteArray) : Lib.byteCells a ++ Lib.strCells s = Lib.byteCells (a ++ s.data.toList) := by simp [Lib.byteCells, Lib.strCells]
theorem len_ok {l : List UInt8} {s : ByteArray} (h : l.length ≤ 64000000001000) (hs : s.size ≤ 100) : (Lib.byteCells l).length + s.size ≤ 140737488355328 := by
  show (List.map _ _).length + _ ≤ _
  rw [List.length_map]; omega
theorem isb_app {T e B b : Nat} {p : Value} {a : List UInt8} {s : ByteArray} {w : World} (hp : p = .pointer (some ⟨b, 0, none⟩)) (h : Lib.BuilderAt T e B b p (Lib.byteCells a ++ Lib.strCells s) w) : Lib.IsBuilder T e B b (Lib.byteCells (a ++ s.data.toList)) w := .inr (by rw [← cells_app, ← hp]; exact h)
theorem wrap_step {j n : Nat} (h : j ≤ n) (h1 : j < n) (h2 : n ≤ 1000000000000) : wrap64 ((j : Int) + 1) = ((j + 1 : Nat) : Int) := by
  unfold wrap64; omega
theorem data_app (a b : ByteArray) : (a ++ b).data.toList = a.data.toList ++ b.data.toList := by simp
theorem find_hi {x : S32} {K t u s : ByteArray} (h1 : ¬ x.f0 < 1) (h2 : ¬ 6 < x.f0) (h5 : 5 ≤ x.f0) (hK : K = ⟨(kindT x.f0).toArray⟩) (ht : t = ⟨(Lib.itoa x.f1).toArray⟩) (hu : u = ⟨(Lib.itoa x.f2).toArray⟩) (hs : s = K ++ (⟨#[32]⟩ : ByteArray) ++ t) :
    findT x = s.data.toList ++ ((⟨#[32]⟩ : ByteArray) ++ u).data.toList ++ (⟨#[10]⟩ : ByteArray).data.toList := by
  subst hs hK ht hu
  unfold findT
  rw [if_neg (by omega), if_pos h5]
  simp only [data_app, List.append_assoc]
  rfl
theorem find_lo {x : S32} {K t s : ByteArray} (h1 : ¬ x.f0 < 1) (h2 : ¬ 6 < x.f0) (h5 : ¬ 5 ≤ x.f0) (hK : K = ⟨(kindT x.f0).toArray⟩) (ht : t = ⟨(Lib.itoa x.f1).toArray⟩) (hs : s = K ++ (⟨#[32]⟩ : ByteArray) ++ t) :
    findT x = s.data.toList ++ (⟨#[10]⟩ : ByteArray).data.toList := by
  subst hs hK ht
  unfold findT
  rw [if_neg (by omega), if_neg h5]
  simp only [data_app, List.append_assoc]
  rfl
theorem find_no {x : S32} (h : x.f0 < 1 ∨ 6 < x.f0) : findT x = [] := by unfold findT; rw [if_pos h]
theorem step_meas {j n : Nat} (h1 : j < n) (h2 : n ≤ 1000000000000) : n - (intOf (.int .i64 (wrap64 ((j : Int) + 1)))).toNat < n - (intOf (.int .i64 (j : Int))).toNat := by
  have e : wrap64 ((j : Int) + 1) = (j : Int) + 1 := by unfold wrap64; omega
  rw [e]; simp [intOf]; omega
theorem step_meas' {j n : Nat} (h1 : j < n) : n - (intOf (.int .i64 ((j : Int) + 1))).toNat < n - (intOf (.int .i64 (j : Int))).toNat := by
  simp [intOf]; omega
def T7 : Bool × List (List Nat × List Nat) := (true, [([], []), ([], []), ([1], [1]), ([0, 2], [0, 2]), ([3], [3]), ([4], [4]), ([], []), ([6], [6]), ([7], [7]), ([5, 8], [5, 8]), ([9, 8], [9])])
def B7 : List Nat := [0, 0, 2, 7, 15, 31, 0, 64, 192, 511, 1023]
theorem tab7 : rtab .any (opsOf Tryz.f4 7) = T7 := by kernel_rfl
theorem bits7 : waitsOk T7.2 B7 = true := by kernel_rfl
set_option maxHeartbeats 4000000 in
set_option maxRecDepth 100000 in
theorem watch_Text.calls (k : Nat) (A0 : Option Addr) (c0 : Nat) (l0 : List (S32)) (r : ByteArray) (w : World) (hr0 : Kd.C k32 w A0 l0.length l0) (hc0 : l0.length ≤ c0) (htab : TabW_ w) (h : watch_Text.f k l0 = some r) :
    Calls Tryz.prog 4 #[.slice A0 l0.length c0] w fun e w' => e = .returned (.string r) ∧ Below w.heap.size w w' := by
  unfold watch_Text.f at h
  by_cases hlen : l0.length ≤ 1000000000000
  case neg => rw [if_neg hlen] at h; cases h
  rw [if_pos hlen] at h
  by_cases hall : (l0.all fun x => isI64 x.f1 && isI64 x.f2) = true
  case neg => rw [if_neg hall] at h; cases h
  rw [if_pos hall] at h
  obtain rfl := Option.some.inj h
  clear h
  have hI : ∀ x ∈ l0, isI64 x.f1 = true ∧ isI64 x.f2 = true := fun x hx => by
    have := List.all_eq_true.1 hall x hx
    simpa using this
  have HI := Aside0.mk hI
  have HR0 := Aside0.mk hr0
  have HC0 := Aside0.mk hc0
  have HTAB := Aside0.mk htab
  have HL := Aside0.mk hlen
  clear hr0 hc0 htab hall hI hlen
  go_enter Tryz.func4, Tryz.ntmps4
  go_wp2
  go_loopw [10] (fun v10 W => ∃ j : Nat, j ≤ l0.length ∧ v10 = .int .i64 (j : Int) ∧ W.heap[w.heap.size]? = some (.cells #[.string ⟨#[]⟩, .string ⟨#[111, 112, 101, 110]⟩, .string ⟨#[116, 114, 101, 101]⟩, .string ⟨#[108, 105, 110, 107, 115]⟩, .string ⟨#[104, 116, 109, 108]⟩, .string ⟨#[97, 112, 97, 114, 116]⟩, .string ⟨#[116, 119, 111]⟩] 9 (0, 0)) ∧ Lib.IsBuilder 30 5 (w.heap.size + 1) (w.heap.size + 1) (Lib.byteCells (textT (l0.take j))) W ∧ Below w.heap.size w W) (fun v _ => l0.length - (intOf v).toNat)
  case atStart => exact ⟨0, Nat.zero_le _, rfl, blk_alloc (blk_new w _) _, start_b w theWords, below_alloc (below_alloc (Below.refl _ _) _) _⟩
  case round =>
    obtain ⟨j, hj, rfl, HW, HBu, HB⟩ := hrel
    by_cases hlt : j < l0.length
    · obtain ⟨ad, hA, x0, x1, x2⟩ := at_T32 HR0.out (j : Int) (by omega) (by omega)
      subst hA
      replace x0 := (HB.cell (World.block_lt_of_cell? w _ x0)).trans x0
      replace x1 := (HB.cell (World.block_lt_of_cell? w _ x1)).trans x1
      replace x2 := (HB.cell (World.block_lt_of_cell? w _ x2)).trans x2
      have HW := Aside0.mk HW
      have HBu := Aside0.mk HBu
      have HB := Aside0.mk HB
      simp only [Int.toNat_natCast] at x0 x1 x2
      generalize hX : rd_T32 l0 (j : Int) = X at x0 x1 x2
      by_cases c1 : X.f0 < 1
      · have d1 := decide_eq_true c1
        go_wp2
        have hG := gf_step hlt hX
        have hnw := below_alloc (Below.refl wr.heap.size wr) (.cells #[.int .i64 X.f0, .int .i64 X.f1, .int .i64 X.f2] 32)
        refine ⟨⟨j + 1, by omega, by first | rw [wrap_step hj hlt HL.out] | simp, blk_below HW.out hnw, ?_, below_step HB.out hnw⟩, by first | exact step_meas hlt HL.out | exact step_meas' hlt⟩
        rw [hG, find_no (.inl c1), List.append_nil]; exact isb_below HBu.out hnw
      · have d1 := decide_eq_false c1
        by_cases c2 : 6 < X.f0
        · have d2 := decide_eq_true c2
          go_wp2
          have hG := gf_step hlt hX
          have hnw := below_alloc (Below.refl wr.heap.size wr) (.cells #[.int .i64 X.f0, .int .i64 X.f1, .int .i64 X.f2] 32)
          refine ⟨⟨j + 1, by omega, by first | rw [wrap_step hj hlt HL.out] | simp, blk_below HW.out hnw, ?_, below_step HB.out hnw⟩, by first | exact step_meas hlt HL.out | exact step_meas' hlt⟩
          rw [hG, find_no (.inr c2), List.append_nil]; exact isb_below HBu.out hnw
        · have d2 := decide_eq_false c2
          have k0 : 0 ≤ X.f0 := by omega
          have k1 : X.f0 < 7 := by omega
          have c1' := c1
          have c2' := c2
          clear c1 c2
          go_wp2
          have hlb := isb_lt HBu.out
          have hnw := below_alloc (Below.refl wr.heap.size wr) (.cells #[.int .i64 X.f0, .int .i64 X.f1, .int .i64 X.f2] 32)
          have gF : (wr.alloc (.cells #[.int .i64 X.f0, .int .i64 X.f1, .int .i64 X.f2] 32)).heap[wr.heap.size]? = some (.cells #[.int .i64 X.f0, .int .i64 X.f1, .int .i64 X.f2] 32 (0, 0)) := blk_new _ _
          have gW := Aside0.mk (blk_below HW.out hnw)
          have gB := Aside0.mk (isb_below HBu.out hnw)
          have gL := Aside0.mk (below_step HB.out hnw)
          clear HW HBu HB hnw
          generalize hgf : wr.heap.size = gf at *
          generalize wr.alloc (.cells #[.int .i64 X.f0, .int .i64 X.f1, .int .i64 X.f2] 32) = W1 at *
          have Hwc : theWords[X.f0.toNat]? = some (.string ⟨(kindT X.f0).toArray⟩) := by
            have h6 : X.f0 = 1 ∨ X.f0 = 2 ∨ X.f0 = 3 ∨ X.f0 = 4 ∨ X.f0 = 5 ∨ X.f0 = 6 := by omega
            rcases h6 with h | h | h | h | h | h <;> rw [h] <;> rfl
          obtain ⟨hi1, hi2⟩ := HI.out X (by rw [← hX]; exact rd_mem hlt)
          obtain ⟨t, ht⟩ : ∃ t : ByteArray, t = ⟨(Lib.itoa X.f1).toArray⟩ := ⟨_, rfl⟩
          obtain ⟨K, hK⟩ : ∃ K : ByteArray, K = ⟨(kindT X.f0).toArray⟩ := ⟨_, rfl⟩
          have ts : t.size ≤ 21 := by rw [ht]; exact itoa_le _ hi1
          have Ks : K.size ≤ 5 := by rw [hK]; exact kindT_le _
          rw [← hK] at Hwc
          have gwc := word_of gW.out Hwc
          have e1 : (9223372036854775807 < K.size + 1) = False := eq_false (by omega)
          have e2 : (9223372036854775807 < K.size + 1 + t.size) = False := eq_false (by omega)
          have e3 : (9223372036854775807 < (K ++ (⟨#[32]⟩ : ByteArray)).size + t.size) = False := eq_false (by rw [ByteArray.size_append]; show ¬ 9223372036854775807 < K.size + 1 + t.size; omega)
          have Ht := Aside0.mk ht
          have HK := Aside0.mk hK
          have Hi1 := Aside0.mk hi1
          have Hi2 := Aside0.mk hi2
          clear ht hK hi1 hi2
          have p0 := eq_true k0
          have p1 := eq_true k1
          have p2 := decide_eq_true k0
          have p3 := decide_eq_true k1
          refine start_ (n := 11) (S := fun w' => w'.cell? ⟨gf, 0, none⟩ = some (.int .i64 X.f0) ∧ w'.cell? ⟨gf, 1, none⟩ = some (.int .i64 X.f1) ∧ w'.cell? ⟨gf, 2, none⟩ = some (.int .i64 X.f2) ∧ w'.cell? ⟨w.heap.size, X.f0.toNat, none⟩ = some (.string K)) (ds := []) #[false, false, false, false, false, false, false, false, false, false, false] (by kernel_rfl) rfl rfl ⟨(blk_cell gF 0).trans rfl, (blk_cell gF 1).trans rfl, (blk_cell gF 2).trans rfl, gwc⟩ (fun hHeld => ?_)
          refine with_tabW tab7 bits7 (fun HT_ HW_ => ?_)
          have gF2 := Aside0.mk (blk_drew gF)
          replace gW := Aside0.mk (blk_drew gW.out)
          have gB2 : Aside0 (Lib.IsBuilder 30 5 (w.heap.size + 1) (w.heap.size + 1) (Lib.byteCells (textT (List.take j l0))) W1.drew) := ⟨gB.out⟩
          have gL2 := Aside0.mk (below_drew1 gL.out)
          clear gB gL gF gwc
          generalize W1.drew = W2 at gF2 gW gB2 gL2 hHeld ⊢
          refine pure_ (i := 0) (N := some 22) (v := ?_) (a' := ?_) #[true, false, false, false, false, false, false, false, false, false, false] rfl rfl (any_of HT_.out (by kernel_rfl)) (fun _ _ _ h => h) (Or.inl ⟨by rfl, ?_⟩) ?_ ?_
          rotate_left
          · intro w'
            go_simp
            with_reducible rfl
          rotate_left
          · simp only [Act.put, List.setIfInBounds_toArray, List.set_cons_zero, List.set_cons_succ, i64_w, i32_w]
            rfl
          refine pure_ (i := 1) (N := some 23) (v := ?_) (a' := ?_) #[true, true, false, false, false, false, false, false, false, false, false] rfl rfl (any_of HT_.out (by kernel_rfl)) (fun _ _ _ h => h) (Or.inl ⟨by rfl, ?_⟩) ?_ ?_
          rotate_left
          · intro w'
            go_simp
            with_reducible rfl
          rotate_left
          · simp only [Act.put, List.setIfInBounds_toArray, List.set_cons_zero, List.set_cons_succ, i64_w, i32_w]
            rfl
          refine pure_ (i := 6) (N := some 28) (v := ?_) (a' := ?_) #[true, true, false, false, false, false, true, false, false, false, false] rfl rfl (any_of HT_.out (by kernel_rfl)) (fun _ _ _ h => h) (Or.inl ⟨by rfl, ?_⟩) ?_ ?_
          rotate_left
          · intro w'
            go_simp
            with_reducible rfl
          rotate_left
          · simp only [Act.put, List.setIfInBounds_toArray, List.set_cons_zero, List.set_cons_succ, i64_w, i32_w]
            rfl
          refine take_ (i := 2) (N := some 24) (v := ?_) (a' := ?_) #[true, true, true, false, false, false, true, false, false, false, false] rfl rfl (take_ofW HT_.out HW_.out (by kernel_rfl)) (fun _ _ _ h => h) (Or.inl ⟨by rfl, ?_⟩) hHeld ?_ ?_
          rotate_left
          · rintro w' ⟨s0, s1, s2, s3⟩
            go_simp
            with_reducible rfl
          rotate_left
          · simp only [Act.put, List.setIfInBounds_toArray, List.set_cons_zero, List.set_cons_succ, i64_w, i32_w]
            rfl
          refine pure_ (i := 3) (N := some 25) (v := ?_) (a' := ?_) #[true, true, true, true, false, false, true, false, false, false, false] rfl rfl (any_of HT_.out (by kernel_rfl)) (fun _ _ _ h => h) (Or.inl ⟨by rfl, ?_⟩) ?_ ?_
          rotate_left
          · intro w'
            go_simp
            with_reducible rfl
          rotate_left
          · simp only [Act.put, List.setIfInBounds_toArray, List.set_cons_zero, List.set_cons_succ, i64_w, i32_w]
            rfl
          refine take_ (i := 4) (N := some 26) (v := ?_) (a' := ?_) #[true, true, true, true, true, false, true, false, false, false, false] rfl rfl (take_ofW HT_.out HW_.out (by kernel_rfl)) (fun _ _ _ h => h) (Or.inl ⟨by rfl, ?_⟩) hHeld ?_ ?_
          rotate_left
          · rintro w' ⟨s0, s1, s2, s3⟩
            go_simp
            with_reducible rfl
          rotate_left
          · simp only [Act.put, List.setIfInBounds_toArray, List.set_cons_zero, List.set_cons_succ, i64_w, i32_w]
            rfl
          refine pure_ (i := 5) (N := some 27) (v := ?_) (a' := ?_) #[true, true, true, true, true, true, true, false, false, false, false] rfl rfl (any_of HT_.out (by kernel_rfl)) (fun _ _ _ h => h) (Or.inl ⟨by rfl, ?_⟩) ?_ ?_
          rotate_left
          · intro w'
            go_simp
            with_reducible rfl
          rotate_left
          · simp only [Act.put, List.setIfInBounds_toArray, List.set_cons_zero, List.set_cons_succ, i64_w, i32_w]
            rfl
          refine take_ (i := 7) (N := some 29) (v := ?_) (a' := ?_) #[true, true, true, true, true, true, true, true, false, false, false] rfl rfl (take_ofW HT_.out HW_.out (by kernel_rfl)) (fun _ _ _ h => h) (Or.inl ⟨by rfl, ?_⟩) hHeld ?_ ?_
          rotate_left
          · rintro w' ⟨s0, s1, s2, s3⟩
            go_simp
            with_reducible rfl
          rotate_left
          · simp only [Act.put, List.setIfInBounds_toArray, List.set_cons_zero, List.set_cons_succ, i64_w, i32_w]
            rfl
          refine one_ (i := 8) (N := some 30) #[true, true, true, true, true, true, true, true, true, false, false] rfl rfl (one_of HT_.out (by kernel_rfl)) (by decide) (fun K_ hK => ?_)
          refine goes_ Tryz.func8 (by kernel_rfl) rfl #[.int .i64 X.f1] (by rfl) rfl rfl (by (try simp only [List.map_toArray, List.map_cons, List.map_nil]); first | done | rfl) ?_
          with_reducible refine (strconv_Itoa_8.calls X.f1 t _ (tabW_below_ HTAB.out gL2.out) (itoa_f Hi1.out Ht.out)).mono ?_
          rintro e W3 ⟨rfl, hb⟩
          have HS3_ := (hb.cell (World.block_lt_of_cell? _ _ (hHeld.2.2.2))).trans (hHeld.2.2.2)
          refine ⟨_, rfl, ?_⟩
          have gF3 := Aside0.mk (blk_below gF2.out hb)
          replace gW := Aside0.mk (blk_below gW.out hb)
          have gB3 := Aside0.mk (isb_below gB2.out hb)
          have gL3 := Aside0.mk (below_step gL2.out hb)
          clear gF2 gB2
          refine hK.out _ _ ⟨(blk_cell gF3.out 0).trans rfl, (blk_cell gF3.out 1).trans rfl, (blk_cell gF3.out 2).trans rfl, HS3_⟩ (fun hHeld => ?_)
          clear hK K_
          refine norm_ (a' := ?_) ?_ ?_
          rotate_left
          · show Act.put _ (some 30) _ = _
            simp only [Act.put, List.setIfInBounds_toArray, List.set_cons_zero, List.set_cons_succ, i64_w, i32_w]
            rfl
          refine pure_ (i := 9) (N := some 31) (v := ?_) (a' := ?_) #[true, true, true, true, true, true, true, true, true, true, false] rfl rfl (any_of HT_.out (by kernel_rfl)) (fun _ _ _ h => h) (Or.inl ⟨by rfl, ?_⟩) ?_ ?_
          rotate_left
          · intro w'
            go_simp
            with_reducible rfl
          rotate_left
          · simp only [Act.put, List.setIfInBounds_toArray, List.set_cons_zero, List.set_cons_succ, i64_w, i32_w]
            rfl
          obtain ⟨s9, hs9⟩ : ∃ s_ : ByteArray, s_ = K ++ (⟨#[32]⟩ : ByteArray) ++ t := ⟨_, rfl⟩
          rw [← hs9]
          have Hs9 := Aside0.mk hs9
          clear hs9
          refine one_ (i := 10) (N := some 32) #[true, true, true, true, true, true, true, true, true, true, true] rfl rfl (one_of HT_.out (by kernel_rfl)) (by decide) (fun K_ hK => ?_)
          clear e1 e2 e3 p0 p1 p2 p3
          have hsz := textT_le (List.take j l0) (fun x hx => HI.out x (List.mem_of_mem_take hx))
          rw [List.length_take] at hsz
          have hlb := isb_lt gB3.out
          have hl1 := HL.out
          refine goes_ Tryz.func7 (by kernel_rfl) rfl #[.pointer (some ⟨w.heap.size + 1, 0, none⟩), .string s9] (by rfl) rfl rfl (by (try simp only [List.map_toArray, List.map_cons, List.map_nil]); first | done | rfl) ?_
          refine (writeString (w.heap.size + 1) (w.heap.size + 1) _ s9 _ gB3.out ?b1 (Nat.le_of_lt hlb)).mono ?_
          case b1 =>
            rw [Hs9.out, ByteArray.size_append, ByteArray.size_append]
            show (List.map _ _).length + (K.size + 1 + t.size) ≤ _
            simp only [List.length_map]
            omega
          rintro e W4 ⟨rfl, hb4, hbl, hkt⟩
          have HS4_ := hkt _ _ _ (by omega) (by decide) gW.out
          have gF4 := Aside0.mk (hkt _ _ _ (by omega) (by decide) gF3.out)
          refine ⟨_, rfl, ?_⟩
          refine hK.out _ _ ⟨(blk_cell gF4.out 0).trans rfl, (blk_cell gF4.out 1).trans rfl, (blk_cell gF4.out 2).trans rfl, word_of HS4_ Hwc⟩ (fun hHeld => ?_)
          clear hK K_
          refine norm_ (a' := ?_) ?_ ?_
          rotate_left
          · show Act.put _ (some 32) _ = _
            simp only [Act.put, List.setIfInBounds_toArray, List.set_cons_zero, List.set_cons_succ, i64_w, i32_w]
            rfl
          refine done_ (done_of HT_.out (by kernel_rfl)) ?_
          clear HT_ HW_ hHeld
          have gW4 := Aside0.mk HS4_
          have gB4 : Aside0 (Lib.IsBuilder 30 5 (w.heap.size + 1) (w.heap.size + 1) (Lib.byteCells (textT (List.take j l0) ++ s9.data.toList)) W4) := ⟨.inr (by rw [← cells_app]; exact hb4)⟩
          have gL4 := Aside0.mk (gL3.out.trans (hbl.mono (Nat.le_succ _)))
          clear gW HS4_ hb4 hbl hkt gL3 gB3 gF3
          have z0 : W4.cell? ⟨gf, 0, none⟩ = some (.int .i64 X.f0) := (blk_cell gF4.out 0).trans rfl
          have z2 : W4.cell? ⟨gf, 2, none⟩ = some (.int .i64 X.f2) := (blk_cell gF4.out 2).trans rfl
          have s9s : s9.size ≤ 27 := by rw [Hs9.out, ByteArray.size_append, ByteArray.size_append]; show K.size + 1 + t.size ≤ 27; omega
          have hG := gf_step hlt hX
          by_cases c5 : 5 ≤ X.f0
          · have d5 := decide_eq_true c5
            obtain ⟨u, hu⟩ : ∃ u : ByteArray, u = ⟨(Lib.itoa X.f2).toArray⟩ := ⟨_, rfl⟩
            have us : u.size ≤ 21 := by rw [hu]; exact itoa_le _ Hi2.out
            have e1 : (9223372036854775807 < 1 + u.size) = False := eq_false (by omega)
            have Hu := Aside0.mk hu
            clear hu
            have l4 : (textT (List.take j l0) ++ s9.data.toList).length ≤ 64000000000100 := by rw [List.length_append]; show _ + s9.size ≤ _; omega
            have l5 : (textT (List.take j l0) ++ s9.data.toList ++ ((⟨#[32]⟩ : ByteArray) ++ u).data.toList).length ≤ 64000000000200 := by
              rw [List.length_append]; show _ + ((⟨#[32]⟩ : ByteArray) ++ u).size ≤ _; rw [ByteArray.size_append]; show _ + (1 + u.size) ≤ _; omega
            have su : ((⟨#[32]⟩ : ByteArray) ++ u).size ≤ 100 := by rw [ByteArray.size_append]; show 1 + u.size ≤ _; omega
            go_wp2_with (first
              | (go_at_call 8; (with_reducible refine (strconv_Itoa_8.calls X.f2 u _ (tabW_below_ HTAB.out gL4.out) (itoa_f Hi2.out Hu.out)).mono ?_); rintro e W5 ⟨rfl, hb⟩; have gW5 := Aside0.mk (blk_below gW4.out hb); have gB5 := Aside0.mk (isb_below gB4.out hb); have gL5 := Aside0.mk (below_step gL4.out hb); clear hb)
              | (go_at_call 7; (with_reducible refine (writeString (w.heap.size + 1) (w.heap.size + 1) _ ((⟨#[32]⟩ : ByteArray) ++ u) _ gB5.out (len_ok (by omega) su) (Nat.le_of_lt (isb_lt gB5.out))).mono ?_); rintro e W6 ⟨rfl, hb, hbl, hkt⟩; have gW6 := Aside0.mk (hkt _ _ _ (by omega) (by decide) gW5.out); have gB6 := Aside0.mk (isb_app rfl hb); have gL6 := Aside0.mk (gL5.out.trans (hbl.mono (Nat.le_succ _))); clear hb hbl hkt)
              | (go_at_call 7; (with_reducible refine (writeString (w.heap.size + 1) (w.heap.size + 1) _ ⟨#[10]⟩ _ gB6.out (len_ok (by omega) (by decide)) (Nat.le_of_lt (isb_lt gB6.out))).mono ?_); rintro e W7 ⟨rfl, hb, hbl, hkt⟩; have gW7 := Aside0.mk (hkt _ _ _ (by omega) (by decide) gW6.out); have gB7 := Aside0.mk (isb_app rfl hb); have gL7 := Aside0.mk (gL6.out.trans (hbl.mono (Nat.le_succ _))); clear hb hbl hkt))
            refine ⟨⟨j + 1, by omega, by first | rw [wrap_step hj hlt HL.out] | simp, gW7.out, ?_, gL7.out⟩, by first | exact step_meas hlt HL.out | exact step_meas' hlt⟩
            rw [hG, find_hi (by omega) (by omega) c5 HK.out Ht.out Hu.out Hs9.out, ← List.append_assoc, ← List.append_assoc]; exact gB7.out
          · have d5 := decide_eq_false c5
            have l4 : (textT (List.take j l0) ++ s9.data.toList).length ≤ 64000000000100 := by rw [List.length_append]; show _ + s9.size ≤ _; omega
            go_wp2_with (go_at_call 7; (with_reducible refine (writeString (w.heap.size + 1) (w.heap.size + 1) _ ⟨#[10]⟩ _ gB4.out (len_ok (by omega) (by decide)) (Nat.le_of_lt (isb_lt gB4.out))).mono ?_); rintro e W7 ⟨rfl, hb, hbl, hkt⟩; have gW7 := Aside0.mk (hkt _ _ _ (by omega) (by decide) gW4.out); have gB7 := Aside0.mk (isb_app rfl hb); have gL7 := Aside0.mk (gL4.out.trans (hbl.mono (Nat.le_succ _))); clear hb hbl hkt)
            refine ⟨⟨j + 1, by omega, by first | rw [wrap_step hj hlt HL.out] | simp, gW7.out, ?_, gL7.out⟩, by first | exact step_meas hlt HL.out | exact step_meas' hlt⟩
            rw [hG, find_lo (by omega) (by omega) (by omega) HK.out Ht.out Hs9.out, ← List.append_assoc]; exact gB7.out
    · obtain rfl : j = l0.length := by omega
      rw [List.take_length] at HBu
      go_wp2_with (go_at_call 9; (with_reducible refine (Tryz.Builder_String_any (w.heap.size + 1) (w.heap.size + 1) (textT l0) _ HBu (Nat.le_of_lt (isb_lt HBu))).mono ?_); rintro e W5 ⟨rfl, hb⟩)
      go_ret
      exact ⟨rfl, HB.trans (hb.mono (Nat.le_succ _))⟩
end


/-! ### topiaryref01_Digits: function 15 -/
def topiaryref01_Digits.l0 : Nat → Int → ByteArray → Option (ByteArray)
  | 0, _, _ => none
  | k + 1, x0, x3 => if x0 > 9 then ((some (([(wrap64 (48 + (Int.tmod (wrap64 (Int.tdiv x0 10)) 10))) % 256] : List Int) : List Int)).bind fun y104 => (if (strOfNums y104).size + x3.size ≤ 9223372036854775807 then (topiaryref01_Digits.l0 k (wrap64 (Int.tdiv x0 10)) ((strOfNums y104) ++ x3)) else (none))) else (some x3)
def topiaryref01_Digits.f (k : Nat) (a0 : Int) : Option (ByteArray) := topiaryref01_Digits.l0 k a0 (strOfNums (([(wrap64 (48 + (Int.tmod a0 10))) % 256] : List Int)))
theorem topiaryref01_Digits.mono_l : ∀ k, (∀ y0 y1, LeO (topiaryref01_Digits.l0 k y0 y1) (topiaryref01_Digits.l0 (k + 1) y0 y1))
  | 0 => fun _ _ r h => by simp [topiaryref01_Digits.l0] at h
  | k + 1 => by
    have ih0 := topiaryref01_Digits.mono_l k
    · intro y0 y1
      unfold topiaryref01_Digits.l0
      repeat' first
      | (with_reducible exact ih0 _ _)
      | (with_reducible exact LeO.refl _)
      | (with_reducible exact LeO.none _)
      | (with_reducible refine LeO.ite ?_ ?_)
      | (with_reducible refine LeO.bind ?_ (fun _ => ?_))
      | exact ih0 _ _
      | exact LeO.none _
      | refine LeO.ite ?_ ?_
      | refine LeO.bind ?_ (fun _ => ?_)
theorem topiaryref01_Digits.mono : ∀ a0 k, LeO (topiaryref01_Digits.f k a0) (topiaryref01_Digits.f (k + 1) a0) := by
  intro a0 k
  have ih0 := topiaryref01_Digits.mono_l k
  unfold topiaryref01_Digits.f
  repeat' first
      | (with_reducible exact ih0 _ _)
      | (with_reducible exact LeO.refl _)
      | (with_reducible exact LeO.none _)
      | (with_reducible refine LeO.ite ?_ ?_)
      | (with_reducible refine LeO.bind ?_ (fun _ => ?_))
      | exact ih0 _ _
      | exact LeO.none _
      | refine LeO.ite ?_ ?_
      | refine LeO.bind ?_ (fun _ => ?_)
set_option maxHeartbeats 8000000 in
set_option maxRecDepth 100000 in
theorem topiaryref01_Digits.calls (k : Nat) (a0 : Int) (r : ByteArray) (w : World) (h : topiaryref01_Digits.f k a0 = some r) :
    Calls Tryz.prog 15 #[.int .i64 a0] w fun e w' => e = .returned (.string r) ∧ Below w.heap.size w w' := by
  have HB := Aside0.mk (Below.refl w.heap.size w)
  have H : (topiaryref01_Digits.l0 k a0 (strOfNums (([(wrap64 (48 + (Int.tmod a0 10))) % 256] : List Int)))) = some r := h
  clear h
  obtain ⟨y101, hy101⟩ : ∃ y_ : List Int, y_ = (([(wrap64 (48 + (Int.tmod a0 10))) % 256] : List Int)) := ⟨_, rfl⟩
  replace H : (topiaryref01_Digits.l0 k a0 (strOfNums y101)) = some r := by first | (rw [hy101]; with_reducible exact H) | (have H2_ := (Option.bind_some _ _).symm.trans H; rw [hy101]; with_reducible exact H2_) | (have H2_ := (Option.bind_some _ _).symm.trans H; with_reducible exact H2_) | with_reducible exact H | (rw [hy101]; exact H) | exact H
  have Ny101 := Aside0.mk hy101
  clear hy101
  have H' := Aside0.mk H
  clear H
  go_enter Tryz.func15, Tryz.ntmps15
  go_wp2_with (first | ((with_reducible refine gate_dst (N := 8) rfl ?_); refine Kd.R_lit (Kd.int .u8) _ 5 ?hg (N := 8) ?hd (xs := ([(wrap64 (48 + (Int.tmod a0 10))) % 256] : List Int)) (inner := [.int .u8 ((wrap64 (48 + (Int.tmod a0 10))) % 256)]) (ok := fun _ => True) (okp := fun _ => True) ?hr ?hp (fun _ hk => hk) trivial (Below.refl _ _) (Nat.le_refl _) (by simp) ?_; (case hd => rfl); (case hg => rfl); (case hr => first | (go_simp; done) | (go_simp; rfl)); (case hp => exact (Reps.one (show Kd.M (Kd.int .u8) _ _ _ ((wrap64 (48 + (Int.tmod a0 10))) % 256) [.int .u8 ((wrap64 (48 + (Int.tmod a0 10))) % 256)] from rfl) (Reps.none _ _))); intro v102 w2 ho3 hb hg_ hnew_; clear hg_ hnew_; (first | rw [← Ny101.out] at ho3 | (simp only [Int.reduceToNat] at ho3; rw [← Ny101.out] at ho3)); have n0_ := Aside0.mk (Kd.R_lower ho3 (below_size (by repeat (first | (with_reducible first | exact HB.out | apply below_alloc | apply pw_below_drewN | apply below_drew1) | exact HB.out)))); have n1_ := Aside0.mk (below_step (by repeat (first | (with_reducible first | exact HB.out | apply below_alloc | apply pw_below_drewN | apply below_drew1) | exact HB.out)) hb); clear HB; have HO103 := n0_; have HB := n1_; clear n0_ n1_; clear hb ho3; have hcv4 := own_string (P := Tryz.prog) Tryz.underlying28 Tryz.underlying5 Tryz.underlying9 (Kd.own_of_R HO103.out)))
  go_loopg [0, 3] k (fun kq v0 v3 w' => ∃ (x0_1 : Int) (x3_1 : ByteArray), v0 = .int .i64 x0_1 ∧ v3 = .string x3_1 ∧ Aside0 (topiaryref01_Digits.l0 kq x0_1 x3_1 = some r) ∧ Aside0 (kq ≤ k) ∧ Aside0 (Below w.heap.size w w'))
  case atStart => exact ⟨(a0), (strOfNums y101), (by first | rfl | (simp; done) | (simp [*]; done)), (by first | rfl | (simp; done) | (simp [*]; done)), H', ⟨Nat.le_refl _⟩, ⟨by repeat (first | (with_reducible first | exact HB.out | apply below_alloc | apply pw_below_drewN | apply below_drew1) | exact HB.out)⟩⟩
  case round =>
    clear H'
    try clear c1
    try clear p2
    try clear hcv4
    obtain ⟨x0_1, x3_1, rfl, rfl, HA, HK1, HB⟩ := hrel
    cases gk with
    | zero => exact absurd HA.out (by simp [topiaryref01_Digits.l0])
    | succ k1 =>
      have H := HA.out
      clear HA
      simp only [topiaryref01_Digits.l0] at H
      by_cases c5 : x0_1 > 9
      · rw [if_pos c5] at H
        have c5b0 : decide (9 < x0_1) = true := decide_eq_true c5
        clear c5
        obtain ⟨y104, hy104⟩ : ∃ y_ : List Int, y_ = (([(wrap64 (48 + (Int.tmod (wrap64 (Int.tdiv x0_1 10)) 10))) % 256] : List Int)) := ⟨_, rfl⟩
        replace H : (if (strOfNums y104).size + x3_1.size ≤ 9223372036854775807 then (topiaryref01_Digits.l0 k1 (wrap64 (Int.tdiv x0_1 10)) ((strOfNums y104) ++ x3_1)) else (none)) = some r := by first | (rw [hy104]; with_reducible exact H) | (have H2_ := (Option.bind_some _ _).symm.trans H; rw [hy104]; with_reducible exact H2_) | (have H2_ := (Option.bind_some _ _).symm.trans H; with_reducible exact H2_) | with_reducible exact H | (rw [hy104]; exact H) | exact H
        have Ny104 := Aside0.mk hy104
        clear hy104
        by_cases c6 : (strOfNums y104).size + x3_1.size ≤ 9223372036854775807
        · rw [if_pos c6] at H
          have c6b0 := eq_true c6
          have c6b1 : decide ((strOfNums y104).size + x3_1.size ≤ 9223372036854775807) = true := decide_eq_true c6
          try have c6b2 : (9223372036854775807 < (strOfNums y104).size + x3_1.size) = False := eq_false (Nat.not_lt.2 c6)
          have H' := Aside0.mk H
          clear H
          go_wp2_with (first | ((with_reducible refine gate_dst (N := 18) rfl ?_); refine Kd.R_lit (Kd.int .u8) _ 5 ?hg (N := 18) ?hd (xs := ([(wrap64 (48 + (Int.tmod (wrap64 (Int.tdiv x0_1 10)) 10))) % 256] : List Int)) (inner := [.int .u8 ((wrap64 (48 + (Int.tmod (wrap64 (Int.tdiv x0_1 10)) 10))) % 256)]) (ok := fun _ => True) (okp := fun _ => True) ?hr ?hp (fun _ hk => hk) trivial (Below.refl _ _) (Nat.le_refl _) (by simp) ?_; (case hd => rfl); (case hg => rfl); (case hr => first | (go_simp; done) | (go_simp; rfl)); (case hp => exact (Reps.one (show Kd.M (Kd.int .u8) _ _ _ ((wrap64 (48 + (Int.tmod (wrap64 (Int.tdiv x0_1 10)) 10))) % 256) [.int .u8 ((wrap64 (48 + (Int.tmod (wrap64 (Int.tdiv x0_1 10)) 10))) % 256)] from rfl) (Reps.none _ _))); intro v105 w7 ho8 hb hg_ hnew_; clear hg_ hnew_; (first | rw [← Ny104.out] at ho8 | (simp only [Int.reduceToNat] at ho8; rw [← Ny104.out] at ho8)); have n0_ := Aside0.mk (Kd.R_lower ho8 (below_size (by repeat (first | (with_reducible first | exact HB.out | apply below_alloc | apply pw_below_drewN | apply below_drew1) | exact HB.out)))); have n1_ := Aside0.mk (below_step (by repeat (first | (with_reducible first | exact HB.out | apply below_alloc | apply pw_below_drewN | apply below_drew1) | exact HB.out)) hb); clear HB; have HO106 := n0_; have HB := n1_; clear n0_ n1_; clear hb ho8; have hcv9 := own_string (P := Tryz.prog) Tryz.underlying28 Tryz.underlying5 Tryz.underlying9 (Kd.own_of_R HO106.out)))
          go_roundg k1
          case measure => have := HK1.out; omega
          case rel => exact ⟨(wrap64 (Int.tdiv x0_1 10)), ((strOfNums y104) ++ x3_1), (by first | rfl | (simp; done) | (simp [*]; done)), (by first | rfl | (simp; done) | (simp [*]; done)), H', ⟨by have := HK1.out; omega⟩, ⟨by repeat (first | (with_reducible first | exact HB.out | apply below_alloc | apply pw_below_drewN | apply below_drew1) | exact HB.out)⟩⟩
        · rw [if_neg c6] at H
          exact absurd H (by simp)
      · rw [if_neg c5] at H
        have c5b0 : decide (9 < x0_1) = false := decide_eq_false c5
        clear c5
        obtain rfl := Option.some.inj H
        go_wp2
        go_ret
        exact ⟨by first | rfl | (simp [errW_none, errW_some] <;> rfl) | (simp [*, errW_none, errW_some] <;> rfl), by repeat (first | (with_reducible first | exact HB.out | apply below_alloc | apply pw_below_drewN | apply below_drew1) | exact HB.out)⟩

/-! ### topiaryref24_whole: function 10 -/
def topiaryref24_whole.l0 : Nat → Int → ByteArray → Option (ByteArray)
  | 0, _, _ => none
  | k + 1, x0, x3 => if x0 < 0 then ((topiaryref01_Digits.f k (wrap64 (-(Int.tmod x0 10)))).bind fun t108 => (if t108.size + x3.size ≤ 9223372036854775807 then (topiaryref24_whole.l0 k (wrap64 (Int.tdiv x0 10)) (t108 ++ x3)) else (none))) else (if 1 + x3.size ≤ 9223372036854775807 then (some ((⟨#[45]⟩ : ByteArray) ++ x3)) else (none))
def topiaryref24_whole.f (k : Nat) (a0 : Int) : Option (ByteArray) := if a0 ≥ 0 then ((topiaryref01_Digits.f k a0).bind fun t107 => (some t107)) else (topiaryref24_whole.l0 k a0 (⟨#[]⟩ : ByteArray))
theorem topiaryref24_whole.mono_l : ∀ k, (∀ y0 y1, LeO (topiaryref24_whole.l0 k y0 y1) (topiaryref24_whole.l0 (k + 1) y0 y1))
  | 0 => fun _ _ r h => by simp [topiaryref24_whole.l0] at h
  | k + 1 => by
    have ih0 := topiaryref24_whole.mono_l k
    · intro y0 y1
      unfold topiaryref24_whole.l0
      repeat' first
      | (with_reducible exact ih0 _ _)
      | (with_reducible exact topiaryref01_Digits.mono _ _)
      | (with_reducible exact LeO.refl _)
      | (with_reducible exact LeO.none _)
      | (with_reducible refine LeO.ite ?_ ?_)
      | (with_reducible refine LeO.bind ?_ (fun _ => ?_))
      | exact ih0 _ _
      | exact topiaryref01_Digits.mono _ _
      | exact LeO.none _
      | refine LeO.ite ?_ ?_
      | refine LeO.bind ?_ (fun _ => ?_)
theorem topiaryref24_whole.mono : ∀ a0 k, LeO (topiaryref24_whole.f k a0) (topiaryref24_whole.f (k + 1) a0) := by
  intro a0 k
  have ih0 := topiaryref24_whole.mono_l k
  unfold topiaryref24_whole.f
  repeat' first
      | (with_reducible exact ih0 _ _)
      | (with_reducible exact topiaryref01_Digits.mono _ _)
      | (with_reducible exact LeO.refl _)
      | (with_reducible exact LeO.none _)
      | (with_reducible refine LeO.ite ?_ ?_)
      | (with_reducible refine LeO.bind ?_ (fun _ => ?_))
      | exact ih0 _ _
      | exact topiaryref01_Digits.mono _ _
      | exact LeO.none _
      | refine LeO.ite ?_ ?_
      | refine LeO.bind ?_ (fun _ => ?_)
set_option maxHeartbeats 8000000 in
set_option maxRecDepth 100000 in
theorem topiaryref24_whole.calls (k : Nat) (a0 : Int) (r : ByteArray) (w : World) (h : topiaryref24_whole.f k a0 = some r) :
    Calls Tryz.prog 10 #[.int .i64 a0] w fun e w' => e = .returned (.string r) ∧ Below w.heap.size w w' := by
  have HB := Aside0.mk (Below.refl w.heap.size w)
  have H : (if a0 ≥ 0 then ((topiaryref01_Digits.f k a0).bind fun t107 => (some t107)) else (topiaryref24_whole.l0 k a0 (⟨#[]⟩ : ByteArray))) = some r := h
  clear h
  by_cases c2 : a0 ≥ 0
  · rw [if_pos c2] at H
    have c2b0 : decide (0 ≤ a0) = true := decide_eq_true c2
    clear c2
    replace H := Option.bind_eq_some_iff.mp H
    obtain ⟨t107, A30, H⟩ := H
    replace H : (some t107) = some r := H
    have A3 := Aside0.mk A30
    clear A30
    obtain rfl := Option.some.inj H
    go_enter Tryz.func10, Tryz.ntmps10
    go_wp2_with (first | ((with_reducible refine gate_callee (f := 15) rfl ?_); refine goesL_ (some 7) rfl rfl Tryz.func15 (by kernel_rfl) rfl #[.int .i64 a0] rfl (by (try simp only [List.map_toArray, List.map_cons, List.map_nil]); first | done | rfl | (simp only [List.length_drop, List.length_take]; rfl)) ?_; (with_reducible refine (topiaryref01_Digits.calls k a0 t107 _ A3.out).mono ?_); rintro e w4 ⟨rfl, hb⟩; refine ⟨_, rfl, ?_⟩; have n0_ := Aside0.mk (below_step (by repeat (first | (with_reducible first | exact HB.out | apply below_alloc | apply pw_below_drewN | apply below_drew1) | exact HB.out)) hb); clear HB; have HB := n0_; clear n0_; (try clear hb); (try clear hb2); (try clear hk); (try clear hi)))
    go_ret
    exact ⟨by first | rfl | (simp [errW_none, errW_some] <;> rfl) | (simp [*, errW_none, errW_some] <;> rfl), by repeat (first | (with_reducible first | exact HB.out | apply below_alloc | apply pw_below_drewN | apply below_drew1) | exact HB.out)⟩
  · rw [if_neg c2] at H
    have c2b0 : decide (0 ≤ a0) = false := decide_eq_false c2
    clear c2
    have H' := Aside0.mk H
    clear H
    go_enter Tryz.func10, Tryz.ntmps10
    go_wp2
    go_loopg [0, 3] k (fun kq v0 v3 w' => ∃ (x0_1 : Int) (x3_1 : ByteArray), v0 = .int .i64 x0_1 ∧ v3 = .string x3_1 ∧ Aside0 (topiaryref24_whole.l0 kq x0_1 x3_1 = some r) ∧ Aside0 (kq ≤ k) ∧ Aside0 (Below w.heap.size w w'))
    case atStart => exact ⟨(a0), ((⟨#[]⟩ : ByteArray)), (by first | rfl | (simp; done) | (simp [*]; done)), (by first | rfl | (simp; done) | (simp [*]; done)), H', ⟨Nat.le_refl _⟩, ⟨by repeat (first | (with_reducible first | exact HB.out | apply below_alloc | apply pw_below_drewN | apply below_drew1) | exact HB.out)⟩⟩
    case round =>
      clear H'
      try clear c1
      try clear c2
      try clear c2b0
      try clear p2
      obtain ⟨x0_1, x3_1, rfl, rfl, HA, HK1, HB⟩ := hrel
      cases gk with
      | zero => exact absurd HA.out (by simp [topiaryref24_whole.l0])
      | succ k1 =>
        have H := HA.out
        clear HA
        simp only [topiaryref24_whole.l0] at H
        by_cases c5 : x0_1 < 0
        · rw [if_pos c5] at H
          have c5b0 : decide (x0_1 < 0) = true := decide_eq_true c5
          clear c5
          replace H := Option.bind_eq_some_iff.mp H
          obtain ⟨t108, A60, H⟩ := H
          replace H : (if t108.size + x3_1.size ≤ 9223372036854775807 then (topiaryref24_whole.l0 k1 (wrap64 (Int.tdiv x0_1 10)) (t108 ++ x3_1)) else (none)) = some r := H
          have A6 := Aside0.mk A60
          clear A60
          by_cases c7 : t108.size + x3_1.size ≤ 9223372036854775807
          · rw [if_pos c7] at H
            have c7b0 := eq_true c7
            have c7b1 : decide (t108.size + x3_1.size ≤ 9223372036854775807) = true := decide_eq_true c7
            try have c7b2 : (9223372036854775807 < t108.size + x3_1.size) = False := eq_false (Nat.not_lt.2 c7)
            have H' := Aside0.mk H
            clear H
            go_wp2_with (first | ((with_reducible refine gate_callee (f := 15) rfl ?_); refine goesL_ (some 13) rfl rfl Tryz.func15 (by kernel_rfl) rfl #[.int .i64 (wrap64 (-(Int.tmod x0_1 10)))] rfl (by (try simp only [List.map_toArray, List.map_cons, List.map_nil]); first | done | rfl | (simp only [List.length_drop, List.length_take]; rfl)) ?_; (with_reducible refine (topiaryref01_Digits.calls k1 (wrap64 (-(Int.tmod x0_1 10))) t108 _ A6.out).mono ?_); rintro e w8 ⟨rfl, hb⟩; refine ⟨_, rfl, ?_⟩; have n0_ := Aside0.mk (below_step (by repeat (first | (with_reducible first | exact HB.out | apply below_alloc | apply pw_below_drewN | apply below_drew1) | exact HB.out)) hb); clear HB; have HB := n0_; clear n0_; (try clear hb); (try clear hb2); (try clear hk); (try clear hi)))
            go_roundg k1
            case measure => have := HK1.out; omega
            case rel => exact ⟨(wrap64 (Int.tdiv x0_1 10)), (t108 ++ x3_1), (by first | rfl | (simp; done) | (simp [*]; done)), (by first | rfl | (simp; done) | (simp [*]; done)), H', ⟨by have := HK1.out; omega⟩, ⟨by repeat (first | (with_reducible first | exact HB.out | apply below_alloc | apply pw_below_drewN | apply below_drew1) | exact HB.out)⟩⟩
          · rw [if_neg c7] at H
            exact absurd H (by simp)
        · rw [if_neg c5] at H
          have c5b0 : decide (x0_1 < 0) = false := decide_eq_false c5
          clear c5
          by_cases c9 : 1 + x3_1.size ≤ 9223372036854775807
          · rw [if_pos c9] at H
            have c9b0 := eq_true c9
            have c9b1 : decide (1 + x3_1.size ≤ 9223372036854775807) = true := decide_eq_true c9
            try have c9b2 : (9223372036854775807 < 1 + x3_1.size) = False := eq_false (Nat.not_lt.2 c9)
            obtain rfl := Option.some.inj H
            go_wp2
            go_ret
            exact ⟨by first | rfl | (simp [errW_none, errW_some] <;> rfl) | (simp [*, errW_none, errW_some] <;> rfl), by repeat (first | (with_reducible first | exact HB.out | apply below_alloc | apply pw_below_drewN | apply below_drew1) | exact HB.out)⟩
          · rw [if_neg c9] at H
            exact absurd H (by simp)

end Go.Proofs.YtjlimpnfoeeofaaGreatDoor.QWatchTexts
