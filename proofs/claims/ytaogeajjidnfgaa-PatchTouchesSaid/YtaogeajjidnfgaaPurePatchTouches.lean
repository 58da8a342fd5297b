/- the keys that any steps touch: the program and the document tell the same, for all steps. -/
import Derived.Test.YtaogeajjidnfgaaQPatchTouchesx
namespace Go.Proofs.Ytaogeajjidnfgaa.PurePatchTouches
open Go.RowKit Go.Proofs.Ytaogeajjidnfgaa.QPatchTouches Go.Proofs.YtaogeajjidnfgaaW.PrintWords Go.Proofs.YtaogeajjidnfgaaW.PrintLast
set_option linter.unusedVariables false
set_option linter.unusedSimpArgs false
theorem eqS (x y : S23) : ((x.f0 == y.f0) && (x.f1 == y.f1)) = decide (x = y) := by
  obtain ⟨a, b⟩ := x
  obtain ⟨c, d⟩ := y
  by_cases h1 : a = c <;> by_cases h2 : b = d <;> simp [h1, h2]
theorem neS (x y : S23) : (!(x.f0 == y.f0) || (!(x.f1 == y.f1))) = !decide (x = y) := by
  rw [← Bool.not_and, eqS]
theorem rd_S (x : List S23) (i : Nat) (h : i < x.length) : rd_T23 x (i : Int) = x[i] := by
  simp [rd_T23, List.getD_eq_getElem?_getD, h]
theorem wrapS {i n : Nat} (h : i < n) (hn : n < 8796093022208) : wrap64 ((i : Int) + 1) = ((i + 1 : Nat) : Int) := by
  unfold wrap64; omega
theorem has_l0 (l : List S23) (hl : l.length < 8796093022208) (x : S23) (d : Nat) : ∀ (k i : Nat), i ≤ l.length → l.length - i = d → d < k → topiaryref01_Has.l0 k l (i : Int) x.f0 x.f1 = some (decide (x ∈ l.drop i)) := by
  induction d with
  | zero =>
    intro k i hi hd hk
    obtain ⟨k, rfl⟩ : ∃ m, k = m + 1 := ⟨k - 1, by omega⟩
    simp only [topiaryref01_Has.l0]
    rw [if_neg (by omega), List.drop_eq_nil_of_le (by omega)]; simp
  | succ d ih =>
    intro k i hi hd hk
    obtain ⟨k, rfl⟩ : ∃ m, k = m + 1 := ⟨k - 1, by omega⟩
    have hlt : i < l.length := by omega
    simp only [topiaryref01_Has.l0]
    rw [if_pos (by omega), if_pos (by omega), rd_S l i hlt, wrapS hlt hl, ih k (i + 1) (by omega) (by omega) (by omega), eqS]
    have hd2 : l.drop i = l[i] :: l.drop (i + 1) := List.drop_eq_getElem_cons hlt
    generalize l[i] = y at hd2 ⊢
    generalize l.drop (i + 1) = r at hd2 ⊢
    rw [hd2]
    by_cases e : y = x
    · subst e; simp
    · have e' : ¬ x = y := fun h => e h.symm
      simp [e, e']
theorem has_f (l : List S23) (hl : l.length < 8796093022208) (x : S23) (k : Nat) (hk : l.length < k) : topiaryref01_Has.f k l x.f0 x.f1 = some (decide (x ∈ l)) := by
  unfold topiaryref01_Has.f
  have := has_l0 l hl x l.length k 0 (by omega) (by omega) hk
  simpa using this
theorem less_S (x y : S23) : topiaryref01_Less.f x.f0 x.f1 y.f0 y.f1 = some (decide (ltS x y)) := by
  unfold topiaryref01_Less.f ltS
  by_cases h1 : x.f0 < y.f0 <;> by_cases h2 : x.f0 = y.f0 <;> simp [h1, h2]
/-- A stamp's place among such as are not it. -/
def insS (x : S23) : List S23 → List S23
  | [] => [x]
  | y :: r => if ltS x y then x :: y :: r else y :: insS x r
theorem putS_ins (x : S23) : ∀ l, x ∉ l → putS x l = insS x l
  | [], _ => rfl
  | y :: r, h => by
    unfold putS insS
    rw [if_neg (fun e => h (by rw [e]; simp)), putS_ins x r (fun m => h (by simp [m]))]
theorem putS_mem (x : S23) : ∀ l, Rises l → x ∈ l → putS x l = l
  | [], _, h => by cases h
  | y :: r, hr, h => by
    unfold putS
    by_cases e : x = y
    · rw [if_pos e]
    · have hr' := List.pairwise_cons.1 hr
      have hm : x ∈ r := by rcases List.mem_cons.1 h with h | h; exact absurd h e; exact h
      rw [if_neg e, if_neg (fun k => ltS_irrefl x (ltS_trans k (hr'.1 x hm))), putS_mem x r hr'.2 hm]
theorem put_done (l : List S23) (x : S23) (hl : l.length < 8796093022207) (d : Nat) : ∀ (k i : Nat) (out : List S23), i ≤ l.length → l.length - i = d → d < k → out.length ≤ i + 1 →
    topiaryref01_Put.l0 k l out true (i : Int) x.f0 x.f1 = some (out ++ l.drop i) := by
  induction d with
  | zero =>
    intro k i out hi hd hk ho
    obtain ⟨k, rfl⟩ : ∃ m, k = m + 1 := ⟨k - 1, by omega⟩
    simp only [topiaryref01_Put.l0]
    rw [if_neg (by omega), List.drop_eq_nil_of_le (by omega)]; simp
  | succ d ih =>
    intro k i out hi hd hk ho
    obtain ⟨k, rfl⟩ : ∃ m, k = m + 1 := ⟨k - 1, by omega⟩
    have hlt : i < l.length := by omega
    simp only [topiaryref01_Put.l0, if_true]
    rw [if_pos (by omega), if_pos (by omega), if_pos (by omega), rd_S l i hlt, wrapS hlt (by omega), ih k (i + 1) _ (by omega) (by omega) (by omega) (by simp; omega), List.append_assoc]
    have hd2 : l.drop i = l[i] :: l.drop (i + 1) := List.drop_eq_getElem_cons hlt
    rw [hd2]
    rfl
theorem put_l0 (l : List S23) (x : S23) (hl : l.length < 8796093022207) (d : Nat) : ∀ (k i : Nat) (out : List S23), i ≤ l.length → l.length - i = d → d < k → out.length ≤ i →
    topiaryref01_Put.l0 k l out false (i : Int) x.f0 x.f1 = some (out ++ insS x (l.drop i)) := by
  induction d with
  | zero =>
    intro k i out hi hd hk ho
    obtain ⟨k, rfl⟩ : ∃ m, k = m + 1 := ⟨k - 1, by omega⟩
    simp only [topiaryref01_Put.l0, Bool.false_eq_true, if_false]
    rw [if_neg (by omega), if_pos (by omega), List.drop_eq_nil_of_le (by omega)]; rfl
  | succ d ih =>
    intro k i out hi hd hk ho
    obtain ⟨k, rfl⟩ : ∃ m, k = m + 1 := ⟨k - 1, by omega⟩
    have hlt : i < l.length := by omega
    simp only [topiaryref01_Put.l0, Bool.false_eq_true, if_false]
    rw [if_pos (by omega), if_pos (by omega), rd_S l i hlt, less_S, wrapS hlt (by omega), List.drop_eq_getElem_cons hlt]
    simp only [Option.bind_some, decide_eq_true_eq, insS]
    by_cases h : ltS x l[i]
    · rw [if_pos h, if_pos (by omega), if_pos (by simp; omega), put_done l x hl d k (i + 1) _ (by omega) (by omega) (by omega) (by simp; omega), if_pos h, List.append_assoc, List.append_assoc]
      rfl
    · rw [if_neg h, if_pos (by omega), ih k (i + 1) _ (by omega) (by omega) (by omega) (by simp; omega), if_neg h]
      simp
theorem put_f (l : List S23) (x : S23) (hr : Rises l) (hl : l.length < 8796093022207) (k : Nat) (hk : l.length < k) : topiaryref01_Put.f k l x.f0 x.f1 = some (putS x l) := by
  unfold topiaryref01_Put.f
  rw [has_f l (by omega) x k hk]
  simp only [Option.bind_some, decide_eq_true_eq]
  by_cases h : x ∈ l
  · rw [if_pos h, putS_mem x l hr h]
  · rw [if_neg h, putS_ins x l h]
    have := put_l0 l x hl l.length k 0 [] (by omega) (by omega) hk (by simp)
    simpa using this

theorem same_l0 (l : List S23) (hl : l.length < 8796093022208) (d : Nat) : ∀ (k i : Nat), i ≤ l.length → l.length - i = d → d < k → topiaryref01_Same.l0 k l l (i : Int) = some true := by
  induction d with
  | zero =>
    intro k i hi hd hk
    obtain ⟨k, rfl⟩ : ∃ m, k = m + 1 := ⟨k - 1, by omega⟩
    simp only [topiaryref01_Same.l0]
    rw [if_neg (by omega)]
  | succ d ih =>
    intro k i hi hd hk
    obtain ⟨k, rfl⟩ : ∃ m, k = m + 1 := ⟨k - 1, by omega⟩
    have hlt : i < l.length := by omega
    simp only [topiaryref01_Same.l0]
    rw [if_pos (by omega), if_pos (by omega), if_pos (by omega), neS, wrapS hlt hl, ih k (i + 1) (by omega) (by omega) (by omega)]
    simp
theorem same_f (l : List S23) (hl : l.length < 8796093022208) (k : Nat) (hk : l.length < k) : topiaryref01_Same.f k l l = some true := by
  unfold topiaryref01_Same.f
  rw [if_pos rfl]
  exact same_l0 l hl l.length k 0 (by omega) (by omega) hk

/-! the keys that any steps touch -/
theorem rd_P (x : List S25) (i : Nat) (h : i < x.length) : rd_T25 x (i : Int) = x[i] := by
  simp [rd_T25, List.getD_eq_getElem?_getD, h]
theorem touched_l0 (l : List S25) (hl : l.length < 8796093022207) : ∀ (d i k : Nat) (a : List S23), i + d = l.length → d < k → a.length = i →
    patch_Touched.l0 k a l (l.length : Int) (i : Int) = some (srtS (a ++ (l.drop i).map (·.f1)))
  | d, i, 0, a, hi, hk, ha => by omega
  | 0, i, k + 1, a, hi, hk, ha => by
    simp only [patch_Touched.l0]
    rw [if_neg (by omega), List.drop_eq_nil_of_le (by omega)]
    unfold ident_Sort.f
    rw [if_pos (by omega)]
    simp
  | d + 1, i, k + 1, a, hi, hk, ha => by
    have hlt : i < l.length := by omega
    simp only [patch_Touched.l0]
    rw [if_pos (by omega), if_pos (by omega), if_pos (by omega), if_pos (by omega), rd_P l i hlt, wrapS hlt (by omega), touched_l0 l hl d (i + 1) k _ (by omega) (by omega) (by simp [ha]), List.drop_eq_getElem_cons hlt, List.map_cons, List.append_assoc]
    rfl
theorem rtouched_l0 (l : List S25) (hl : l.length < 8796093022207) : ∀ (d i k : Nat) (a : List S23), i + d = l.length → l.length + d < k → Rises a → a.length ≤ i →
    topiaryref17_Touched.l0 k l a (i : Int) = some (((l.drop i).map (·.f1)).foldl (fun a x => putS x a) a)
  | d, i, 0, a, hi, hk, hr, ha => by omega
  | 0, i, k + 1, a, hi, hk, hr, ha => by
    simp only [topiaryref17_Touched.l0]
    rw [if_neg (by omega), List.drop_eq_nil_of_le (by omega)]; rfl
  | d + 1, i, k + 1, a, hi, hk, hr, ha => by
    have hlt : i < l.length := by omega
    simp only [topiaryref17_Touched.l0]
    rw [if_pos (by omega), if_pos (by omega), rd_P l i hlt, put_f a l[i].f1 hr (by omega) k (by omega)]
    simp only [Option.bind_some]
    rw [wrapS hlt (by omega), rtouched_l0 l hl d (i + 1) k _ (by omega) (by omega) (rises_putS _ _ hr) (by have := length_putS l[i].f1 a; omega), List.drop_eq_getElem_cons hlt]
    rfl
/-! the law -/
theorem law (l : List S25) (hl : l.length < 8796093022207) : Ev (fun k => topiarylaw17_PatchTouches.f k l) true := by
  have hs : (srtS (l.map (·.f1))).length < 8796093022208 := by have := length_srtS (l.map (·.f1)); simp at this; omega
  unfold topiarylaw17_PatchTouches.f
  refine Ev.bind (show Ev (fun k => patch_Touched.f k l) (srtS (l.map (·.f1))) from ⟨l.length + 1, fun k hk => by have := touched_l0 l hl l.length 0 k [] (by omega) (by omega) rfl; simpa [patch_Touched.f] using this⟩) ?_
  refine Ev.bind (show Ev (fun k => topiaryref17_Touched.f k l) (srtS (l.map (·.f1))) from ⟨2 * l.length + 1, fun k hk => by have := rtouched_l0 l hl l.length 0 k [] (by omega) (by omega) List.Pairwise.nil (by simp); simpa [topiaryref17_Touched.f, srtS] using this⟩) ?_
  refine Ev.bind (show Ev (fun k => topiaryref01_Same.f k _ _) true from ⟨(srtS (l.map (·.f1))).length + 1, fun k hk => same_f _ hs k (by omega)⟩) ?_
  simp only [if_true]
  exact ⟨0, fun k hk => rfl⟩

end Go.Proofs.Ytaogeajjidnfgaa.PurePatchTouches
