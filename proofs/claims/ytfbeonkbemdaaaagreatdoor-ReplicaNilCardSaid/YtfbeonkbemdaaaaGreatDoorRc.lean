/- A run by evaluation: a program run on a table of blocks; what it does there it does in every world. Third part. -/
import Derived.Test.YtfbeonkbemdaaaaGreatDoorRb
import Derived.AtR
import Derived.RangeFuncIn
import Derived.Laws.Externs
namespace Go.Run
open Go Go.RowKit
set_option linter.unusedVariables false
set_option linter.unusedSimpArgs false
/-! temporaries -/
theorem nth_chunk : ∀ (n : Nat) (l : List Value) (k : Nat), nth (chunk n l) k = if k < n then some ((l.drop (8 * k)).take 8) else none
  | 0, l, k => by simp [chunk, nth]
  | n + 1, l, 0 => by simp [chunk, nth]
  | n + 1, l, k + 1 => by
    simp only [chunk, nth, nth_chunk n (l.drop 8) k, List.drop_drop]
    rw [show 8 + 8 * k = 8 * (k + 1) by omega]
    by_cases h : k < n
    · rw [if_pos h, if_pos (by omega)]
    · rw [if_neg h, if_neg (by omega)]
theorem chunk_flat : ∀ (n : Nat) (l : List Value), l.length ≤ 8 * n → (chunk n l).flatten = l
  | 0, l, h => by
    have : l = [] := List.eq_nil_of_length_eq_zero (by omega)
    subst this; rfl
  | n + 1, l, h => by
    simp only [chunk, List.flatten_cons, chunk_flat n (l.drop 8) (by simp; omega), List.take_append_drop]
theorem get_chunk {n : Nat} {l : List Value} (hl : l.length ≤ 8 * n) (i : Nat) : Tm.get (chunk n l) i = (l[i]?).getD undef := by
  unfold Tm.get
  rw [nth_chunk]
  by_cases h : i / 8 < n
  · rw [if_pos h]
    simp only [nth_get, List.getElem?_take, List.getElem?_drop]
    rw [if_pos (Nat.mod_lt _ (by omega)), show 8 * (i / 8) + i % 8 = i by omega]
    cases l[i]? <;> rfl
  · rw [if_neg h]
    have : l[i]? = none := List.getElem?_eq_none (by omega)
    rw [this]; rfl
theorem setN_eq {α : Type} : ∀ (l : List α) (i : Nat) (v : α), setN l i v = l.set i v
  | [], i, v => by cases i <;> rfl
  | a :: l, 0, v => rfl
  | a :: l, i + 1, v => by simp [setN, setN_eq l i v]
theorem set_take_drop (l : List Value) (k j : Nat) (v : Value) (hj : j < 8) : ((l.set (8 * k + j) v).drop (8 * k)).take 8 = ((l.drop (8 * k)).take 8).set j v := by
  apply List.ext_getElem?
  intro i
  simp only [List.getElem?_take, List.getElem?_drop, List.getElem?_set, List.length_take, List.length_drop]
  by_cases h8 : i < 8
  · simp only [h8, if_true]
    by_cases e : j = i
    · subst e
      simp only [if_true]
      by_cases hl : 8 * k + j < l.length
      · rw [if_pos hl, if_pos (by omega)]
      · rw [if_neg hl, if_neg (by omega)]
    · rw [if_neg (by omega), if_neg e]
  · simp only [h8, if_false]
    by_cases e : j = i
    · omega
    · rw [if_neg e]
theorem chunk_set : ∀ (n : Nat) (l : List Value) (k j : Nat) (v : Value), k < n → j < 8 → List.set (α := List Value) (chunk n l) k (((l.drop (8 * k)).take 8).set j v) = chunk n (l.set (8 * k + j) v)
  | 0, _, _, _, _, h, _ => by omega
  | n + 1, l, 0, j, v, _, hj => by
    have h1 := set_take_drop l 0 j v hj
    simp only [Nat.mul_zero, Nat.zero_add, List.drop_zero] at h1
    simp only [chunk, Nat.mul_zero, Nat.zero_add, List.drop_zero, List.set_cons_zero, h1]
    have : (l.set j v).drop 8 = l.drop 8 := by rw [List.drop_set]; simp [hj]
    rw [this]
  | n + 1, l, k + 1, j, v, h, hj => by
    have ih := chunk_set n (l.drop 8) k j v (by omega) hj
    have e1 : (l.set (8 * (k + 1) + j) v).take 8 = l.take 8 := List.take_set_of_le (by omega)
    have e2 : (l.set (8 * (k + 1) + j) v).drop 8 = (l.drop 8).set (8 * k + j) v := by
      rw [List.drop_set, if_neg (by omega)]; congr 1; omega
    simp only [chunk, List.set_cons_succ, e1, e2]
    rw [← ih, List.drop_drop, show 8 + 8 * k = 8 * (k + 1) by omega]
theorem set_chunk {n : Nat} {l : List Value} (hl : l.length ≤ 8 * n) (i : Nat) (v : Value) : Tm.set (chunk n l) i v = chunk n (l.set i v) := by
  unfold Tm.set
  rw [nth_chunk]
  by_cases h : i / 8 < n
  · rw [if_pos h]
    simp only [setN_eq]
    rw [chunk_set n l (i / 8) (i % 8) v h (Nat.mod_lt _ (by omega)), show 8 * (i / 8) + i % 8 = i by omega]
  · rw [if_neg h]
    simp only
    rw [List.set_eq_of_length_le (by omega)]
/-- Temporaries, told by a list. -/
structure TmL (n : Nat) (t : Tm) (l : List Value) : Prop where
  ex : ∃ m, t = chunk m l ∧ l.length ≤ 8 * m
  bd : bds n l
theorem TmL.get {n : Nat} {t : Tm} {l : List Value} (h : TmL n t l) (i : Nat) : t.get i = (l[i]?).getD undef := by
  obtain ⟨m, rfl, hl⟩ := h.ex
  exact get_chunk hl i
theorem TmL.set {n : Nat} {t : Tm} {l : List Value} (h : TmL n t l) (i : Nat) {v : Value} (hv : Run.bd n v) : TmL n (t.set i v) (l.set i v) := by
  obtain ⟨m, rfl, hl⟩ := h.ex
  refine ⟨⟨m, set_chunk hl i v, by simpa using hl⟩, ?_⟩
  rw [bds_iff]
  intro x hx
  rcases List.mem_or_eq_of_mem_set hx with hx | rfl
  · exact bds_iff.1 h.bd x hx
  · exact hv
theorem TmL.mono {n m : Nat} {t : Tm} {l : List Value} (h : TmL n t l) (hm : n ≤ m) : TmL m t l := ⟨h.ex, bds_mono hm _ h.bd⟩
theorem TmL.flat {n : Nat} {t : Tm} {l : List Value} (h : TmL n t l) : t.flatten = l := by
  obtain ⟨m, rfl, hl⟩ := h.ex
  exact chunk_flat m l hl
def lset (l : List Value) : Option Tmp → Value → List Value | some i, v => l.set i v | none, _ => l
theorem TmL.setT {n : Nat} {t : Tm} {l : List Value} (h : TmL n t l) (d : Option Tmp) {v : Value} (hv : Run.bd n v) : TmL n (setT t d v) (lset l d v) := by
  cases d with
  | none => exact h
  | some i => exact h.set i hv
theorem vs_lset (ρ : Rn) (l : List Value) (d : Option Tmp) (v : Value) (D : List Deferred) : (⟨⟨ρ.vs (lset l d v)⟩, D⟩ : Act) = (⟨⟨ρ.vs l⟩, D⟩ : Act).put d (ρ.v v) := by
  cases d with
  | none => rfl
  | some i => simp [lset, Act.put, Rn.vs_map, List.map_set]
theorem TmL.bdget {n : Nat} {t : Tm} {l : List Value} (h : TmL n t l) (i : Nat) : Run.bd n (t.get i) := by
  rw [h.get i]
  cases hi : l[i]? with
  | none => exact bd_undef n
  | some v => exact bds_get h.bd hi
theorem TmL.eval {n : Nat} {t : Tm} {l : List Value} (h : TmL n t l) (ρ : Rn) (D : List Deferred) : EvOk ρ n (⟨⟨ρ.vs l⟩, D⟩ : Act).eval (evl t) := by
  intro x hx
  cases x with
  | tmp i =>
    refine ⟨?_, h.bdget i⟩
    show (⟨ρ.vs l⟩ : Array Value).getD i undef = ρ.v (t.get i)
    rw [h.get i]
    cases hi : l[i]? with
    | none => simp [Rn.vs_get, hi, undef_v]
    | some v => simp [Rn.vs_get, hi]
  | const v =>
    obtain ⟨h1, h2⟩ := plain_v ρ n (v := v) hx
    exact ⟨h1.symm, h2⟩
  | global g => cases hx
  | func f => exact ⟨by simp [Act.eval, evl, Rn.v, Rn.fn, Rn.vs], by simp [evl, Run.bd, bds]⟩
/-! guards -/
theorem yld_eq {n : Nat} {t : Tm} {l : List Value} (h : TmL n t l) (ρ : Rn) (ops : List Oper) (j : Nat) : yielded ⟨ops⟩ ⟨ρ.vs l⟩ j = yldO t (nth ops j) := by
  unfold yielded yldO
  rw [nth_get]
  cases ho : ops[j]? with
  | none => simp [ho]
  | some o =>
    simp only [List.getElem?_toArray, ho, Option.bind_some]
    cases hd : o.dst with
    | none => simp
    | some i =>
      simp only [Option.bind_some, List.getElem?_toArray, Rn.vs_get, h.get i]
      cases hi : l[i]? with
      | none => simp [undef]
      | some v =>
        simp only [Option.map_some, Option.getD_some]
        cases v with
        | pointer a => cases a <;> simp [Rn.v]
        | slice a m c => cases a <;> simp [Rn.v]
        | map a => cases a <;> simp [Rn.v]
        | agg cs => cases cs; simp [Rn.v]
        | tuple cs => cases cs; simp [Rn.v]
        | func f a b => cases a; cases b; simp [Rn.v]
        | chan r => rcases chan_v ρ r with ⟨s, e⟩ | ⟨z, e⟩ | e <;> simp [e]
        | _ => simp [Rn.v]
theorem want_eq {n : Nat} {t : Tm} {l : List Value} (h : TmL n t l) (ρ : Rn) (ops : List Oper) (o : Oper) : Region.wanted o (yielded ⟨ops⟩ ⟨ρ.vs l⟩) = want ops o t := by
  unfold Region.wanted want
  cases o.guard with
  | none => rfl
  | some g =>
    obtain ⟨j, b⟩ := g
    simp only [yld_eq h ρ ops j]
    cases yldO t (nth ops j) with
    | none => cases b <;> rfl
    | some q => cases q <;> cases b <;> rfl
/-! operations that change nothing -/
section
variable {P : Program} {w0 : Base} {w w' : World} {ρ : Rn} {h : H}
theorem Q.pure {s : Sem Value} {v : Value} (hs : s.run P w = .ok v w) : (do Pure.pure (Next.value (← s)) : Sem Next).run P w = .ok (.value v) w := by simp [hs]
theorem quiet_sound {C : Cfg} (hC : CfgOk P C) (R : Rel P w0 ρ h w) {E e : Operand → Value} (hE : EvOk ρ h.n E e) {o : Oper} {nx : Nx} (hq : quiet o.op = true) (ho : opK P C e o.op h = some nx) :
    ∃ v, nx = .val v h ∧ (execOp E o).run P w = .ok (.value (ρ.v v)) w ∧ bd h.n v := by
  unfold opK at ho
  cases hok : okOps o.op with
  | false => rw [hok] at ho; cases ho
  | true =>
    rw [hok] at ho
    simp only at ho
    unfold execOp
    cases hop : o.op with
    | move x =>
      rw [hop] at ho hok
      cases ho
      obtain ⟨h1, h2⟩ := hE x hok
      exact ⟨_, rfl, by simp [h1], h2⟩
    | pick c a b =>
      rw [hop] at ho hok
      obtain ⟨v, hv, rfl⟩ := vh_some ho
      have m := okL_mem hok
      obtain ⟨c1, c2⟩ := hE c (m c (by simp))
      obtain ⟨a1, a2⟩ := hE a (m a (by simp))
      obtain ⟨b1, b2⟩ := hE b (m b (by simp))
      obtain ⟨h1, h2⟩ := opPick_sound (w := w) (P := P) ρ h.n hv a2 b2
      refine ⟨_, rfl, ?_, h2⟩
      simp only [c1, a1, b1]
      simp only [Sem.run_bind, Sem.run_pure] at h1 ⊢
      generalize (asBool (ρ.v (e c))).run P w = q at h1 ⊢
      cases q with
      | ok x w' => simp only [Result.andThen_ok, Result.ok.injEq] at h1 ⊢; exact ⟨by rw [h1.1], h1.2⟩
      | halt x w' => simp [Result.andThen] at h1
    | build t ps =>
      rw [hop] at ho hok
      obtain ⟨v, hv, rfl⟩ := vh_some ho
      obtain ⟨h1, h2⟩ := okP_spec hE hok
      obtain ⟨h3, h4⟩ := opBuild_sound (P := P) (w := w) ρ hv h2
      refine ⟨_, rfl, Q.pure ?_, h4⟩
      have : (ps.map fun x => (x.1, E x.2)) = ((evs e ps).map fun p => (p.1, ρ.v p.2)).toArray := by
        apply Array.ext'
        simp only [Array.toList_map, List.toList_toArray, evs]
        exact h1
      rw [← h3, ← this]
    | load t a =>
      rw [hop] at ho hok
      obtain ⟨v, hv, rfl⟩ := vh_some ho
      obtain ⟨h1, h2⟩ := hE a hok
      obtain ⟨h3, h4⟩ := R.opLoad hv
      exact ⟨_, rfl, Q.pure (by rw [h1]; exact h3), h4⟩
    | nilCheck x =>
      rw [hop] at ho hok
      obtain ⟨v, hv, rfl⟩ := vh_some ho
      obtain ⟨a1, a2⟩ := hE x hok
      obtain ⟨h1, h2⟩ := opNil_sound ρ hv
      subst h1
      refine ⟨_, rfl, ?_, a2⟩
      simp only [a1]
      exact (congrArg (fun s : Sem Next => s.run P w) h2).trans rfl
    | binOp b t x y yt =>
      rw [hop] at ho hok
      obtain ⟨v, hv, rfl⟩ := vh_some ho
      have m := okL_mem hok
      obtain ⟨a1, a2⟩ := hE x (m x (by simp))
      obtain ⟨b1, b2⟩ := hE y (m y (by simp))
      obtain ⟨h1, h2⟩ := R.opBin hv a2 b2 x y
      exact ⟨_, rfl, Q.pure (by rw [a1, b1]; exact h1), h2⟩
    | unOp u t x =>
      rw [hop] at ho hok
      obtain ⟨v, hv, rfl⟩ := vh_some ho
      obtain ⟨a1, a2⟩ := hE x hok
      obtain ⟨h1, h2⟩ := opUn_sound (P := P) (w := w) ρ h.n hv
      exact ⟨_, rfl, Q.pure (by rw [a1]; exact h1), h2⟩
    | convert s d x =>
      rw [hop] at ho hok
      obtain ⟨v, hv, rfl⟩ := vh_some ho
      obtain ⟨a1, a2⟩ := hE x hok
      obtain ⟨h1, h2⟩ := R.opConv hv a2
      exact ⟨_, rfl, Q.pure (by rw [a1]; exact h1), h2⟩
    | makeFunc fn a b =>
      rw [hop] at ho hok
      cases fn <;> simp only [op, reduceCtorEq] at ho
      rename_i f
      cases ho
      obtain ⟨al⟩ := a
      obtain ⟨bl⟩ := b
      obtain ⟨h1, h2⟩ := okL_spec hE hok
      simp only [List.map_append, Rn.vs_app] at h1 h2
      have hl : al.map E = ρ.vs (al.map e) ∧ bl.map E = ρ.vs (bl.map e) := by
        have hlen : (al.map E).length = (ρ.vs (al.map e)).length := by simp [Rn.vs_len]
        exact List.append_inj h1 hlen
      refine ⟨_, rfl, Q.pure ?_, ?_⟩
      · simp [Instr.makeFunc, Rn.v, Rn.fn, hl.1, hl.2]
      · simp only [bd]; exact ⟨fun l hl' => by (cases hl'), (bds_app.1 h2).1, (bds_app.1 h2).2⟩
    | slice t x lo hi mx =>
      rw [hop] at ho hok
      obtain ⟨v, hv, rfl⟩ := vh_some ho
      simp only [okOps, Bool.and_eq_true] at hok
      obtain ⟨a1, a2⟩ := hE x hok.1.1.1
      obtain ⟨h1, h2⟩ := R.opSlice hv a2
      exact ⟨_, rfl, Q.pure (by rw [a1, okO_spec hE hok.1.1.2, okO_spec hE hok.1.2, okO_spec hE hok.2]; exact h1), h2⟩
    | fieldAddr t x f =>
      rw [hop] at ho hok
      obtain ⟨v, hv, rfl⟩ := vh_some ho
      obtain ⟨a1, a2⟩ := hE x hok
      obtain ⟨h1, h2⟩ := opFieldA_sound (P := P) (w := w) ρ hv a2
      exact ⟨_, rfl, Q.pure (by rw [a1]; exact h1), h2⟩
    | field t x f =>
      rw [hop] at ho hok
      obtain ⟨v, hv, rfl⟩ := vh_some ho
      obtain ⟨a1, a2⟩ := hE x hok
      obtain ⟨h1, h2⟩ := opField_sound (P := P) (w := w) ρ hv a2
      exact ⟨_, rfl, Q.pure (by rw [a1]; exact h1), h2⟩
    | indexAddr t x i =>
      rw [hop] at ho hok
      obtain ⟨v, hv, rfl⟩ := vh_some ho
      have m := okL_mem hok
      obtain ⟨a1, a2⟩ := hE x (m x (by simp))
      obtain ⟨b1, b2⟩ := hE i (m i (by simp))
      obtain ⟨h1, h2⟩ := opIndexA_sound (P := P) (w := w) ρ hv a2
      exact ⟨_, rfl, Q.pure (by rw [a1, b1]; exact h1), h2⟩
    | index t x i =>
      rw [hop] at ho hok
      obtain ⟨v, hv, rfl⟩ := vh_some ho
      have m := okL_mem hok
      obtain ⟨a1, a2⟩ := hE x (m x (by simp))
      obtain ⟨b1, b2⟩ := hE i (m i (by simp))
      obtain ⟨h1, h2⟩ := opIndexT_sound (P := P) (w := w) ρ hv a2
      exact ⟨_, rfl, Q.pure (by rw [a1, b1]; exact h1), h2⟩
    | lookup t x k ok =>
      rw [hop] at ho hok
      obtain ⟨v, hv, rfl⟩ := vh_some ho
      have m := okL_mem hok
      obtain ⟨a1, a2⟩ := hE x (m x (by simp))
      obtain ⟨b1, b2⟩ := hE k (m k (by simp))
      obtain ⟨h1, h2⟩ := R.opLookup hC.key hv
      exact ⟨_, rfl, Q.pure (by rw [a1, b1]; exact h1), h2⟩
    | makeInterface t x =>
      rw [hop] at ho hok
      obtain ⟨v, hv, rfl⟩ := vh_some ho
      obtain ⟨a1, a2⟩ := hE x hok
      unfold opIface at hv
      split at hv
      · cases hv
      · rename_i d hni hu
        cases hv
        refine ⟨_, rfl, Q.pure ?_, by simpa [bd] using a2⟩
        rw [a1]
        simp only [Instr.makeInterface, Sem.run_bind, und_run hu, Result.andThen_ok]
        cases d <;> first | (exact absurd hu (hni _)) | simp [Rn.v]
      · cases hv
    | extract t i =>
      rw [hop] at ho hok
      obtain ⟨v, hv, rfl⟩ := vh_some ho
      obtain ⟨a1, a2⟩ := hE t hok
      obtain ⟨h1, h2⟩ := opExtract_sound (P := P) (w := w) ρ hv a2
      exact ⟨_, rfl, Q.pure (by rw [a1]; exact h1), h2⟩
    | call c =>
      rw [hop] at ho hok hq
      simp only [quiet] at hq
      simp only [op, opCall] at ho
      simp only [okOps] at hok
      cases hcl : c.callee with
      | value f => rw [hcl] at hq; cases hq
      | invoke a b => rw [hcl] at hq; cases hq
      | builtin b =>
        rw [hcl] at ho hok hq
        cases b <;> simp only [reduceCtorEq] at hq
        try simp only at ho hok
        obtain ⟨h1, h2⟩ := okL_spec hE hok
        have hargs : c.args.map E = ⟨ρ.vs (c.args.toList.map e)⟩ := by
          apply Array.ext'
          rw [Array.toList_map, h1]
        simp only [resolve, hcl, hargs]
        unfold Run.builtin at ho
        split at ho
        all_goals first
          | (rename_i heq _; simp at heq; done)
          | skip
        · rename_i x _ hx
          rw [hx] at h2 ⊢
          generalize hts : c.argTypes.toList = ts at ho
          unfold biLenT at ho
          split at ho
          · rename_i t
            cases hu : P.underlying t with
            | none => rw [hu] at ho; cases ho
            | some d =>
              rw [hu] at ho
              simp only at ho
              cases hf : lenFits d x with
              | false => rw [hf] at ho; cases ho
              | true =>
                rw [hf] at ho
                obtain ⟨v, hv', rfl⟩ := vh_some ho
                obtain ⟨k1, k2⟩ := R.biLen (ty := o.type) hu hv' hf
                refine ⟨v, rfl, ?_, k2⟩
                have hta : c.argTypes = #[t] := by apply Array.ext'; rw [hts]
                rw [hta]
                exact Q.pure k1
          · cases ho
        all_goals first | (cases ho; done) | (rename_i heq; cases heq; done)
    | _ => rw [hop] at hq; cases hq
end
mutual
theorem eqV_eq : ∀ {a b : Value}, eqV a b = true → a = b
  | .bool a, b, h => by cases b <;> simp_all [eqV]
  | .int j a, b, h => by cases b <;> simp_all [eqV]
  | .float _ _, b, h => by cases b <;> simp_all [eqV]
  | .complex _ _ _, b, h => by cases b <;> simp_all [eqV]
  | .string a, b, h => by
    cases b <;> simp only [eqV, Bool.false_eq_true] at h
    rename_i c
    obtain ⟨⟨l⟩⟩ := a
    obtain ⟨⟨m⟩⟩ := c
    simp only [beq_iff_eq] at h
    subst h; rfl
  | .pointer a, b, h => by
    cases b with
    | pointer c =>
      cases a with
      | none => cases c with
        | none => rfl
        | some c => simp [eqV] at h
      | some a =>
        cases c with
        | none => obtain ⟨x, y, z⟩ := a; cases z <;> simp [eqV] at h
        | some c =>
          obtain ⟨x, y, z⟩ := a
          obtain ⟨p, q, r⟩ := c
          cases z <;> cases r <;> simp only [eqV, Bool.and_eq_true, Bool.false_eq_true] at h
          rw [beq_true' h.1, beq_true' h.2]
    | _ => cases a <;> simp [eqV] at h
  | .slice a n c, b, h => by
    cases b with
    | slice a' n' c' =>
      cases a with
      | none => cases a' with
        | none => simp only [eqV, Bool.and_eq_true] at h; rw [beq_true' h.1, beq_true' h.2]
        | some c => simp [eqV] at h
      | some a =>
        cases a' with
        | none => obtain ⟨x, y, z⟩ := a; cases z <;> simp [eqV] at h
        | some c =>
          obtain ⟨x, y, z⟩ := a
          obtain ⟨p, q, r⟩ := c
          cases z <;> cases r <;> simp only [eqV, Bool.and_eq_true, Bool.false_eq_true] at h
          rw [beq_true' h.1.1.1, beq_true' h.1.1.2, beq_true' h.1.2, beq_true' h.2]
    | _ => cases a <;> simp [eqV] at h
  | .map a, b, h => by
    cases b with
    | map c =>
      cases a <;> cases c <;> simp only [eqV, Bool.false_eq_true] at h
      · rfl
      · rw [beq_true' h]
    | _ => cases a <;> simp [eqV] at h
  | .chan a, b, h => by
    cases b with
    | chan c =>
      cases a <;> cases c <;> simp only [eqV, Bool.false_eq_true] at h
      rw [beq_true' h]
    | _ => cases a <;> simp [eqV] at h
  | .nilFunc, b, h => by cases b <;> simp_all [eqV]
  | .nilIface, b, h => by cases b <;> simp_all [eqV]
  | .func f ⟨x⟩ ⟨y⟩, b, h => by
    cases b with
    | func g z u =>
      obtain ⟨z⟩ := z
      obtain ⟨u⟩ := u
      cases f <;> cases g <;> simp only [eqV, Bool.and_eq_true, Bool.false_eq_true] at h
      · rw [beq_true' h.1.1, eqVs_eq h.1.2, eqVs_eq h.2]
      · rw [beq_true' h.1.1, eqVs_eq h.1.2, eqVs_eq h.2]
    | _ => cases f <;> simp [eqV] at h
  | .iface t a, b, h => by
    cases b <;> simp only [eqV, Bool.and_eq_true, Bool.false_eq_true] at h
    rw [beq_true' h.1, eqV_eq h.2]
  | .agg ⟨a⟩, b, h => by
    cases b with
    | agg c => obtain ⟨c⟩ := c; simp only [eqV] at h; rw [eqVs_eq h]
    | _ => simp [eqV] at h
  | .tuple ⟨a⟩, b, h => by
    cases b with
    | tuple c => obtain ⟨c⟩ := c; simp only [eqV] at h; rw [eqVs_eq h]
    | _ => simp [eqV] at h
theorem eqVs_eq : ∀ {a b : List Value}, eqVs a b = true → a = b
  | [], [], _ => rfl
  | [], _ :: _, h => by simp [eqVs] at h
  | _ :: _, [], h => by simp [eqVs] at h
  | a :: x, b :: y, h => by
    simp only [eqVs] at h
    split at h
    · rename_i h1; rw [eqV_eq h1, eqVs_eq h]
    · cases h
end
/-! operations that lay a block of their own -/
section
variable {P : Program} {w0 : Base} {w w' : World} {ρ : Rn} {h : H}
def bsF (P : Program) (t : TypeId) (n : Nat) (ps : List (Nat × Value)) : Option (List Value × TypeId) := match P.underlying t with
  | some (.slice el) => (match zcells P el, sz P el with
    | some z, some (s + 1) => (match Nat.beq z.length (s + 1), Nat.ble (n * (s + 1)) 16777216, fills (fun i => some (i * (s + 1), s + 1)) (repz z (n * (s + 1))) ps with
      | true, true, some c => some (c, el)
      | _, _, _ => none)
    | _, _ => none)
  | _ => none
theorem bsF_spec {t : TypeId} {n : Nat} {ps : List (Nat × Value)} {nx : Nx} (ho : opBuildSlice P h t n ps = some nx) : ∃ c el, bsF P t n ps = some (c, el) ∧ nx = .val (.slice (some ⟨h.n, 0, none⟩) n n) (h.new (.cells ⟨c⟩ el)) := by
  unfold opBuildSlice at ho
  unfold bsF
  split at ho
  · split at ho
    · split at ho
      · rename_i h1 h2 h3
        cases ho
        simp only [*]
        exact ⟨_, _, rfl, rfl⟩
      · cases ho
    · cases ho
  · cases ho
theorem bsF_run {t : TypeId} {n m : Nat} {ps : List (Nat × Value)} {c : List Value} {el : TypeId} (ρ : Rn) (ho : bsF P t n ps = some (c, el)) (hp : ∀ p ∈ ps, bd m p.2) :
    bds m c ∧ n < U ∧ ∀ w, (Instr.buildSlice t n (ps.map fun p => (p.1, ρ.v p.2)).toArray).run P w = .ok (.slice (some ⟨w.heap.size, 0, none⟩) n n) (w.alloc (.cells ⟨ρ.vs c⟩ el)) := by
  unfold bsF at ho
  cases hu : P.underlying t with
  | none => rw [hu] at ho; cases ho
  | some d =>
    rw [hu] at ho
    cases d <;> simp only at ho <;> try (cases ho; done)
    case slice el' =>
      cases hz : zcells P el' with
      | none => rw [hz] at ho; cases ho
      | some z =>
        cases hs : sz P el' with
        | none => rw [hz, hs] at ho; cases ho
        | some s0 =>
          cases s0 with
          | zero => rw [hz, hs] at ho; cases ho
          | succ s =>
            rw [hz, hs] at ho
            simp only at ho
            cases hb1 : Nat.beq z.length (s + 1) with
            | false => rw [hb1] at ho; simp at ho
            | true =>
              cases hb2 : Nat.ble (n * (s + 1)) 16777216 with
              | false => rw [hb1, hb2] at ho; simp at ho
              | true =>
                cases hf : fills (fun i => some (i * (s + 1), s + 1)) (repz z (n * (s + 1))) ps with
                | none => rw [hb1, hb2, hf] at ho; cases ho
                | some c' =>
                  rw [hb1, hb2, hf] at ho
                  cases ho
                  obtain ⟨zv, i, hi, hzz, hzc, hpl⟩ := zcells_some hz
                  have hlen : z.length = s + 1 := beq_true' hb1
                  have hzv : zv.cells = ⟨z⟩ := by rw [cells_eq, hzc]
                  obtain ⟨e1, e2⟩ := plains_repz ρ m hpl (by omega) (n * (s + 1))
                  obtain ⟨h1, h2⟩ := fills_sound ρ hf e2 hp
                  rw [e1] at h1
                  obtain ⟨j, hj, hjs⟩ := sz_some hs
                  rw [hi] at hj
                  cases hj
                  have hsm : ¬ n * (s + 1) > 2 ^ 24 := by have := Nat.le_of_ble_eq_true hb2; omega
                  have hnU : n < U := by
                    have h3 := Nat.le_of_ble_eq_true hb2
                    have h4 : n ≤ n * (s + 1) := Nat.le_mul_of_pos_right n (by omega)
                    have h5 : (16777216 : Nat) < U := by decide
                    omega
                  refine ⟨h2, hnU, fun w => ?_⟩
                  by_cases hn : n = 0
                  · subst hn
                    have : repz z (0 * (s + 1)) = [] := by simp [repz]
                    rw [this] at h1
                    have h1' : Instr.fill (fun i => some (i * (s + 1), s + 1)) (Array.map (fun x => (default : Value)) (Array.range 0)) (List.map (fun p => (p.fst, ρ.v p.snd)) ps) = some { toList := ρ.vs c } := by
                      rw [← h1]; congr 1; apply Array.ext'; simp [Array.toList_range]
                    simp [Instr.buildSlice, und_run hu, sizeOf, typeInfo, hi, hjs, h1', newRow]
                  · have hnz : ¬ n * (s + 1) = 0 := Nat.mul_ne_zero hn (by omega)
                    have hrep := repz_eq hzv (by omega) (n * (s + 1))
                    have hfl : Instr.fill (fun i => some (i * (s + 1), s + 1)) ((Array.range (n * (s + 1))).map (zv.cells[· % zv.cells.size]!)) (ps.map fun p => (p.1, ρ.v p.2)) = some ⟨ρ.vs c⟩ := by rw [hrep]; exact h1
                    simp only [Instr.buildSlice, und_run hu, sizeOf, typeInfo, zeroValue, hi, hjs, hzz, hsm, hnz, hfl, newRow, Sem.run_bind, Sem.run_pure, Result.andThen_ok, run_program, if_false, run_newObj]
                    rfl
theorem Q.pure2 {s : Sem Value} {v : Value} (hs : s.run P w = .ok v w') : (do Pure.pure (Next.value (← s)) : Sem Next).run P w = .ok (.value v) w' := by simp [hs]
/-- What is laid, and what names it. -/
def layF (P : Program) (e : Operand → Value) : Op → Option (Obj × (Nat → Value))
  | .alloc t => (match zplain P t with | some z => some (.cells ⟨cellsOf z⟩ t, fun n => .pointer (some ⟨n, 0, none⟩)) | none => none)
  | .box t x => some (.cells ⟨cellsOf (e x)⟩ t, fun n => .pointer (some ⟨n, 0, none⟩))
  | .buildSlice t n ps => (match bsF P t n (evs e ps) with | some (c, el) => some (.cells ⟨c⟩ el, fun k => .slice (some ⟨k, 0, none⟩) n n) | none => none)
  | .makeMap _ none => some (.map #[] 0, fun n => .map (some n))
  | _ => none
def mv (ρ : Rn) : Obj → Obj
  | .cells c t z => .cells ⟨ρ.vs c.toList⟩ t z
  | o => o
theorem lay_spec {C : Cfg} {e : Operand → Value} {o : Oper} {nx : Nx} (hl : lays o.op = true) (ho : opK P C e o.op h = some nx) : ∃ p, layF P e o.op = some p ∧ okOps o.op = true ∧ nx = .val (p.2 h.n) (h.new p.1) := by
  unfold opK at ho
  cases hok : okOps o.op with
  | false => rw [hok] at ho; cases ho
  | true =>
    rw [hok] at ho
    simp only at ho
    cases hop : o.op with
    | alloc t =>
      rw [hop] at ho
      simp only [op, opAlloc] at ho
      cases hz : zr P t with
      | none => rw [hz] at ho; cases ho
      | some z =>
        rw [hz] at ho
        simp only at ho
        cases hp : plains (cellsOf z) with
        | false => rw [hp] at ho; cases ho
        | true =>
          rw [hp] at ho
          cases ho
          refine ⟨(.cells ⟨cellsOf z⟩ t, fun n => .pointer (some ⟨n, 0, none⟩)), ?_, rfl, rfl⟩
          simp only [layF, zplain, hz, hp]
    | box t x => rw [hop] at ho; cases ho; exact ⟨(.cells ⟨cellsOf (e x)⟩ t, fun n => .pointer (some ⟨n, 0, none⟩)), rfl, rfl, rfl⟩
    | buildSlice t n ps =>
      rw [hop] at ho
      obtain ⟨c, el, h1, rfl⟩ := bsF_spec ho
      refine ⟨(.cells ⟨c⟩ el, fun k => .slice (some ⟨k, 0, none⟩) n n), ?_, rfl, rfl⟩
      simp only [layF, h1]
    | makeMap t r =>
      rw [hop] at ho
      cases r with
      | none => cases ho; exact ⟨(.map #[] 0, fun n => .map (some n)), rfl, rfl, rfl⟩
      | some x => simp [op] at ho
    | _ => rw [hop] at hl; cases hl
/-- What is known of a block so laid. -/
structure Laid (P : Program) (p : Obj × (Nat → Value)) : Prop where
  v : ∀ (ρ : Rn) (n : Nat), ρ.v (p.2 n) = p.2 (ρ.b n)
  bd : ∀ n m, n < m → Run.bd m (p.2 n)
  live : live p.1 = true
  rel : ∀ (σ : Rn) (w : World) (n : Nat), w.heap[σ.b n]? = some (mv σ p.1) → RelO P σ w n p.1
  ext : ∀ (n : Nat) (ρ σ : Rn), ρ.ext n σ → bdO n p.1 → mv σ p.1 = mv ρ p.1
theorem Laid.cells (c : List Value) (t : TypeId) : Laid P (.cells ⟨c⟩ t, fun n => .pointer (some ⟨n, 0, none⟩)) :=
  ⟨fun ρ n => by simp [Rn.v, Rn.a], fun n m hm => by simpa [Run.bd] using hm, rfl, fun σ w n hw => ⟨rfl, hw⟩, fun n ρ σ hx hb => by simp only [mv, hx.vs c hb]⟩
theorem Laid.row (c : List Value) (t : TypeId) {k : Nat} (hk : k < U) : Laid P (.cells ⟨c⟩ t, fun n => .slice (some ⟨n, 0, none⟩) k k) :=
  ⟨fun ρ n => by simp [Rn.v, Rn.a, hk], fun n m hm => by simpa [Run.bd] using hm, rfl, fun σ w n hw => ⟨rfl, hw⟩, fun n ρ σ hx hb => by simp only [mv, hx.vs c hb]⟩
theorem Laid.map : Laid P (.map #[] 0, fun n => .map (some n)) :=
  ⟨fun ρ n => by simp [Rn.v], fun n m hm => by simpa [Run.bd] using hm, rfl, fun σ w n hw => by simpa [RelO, mv] using hw, fun n ρ σ hx hb => rfl⟩
theorem lay_run {E e : Operand → Value} {n : Nat} {o : Oper} {p : Obj × (Nat → Value)} (hE : EvOk ρ n E e) (hok : okOps o.op = true) (hp : layF P e o.op = some p) :
    Laid P p ∧ bdO n p.1 ∧ ∀ w, (execOp E o).run P w = .ok (.value (p.2 w.heap.size)) (w.alloc (mv ρ p.1)) := by
  unfold execOp
  cases hop : o.op with
  | alloc t =>
    rw [hop] at hp
    simp only [layF] at hp
    cases hz : zplain P t with
    | none => rw [hz] at hp; cases hp
    | some z =>
      rw [hz] at hp
      cases hp
      have hzz := zplain_v ρ n hz
      have hc := cellsOf_v ρ z
      refine ⟨Laid.cells _ _, bds_cellsOf hzz.2.2, fun w => ?_⟩
      rw [hzz.2.1] at hc
      simp [Instr.alloc, run_zr hzz.1, newVar, newRow, hc, mv]
  | box t x =>
    rw [hop] at hp hok
    cases hp
    obtain ⟨h1, h2⟩ := hE x hok
    refine ⟨Laid.cells _ _, bds_cellsOf h2, fun w => ?_⟩
    have hc := cellsOf_v ρ (e x)
    simp [Instr.box, h1, newVar, newRow, hc, mv]
  | buildSlice t k ps =>
    rw [hop] at hp hok
    simp only [layF] at hp
    obtain ⟨h1, h2⟩ := okP_spec hE hok
    cases hb : bsF P t k (evs e ps) with
    | none => rw [hb] at hp; cases hp
    | some q =>
      obtain ⟨c, el⟩ := q
      rw [hb] at hp
      cases hp
      obtain ⟨b1, b2, b3⟩ := bsF_run ρ hb h2
      refine ⟨Laid.row _ _ b2, b1, fun w => ?_⟩
      have : (ps.map fun x => (x.1, E x.2)) = ((evs e ps).map fun p => (p.1, ρ.v p.2)).toArray := by
        apply Array.ext'
        simp only [Array.toList_map, List.toList_toArray, evs]
        exact h1
      refine Q.pure2 ?_
      rw [this, b3 w]
      rfl
  | makeMap t r =>
    rw [hop] at hp
    cases r with
    | some x => cases hp
    | none =>
      cases hp
      refine ⟨Laid.map, fun e he => (by cases he), fun w => ?_⟩
      simp [Instr.makeMap, mv]
  | _ => rw [hop] at hp; cases hp
theorem okL_congr {e e' : Operand → Value} {l : List Operand} (h : ∀ x ∈ l, e x = e' x) : l.map e = l.map e' := List.map_congr_left h
theorem layF_congr {e e' : Operand → Value} {o : Op} (h : ∀ x ∈ o.operands.toList, e x = e' x) : layF P e o = layF P e' o := by
  cases o <;> try rfl
  · simp only [layF]; rw [h _ (by simp [Op.operands])]
  · rename_i t n ps
    have : evs e ps = evs e' ps := by
      simp only [evs]
      refine List.map_congr_left fun p hp => ?_
      rw [h p.2 (by simp only [Op.operands, Array.toList_map]; exact List.mem_map.2 ⟨p, hp, rfl⟩)]
    simp only [layF, this]
  · rename_i t r
    cases r <;> rfl
end
/-! an operation in a frame -/
section
variable {P : Program}
def CallsTo (P : Program) (f : FuncId) (args : Array Value) (w : World) (v : Value) (w' : World) : Prop :=
  ∀ c cs, Steps P (lone (Frame.enter P f args .normal) (c :: cs) w) (lone (c.finish v) cs w')
def RoundTo (P : Program) (l : Nat) (f : FuncId) (tmps : Array Value) (sg body : Code) (w : World) (v : Value) (w' : World) : Prop :=
  ∀ c cs, Steps P (lone (Frame.round l f tmps sg body .normal) (c :: cs) w) (lone (c.finish v) cs w')
def Doing (P : Program) (s : Sem Next) (w : World) (v : Value) (w' : World) : Prop :=
  s.run P w = .ok (.value v) w' ∨ (s.run P w = .ok .skip w' ∧ v = undef) ∨ (∃ f args w1, s.run P w = .ok (.enter f args) w1 ∧ CallsTo P f args w1 v w') ∨
    (∃ l f tmps sg body w1, s.run P w = .ok (.round l f tmps sg body) w1 ∧ RoundTo P l f tmps sg body w1 v w')
def Does (P : Program) (ops : Array Oper) (o : Oper) (a : Act) (w : World) (v : Value) (w' : World) : Prop :=
  (Region.wanted o (yielded ops a.tmps) = false ∧ v = undef ∧ w' = w) ∨
  (Region.wanted o (yielded ops a.tmps) = true ∧ (∀ c, o.op ≠ .defer c) ∧ (∀ cs b, o.op ≠ .select cs b) ∧ Doing P (execOp a.eval o) w v w')
theorem Does.goes {ops : Array Oper} {i : Nat} {o : Oper} {a : Act} {w w' : World} {v : Value} {b : Frame} (ho : ops[i]? = some o) (hk : b.kind = .normal) (h : Does P ops o a w v w') (rest : List Nat) (k : List Item) (cs : List Frame) :
    Steps P (lone (b.atR a (.inRegion ops (i :: rest) :: k)) cs w) (lone (b.atR (a.put o.dst v) (.inRegion ops rest :: k)) cs w') := by
  rcases h with ⟨hw, rfl, rfl⟩ | ⟨hw, hd, _, h⟩
  · have hs := stepR_op_skip (P := P) (b := b) (a := a) (k := k) (cs := cs) (w := w') (ops := ops) (i := i) (rest := rest) (by simp [ho]; simpa using hw)
    rw [ho] at hs
    exact .one hs
  · have hg := stepGR_op (P := P) (b := b) (k := k) (cs := cs) (w := w) (rest := rest) ho hw
    rw [Oper.semAt_eq _ _ _ hd] at hg
    have hfin : ∀ v, (b.atR a (.inRegion ops (i :: rest) :: k)).finish v = b.atR (a.put o.dst v) (.inRegion ops rest :: k) := by
      intro v; rw [Frame.finish_atR, ho]; rfl
    rcases h with hr | ⟨hr, rfl⟩ | ⟨f, args, w1, hr, hc⟩ | ⟨l, f, tmps, sg, body, w1, hr, hc⟩
    · refine .one (step_lone_go ?_)
      rw [hg, ← hfin]; simp [stepG.apply, hr]
    · refine .one (step_lone_go ?_)
      rw [hg, ← hfin]; simp [stepG.apply, hr]
    · have henter : step P (lone (b.atR a (.inRegion ops (i :: rest) :: k)) cs w) =
          .next (lone (Frame.enter P f args .normal) (b.atR a (.inRegion ops (i :: rest) :: k) :: cs) w1) :=
        step_lone_go (by rw [hg]; simp [stepG.apply, hr, Frame.atR])
      rw [← hfin]
      exact .head henter (hc _ _)
    · have henter : step P (lone (b.atR a (.inRegion ops (i :: rest) :: k)) cs w) =
          .next (lone (Frame.round l f tmps sg body .normal) (b.atR a (.inRegion ops (i :: rest) :: k) :: cs) w1) :=
        step_lone_go (by rw [hg]; simp [stepG.apply, hr, Frame.atR])
      rw [← hfin]
      exact .head henter (hc _ _)
/-- Only what it looks at counts. -/
theorem Does.congr {ops : Array Oper} {o : Oper} {a a' : Act} {w w' : World} {v : Value} (h : Does P ops o a w v w') (hl : ∀ d ∈ o.looksAt ops, a'.tmps[d]? = a.tmps[d]?) : Does P ops o a' w v w' := by
  have hy : Region.wanted o (yielded ops a'.tmps) = Region.wanted o (yielded ops a.tmps) := by
    unfold Region.wanted
    cases hg : o.guard with
    | none => rfl
    | some g =>
      obtain ⟨j, b⟩ := g
      have : yielded ops a'.tmps j = yielded ops a.tmps j := by
        unfold yielded
        cases hd : (ops[j]?).bind (·.dst) with
        | none => rfl
        | some d =>
          have := hl d (by unfold Oper.looksAt; rw [hg]; simp [hd])
          simp only [Option.bind_some, this]
      simp only [this]
  have he : ∀ x ∈ o.op.operands, a'.eval x = a.eval x := by
    intro x hx
    cases x with
    | tmp d =>
      have := hl d (by unfold Oper.looksAt; exact List.mem_append.2 (.inl (List.mem_filterMap.2 ⟨.tmp d, Array.mem_toList_iff.2 hx, rfl⟩)))
      show a'.tmps.getD d undef = a.tmps.getD d undef
      simp [this]
    | _ => rfl
  rcases h with ⟨h1, h2, h3⟩ | ⟨h1, h2, h3, h4⟩
  · exact .inl ⟨hy.trans h1, h2, h3⟩
  · exact .inr ⟨hy.trans h1, h2, h3, by rw [execOp_congr o h3 he]; exact h4⟩
theorem put_get {a : Act} {dst : Option Tmp} {v : Value} {d : Nat} (h : dst ≠ some d) : (a.put dst v).tmps[d]? = a.tmps[d]? := by
  cases dst with
  | none => rfl
  | some e =>
    have hne : e ≠ d := fun x => h (x ▸ rfl)
    simp [Act.put, Array.getElem?_setIfInBounds_ne hne]
theorem Does.put {ops : Array Oper} {o : Oper} {a : Act} {w w' : World} {v u : Value} {dst : Option Tmp} (h : Does P ops o a w v w') (hd : ∀ d, dst = some d → d ∉ o.looksAt ops) : Does P ops o (a.put dst u) w v w' :=
  h.congr fun d hdl => put_get fun e => hd d e hdl
theorem Does.unput {ops : Array Oper} {o : Oper} {a : Act} {w w' : World} {v u : Value} {dst : Option Tmp} (h : Does P ops o (a.put dst u) w v w') (hd : ∀ d, dst = some d → d ∉ o.looksAt ops) : Does P ops o a w v w' :=
  h.congr fun d hdl => (put_get fun e => hd d e hdl).symm
/-! a region whose order is drawn -/
def waitsA (o : Oper) (i : Nat) : Prop := ∃ e ∈ o.after, Region.binds .any e = true ∧ e.on = i
abbrev Held := List (Nat × (World → Prop))
def dropC (o : Oper) (fs : Held) : Held := fs.filter fun f => !waits o f.1
theorem waits_iff {o : Oper} {i : Nat} : waits o i = true ↔ waitsA o i := by
  unfold waits waitsA
  rw [List.any_eq_true]
  constructor
  · rintro ⟨e, he, h⟩
    simp only [Bool.and_eq_true] at h
    exact ⟨e, Array.mem_toList_iff.1 he, h.1, beq_true' h.2⟩
  · rintro ⟨e, he, h1, h2⟩
    exact ⟨e, Array.mem_toList_iff.2 he, by simp [h1, h2]⟩
def DrawOk (P : Program) (ops : Array Oper) (G : Act → World → Prop) : Nat → Array Bool → Held → Act → World → Prop
  | 0, L, _, a, w => Region.ready .any ops L = [] ∧ G a w
  | n + 1, L, fs, a, w => (Region.ready .any ops L = [] → G a w) ∧
    ∀ i ∈ Region.ready .any ops L, ∀ o, ops[i]? = some o → ∃ v w', Does P ops o a w v w' ∧ (∀ f ∈ dropC o fs, f.2 w') ∧ DrawOk P ops G n (L.setIfInBounds i true) (dropC o fs) (a.put o.dst v) w'
theorem DrawOk.weaken {ops : Array Oper} {G : Act → World → Prop} : ∀ (n : Nat) {L : Array Bool} {fs fs' : Held} {a : Act} {w : World}, (∀ f ∈ fs', f ∈ fs) → DrawOk P ops G n L fs a w → DrawOk P ops G n L fs' a w
  | 0, _, _, _, _, _, _, h => h
  | n + 1, _, fs, fs', _, _, hs, h => ⟨h.1, fun i hi o ho => by
    obtain ⟨v, w', h1, h2, h3⟩ := h.2 i hi o ho
    have hsub : ∀ f ∈ dropC o fs', f ∈ dropC o fs := fun f hf => by
      unfold dropC at hf ⊢
      rw [List.mem_filter] at hf ⊢
      exact ⟨hs f hf.1, hf.2⟩
    exact ⟨v, w', h1, fun f hf => h2 f (hsub f hf), DrawOk.weaken n hsub h3⟩⟩
theorem DrawOk.first {ops : Array Oper} {G : Act → World → Prop} {q : Nat} {oq : Oper} {v : Value} {S : World → Prop} (hq : ops[q]? = some oq) :
    ∀ (n : Nat) (L : Array Bool) (fs : Held) (a : Act) (w : World),
      (∀ j oj, ops[j]? = some oj → j ≠ q → L.getD j true = false → ¬ waitsA oj q → oq.apart ops oj = true) →
      q ∈ Region.ready .any ops L → (∀ w, S w → Does P ops oq a w v w) → S w → (∀ f ∈ fs, f.2 w) →
      DrawOk P ops G n (L.setIfInBounds q true) ((q, S) :: fs) (a.put oq.dst v) w → DrawOk P ops G (n + 1) L fs a w := by
  intro n
  induction n with
  | zero =>
    intro L fs a w hfree hr hy hS hF H
    refine ⟨fun h => (by rw [h] at hr; cases hr), fun j hj o ho => ?_⟩
    by_cases hjq : j = q
    · subst hjq
      rw [hq] at ho; cases ho
      exact ⟨v, w, hy w hS, fun f hf => hF f (List.mem_filter.1 hf).1, DrawOk.weaken 0 (fun f hf => List.mem_cons_of_mem _ (List.mem_filter.1 hf).1) H⟩
    · have := ready_mono hj hjq
      rw [H.1] at this
      cases this
  | succ n ih =>
    intro L fs a w hfree hr hy hS hF H
    refine ⟨fun h => (by rw [h] at hr; cases hr), fun j hj oj hoj => ?_⟩
    by_cases hjq : j = q
    · subst hjq
      rw [hq] at hoj; cases hoj
      exact ⟨v, w, hy w hS, fun f hf => hF f (List.mem_filter.1 hf).1, DrawOk.weaken _ (fun f hf => List.mem_cons_of_mem _ (List.mem_filter.1 hf).1) H⟩
    · obtain ⟨u, w', h1, h2, h3⟩ := H.2 j (ready_mono hj hjq) oj hoj
      obtain ⟨hjun, oj', hoj', hall⟩ := mem_ready.1 hj
      rw [hoj] at hoj'; cases hoj'
      have hqun := (mem_ready.1 hr).1
      have hnot : ¬ waitsA oj q := by
        rintro ⟨e, he, hb, heq⟩
        have h1 := hall e he hb
        rw [heq] at h1
        rcases Nat.lt_or_ge q L.size with h' | h'
        · simp [h'] at hqun h1; rw [hqun] at h1; cases h1
        · simp [Array.getElem?_eq_none h'] at h1
      have hap := Oper.apart_spec (hfree j oj hoj hjq hjun hnot)
      have hw : waits oj q = false := by
        cases hh : waits oj q with
        | false => rfl
        | true => exact absurd (waits_iff.1 hh) hnot
      have hdrop : dropC oj ((q, S) :: fs) = (q, S) :: dropC oj fs := by
        unfold dropC
        rw [List.filter_cons, if_pos (by simp [hw])]
      rw [hdrop] at h2 h3
      refine ⟨u, w', h1.unput hap.1, fun f hf => h2 f (List.mem_cons_of_mem _ hf), ?_⟩
      refine ih (L.setIfInBounds j true) (dropC oj fs) (a.put oj.dst u) w' ?_ (ready_mono hr (Ne.symm hjq)) (fun w1 hS1 => (hy w1 hS1).put hap.2.2) (h2 (q, S) (List.mem_cons_self ..)) (fun f hf => h2 f (List.mem_cons_of_mem _ hf)) ?_
      · intro k ok hk hkq hun hno
        refine hfree k ok hk hkq ?_ hno
        by_cases hjk : j = k
        · subst hjk; exact hjun
        · rw [getD_set_ne true hjk] at hun; exact hun
      · rw [Array.setIfInBounds_comm _ _ hjq, Act.put_comm a u v (fun d hd e => hap.2.1 d e hd)]
        exact h3
theorem DrawOk.steps {ops : Array Oper} {G : Act → World → Prop} {b : Frame} (hk : b.kind = .normal) : ∀ (n t : Nat) (L : Array Bool) (fs : Held) (a : Act) (w : World), DrawOk P ops G n L fs a w →
    ∃ a' w', G a' w' ∧ ∀ k cs, Steps P (lone (b.atR a (.inRegion ops (Region.linearise.go .any ops n t L []) :: k)) cs w) (lone (b.atR a' k) cs w') := by
  intro n
  induction n with
  | zero =>
    intro t L fs a w h
    exact ⟨a, w, h.2, fun k cs => by simpa [Region.linearise.go] using Steps.one stepR_region_end⟩
  | succ n ih =>
    intro t L fs a w h
    simp only [Region.linearise.go]
    change ∃ a' w', G a' w' ∧ ∀ k cs, Steps P (lone (b.atR a (.inRegion ops (match (Region.ready .any ops L)[t % (Region.ready .any ops L).length]? with
      | some i => Region.linearise.go .any ops n (t / (Region.ready .any ops L).length) (L.setIfInBounds i true) [i]
      | none => [].reverse) :: k)) cs w) (lone (b.atR a' k) cs w')
    cases hi : (Region.ready .any ops L)[t % (Region.ready .any ops L).length]? with
    | none =>
      have hnil : Region.ready .any ops L = [] := by
        cases hr : Region.ready .any ops L with
        | nil => rfl
        | cons x xs =>
          rw [hr] at hi
          have hlt : t % (x :: xs).length < (x :: xs).length := Nat.mod_lt _ (by simp)
          simp at hi
          simp at hlt
          omega
      exact ⟨a, w, h.1 hnil, fun k cs => Steps.one stepR_region_end⟩
    | some i =>
      have hmem := List.mem_of_getElem? hi
      obtain ⟨_, o, ho, _⟩ := mem_ready.1 hmem
      obtain ⟨v, w1, h1, _, h3⟩ := h.2 i hmem o ho
      obtain ⟨a', w', hG, hs⟩ := ih (t / (Region.ready .any ops L).length) (L.setIfInBounds i true) (dropC o fs) (a.put o.dst v) w1 h3
      refine ⟨a', w', hG, fun k cs => ?_⟩
      simp only []
      rw [linearise_go_acc, List.reverse_singleton, List.singleton_append]
      exact (h1.goes ho hk _ k cs).trans (hs k cs)
end
/-! a frame run to its end -/
section
variable {P : Program} {C : Cfg}
def ItC : It → Item
  | .code c => .code c
  | .inBlock i => .inBlock i
  | .inLoop b => .inLoop b
  | .inScope b => .inScope b
  | .beginRound => .beginRound
structure FrOk (ρ : Rn) (n : Nat) (f : F) (b : Frame) (D : List Deferred) : Prop where
  fn : b.fn = f.fn
  kind : b.kind = .normal
  ro : b.roundOf = f.r.map ρ.b
  rb : ∀ l, f.r = some l → l < n
  df : D = f.d.map fun k => ⟨.collected (ρ.b k), #[]⟩
  db : ∀ k ∈ f.d, k < n
theorem FrOk.ext {ρ σ : Rn} {n m : Nat} {f : F} {b : Frame} {D : List Deferred} (h : FrOk ρ n f b D) (hx : ρ.ext n σ) (hm : n ≤ m) : FrOk σ m f b D := by
  refine ⟨h.fn, h.kind, ?_, fun l hl => Nat.lt_of_lt_of_le (h.rb l hl) hm, ?_, fun k hk => Nat.lt_of_lt_of_le (h.db k hk) hm⟩
  · rw [h.ro]
    cases hr : f.r with
    | none => rfl
    | some l => simp [(hx l (h.rb l hr)).1]
  · rw [h.df]
    exact List.map_congr_left fun k hk => by rw [(hx k (h.db k hk)).1]
def Out (P : Program) (b : Frame) (m : Machine) (cs : List Frame) (v : Value) (w' : World) : Prop := match b.roundOf with
  | none => ∃ fr, fr.fn = b.fn ∧ fr.leaving P w' (.returned v) ∧ Steps P m (lone fr cs w')
  | some _ => ∀ c cs', cs = c :: cs' → Steps P m (lone (c.finish v) cs' w')
theorem Out.head {b : Frame} {m m' : Machine} {cs : List Frame} {v : Value} {w' : World} (hs : Steps P m m') (h : Out P b m' cs v w') : Out P b m cs v w' := by
  unfold Out at *
  split
  · rename_i hb
    rw [hb] at h
    obtain ⟨fr, h1, h2, h3⟩ := h
    exact ⟨fr, h1, h2, hs.trans h3⟩
  · rename_i l hb
    rw [hb] at h
    exact fun c cs' e => hs.trans (h c cs' e)
def Sound (P : Program) (ih : Ex) : Prop := ∀ f t todo h v h', ih f t todo h = some (v, h') → ∀ (w0 : Base) (ρ : Rn) (w : World) (b : Frame) (D : List Deferred) (l : List Value),
  Rel P w0 ρ h w → TmL h.n t l → FrOk ρ h.n f b D → ∃ σ w', ρ.ext h.n σ ∧ h.n ≤ h'.n ∧ Rel P w0 σ h' w' ∧ bd h'.n v ∧
    ∀ cs, Out P b (lone (b.atR ⟨⟨ρ.vs l⟩, D⟩ (todo.map ItC)) cs w) cs (σ.v v) w'
variable {ih : Ex} {w0 : Base} {w : World} {ρ : Rn} {h h' : H}
theorem vs_rep (ρ : Rn) (n : Nat) : ρ.vs (List.replicate n undef) = List.replicate n undef := by rw [Rn.vs_map, List.map_replicate, undef_v]
theorem Rel.below_of (R : Rel P w0 ρ h w) {w' : World} (hb : Below w.heap.size w w') : Rel P w0 ρ h w' := by
  have same : ∀ k, k < w.heap.size → w'.heap[k]? = w.heap[k]? := hb.block
  have hlo : ∀ k o, h.get k = some o → live o = true → ρ.b k < w.heap.size := fun k o hk ho => (R.lo k o hk ho).2
  refine ⟨⟨hb.os.trans R.below.os, hb.tape.trans R.below.tape, hb.output.trans R.below.output, Nat.le_trans R.below.size hb.size, fun k hk => ?_⟩, R.kl, fun k o hk => ⟨(R.obj k o hk).1, (R.obj k o hk).2.1, ?_⟩, fun k o hk ho => ?_, R.inj⟩
  · rw [same k (Nat.lt_of_lt_of_le (R.kl k hk) R.below.size)]
    exact R.below.block k hk
  · have h3 := (R.obj k o hk).2.2
    cases hl : live o with
    | true => exact h3.world (same _ (hlo k o hk hl))
    | false => cases o <;> first | trivial | cases hl
  · exact ⟨(R.lo k o hk ho).1, Nat.lt_of_lt_of_le (R.lo k o hk ho).2 hb.size⟩
theorem enterV_sound (hC : CfgOk P C) (S : Sound P ih) (R : Rel P w0 ρ h w) {q : FuncId} {args : List Value} {v : Value} (ho : enterV P C ih q args h = some (v, h')) (hb : bds h.n args) :
    ∃ σ w', ρ.ext h.n σ ∧ h.n ≤ h'.n ∧ Rel P w0 σ h' w' ∧ bd h'.n v ∧ (∃ fn, P.funcs[q]? = some fn ∧ fn.body.isSome) ∧ ∀ cs, ∃ fr, fr.fn = q ∧ fr.leaving P w' (.returned (σ.v v)) ∧ Steps P (lone (Frame.enter P q ⟨ρ.vs args⟩ .normal) cs w) (lone fr cs w') := by
  unfold enterV at ho
  split at ho
  · rename_i hk
    cases ho
    obtain ⟨rfl, hq⟩ := knows_spec hk
    obtain ⟨hf, hw⟩ := hC.kn q hq
    obtain ⟨w', hbl, hr⟩ := hw w
    refine ⟨ρ, w', Rn.ext.refl _ _, Nat.le_refl _, R.below_of hbl, trivial, hf, fun cs => ?_⟩
    have e : ρ.v (.bool true) = .bool true := by simp [Rn.v]
    rw [e]
    have e2 : (⟨ρ.vs []⟩ : Array Value) = #[] := by simp [Rn.vs]
    rw [e2]
    exact hr cs
  split at ho
  · rename_i t c he
    unfold enterF at he
    split at he
    · rename_i fn hfn
      split at he
      · rename_i c' hbody
        cases he
        have hl : TmL h.n (chunk ((fn.ntmps + args.length + 7) / 8) (args ++ List.replicate (fn.ntmps - args.length) undef)) (args ++ List.replicate (fn.ntmps - args.length) undef) := by
          refine ⟨⟨_, rfl, by simp; omega⟩, bds_app.2 ⟨hb, bds_iff.2 fun x hx => ?_⟩⟩
          rw [List.eq_of_mem_replicate hx]; exact bd_undef _
        let b : Frame := { (default : Frame) with fn := q, kind := .normal, roundOf := none }
        obtain ⟨σ, w', h1, h2, h3, h4, h5⟩ := S _ _ _ _ _ _ ho w0 ρ w b [] _ R hl ⟨rfl, rfl, rfl, fun l hl => (by cases hl), rfl, fun k hk => (by cases hk)⟩
        refine ⟨σ, w', h1, h2, h3, h4, ⟨fn, hfn, by simp [hbody]⟩, fun cs => ?_⟩
        obtain ⟨fr, e1, e2, e3⟩ := h5 cs
        refine ⟨fr, e1, e2, ?_⟩
        have hfr : Frame.enter P q ⟨ρ.vs args⟩ .normal = b.atR ⟨⟨ρ.vs (args ++ List.replicate (fn.ntmps - args.length) undef)⟩, []⟩ ([It.code c].map ItC) := by
          simp only [Frame.enter, hfn, hbody, Frame.atR, Rn.vs_app, vs_rep, b, List.map_cons, List.map_nil, ItC]
          congr 1
          · apply Array.ext'
            simp [Rn.vs_len]
          · simp [hbody]
        rw [hfr]; exact e3
      · cases he
    · cases he
  · cases ho
theorem zipSet_sound (ρ : Rn) {n : Nat} : ∀ {ps : List Tmp} {vs : List Value} {t t' : Tm} {l : List Value}, zipSet ps vs t = some t' → TmL n t l → bds n vs →
    ps.length = vs.length ∧ ∃ l', TmL n t' l' ∧ (ps.zip (ρ.vs vs)).foldl (fun tmps p => tmps.setIfInBounds p.1 p.2) (⟨ρ.vs l⟩ : Array Value) = ⟨ρ.vs l'⟩
  | [], [], t, t', l, h, hl, _ => by cases h; exact ⟨rfl, l, hl, rfl⟩
  | p :: ps, v :: vs, t, t', l, h, hl, hb => by
    simp only [zipSet] at h
    obtain ⟨h1, l', h2, h3⟩ := zipSet_sound ρ h (hl.set p hb.1) hb.2
    refine ⟨by simp [h1], l', h2, ?_⟩
    rw [← h3]
    simp [Rn.vs, Rn.vs_map, List.map_set]
  | [], _ :: _, _, _, _, h, _, _ => by cases h
  | _ :: _, [], _, _, _, h, _, _ => by cases h
theorem roundV_sound (S : Sound P ih) (R : Rel P w0 ρ h w) {l : Nat} {args : List Value} {v : Value} (ho : roundV ih l args h = some (v, h')) (hb : bds h.n args) :
    ∃ σ w', ρ.ext h.n σ ∧ h.n ≤ h'.n ∧ Rel P w0 σ h' w' ∧ bd h'.n v ∧ ∃ f tmps sg body, (Instr.yield (ρ.b l) ⟨ρ.vs args⟩).run P w = .ok (.round (ρ.b l) f tmps sg body) w ∧ RoundTo P (ρ.b l) f tmps sg body w (σ.v v) w' := by
  unfold roundV at ho
  split at ho
  · rename_i L hg
    split at ho
    · rename_i t hz
      obtain ⟨hlt, hbO, hO⟩ := R.obj _ _ hg
      simp only [bdO] at hbO
      simp only [RelO] at hO
      have hl : TmL h.n (chunk ((L.tmps.toList.length + 7) / 8) L.tmps.toList) L.tmps.toList := ⟨⟨_, rfl, by omega⟩, hbO.1⟩
      obtain ⟨hlen, l', hl', hfold⟩ := zipSet_sound ρ hz hl hb
      let b : Frame := { (default : Frame) with fn := L.fn, kind := .normal, roundOf := some (ρ.b l) }
      obtain ⟨σ, w', h1, h2, h3, h4, h5⟩ := S _ _ _ _ _ _ ho w0 ρ w b [] l' R hl' ⟨rfl, rfl, rfl, fun k hk => (by cases hk; exact hlt), rfl, fun k hk => (by cases hk)⟩
      refine ⟨σ, w', h1, h2, h3, h4, L.fn, ⟨ρ.vs l'⟩, L.assign, L.body, ?_, fun c cs => h5 (c :: cs) c cs rfl⟩
      have hy := run_yield (P := P) (args := ⟨ρ.vs args⟩) hO (by
        have : (ρ.vs args).length = L.params.toList.length := by rw [Rn.vs_len, hlen]
        simpa using this)
      rw [hy]
      congr 2
      rw [← hfold, ← Array.foldl_toList, Array.toList_zip]
    · cases ho
  · cases ho
theorem opK_ok {e : Operand → Value} {o : Oper} {nx : Nx} (ho : opK P C e o.op h = some nx) : (∀ c, o.op ≠ .defer c) ∧ ∀ cs b, o.op ≠ .select cs b := by
  unfold opK at ho
  cases hok : okOps o.op with
  | false => rw [hok] at ho; cases ho
  | true => exact ⟨fun c e => (by rw [e] at hok; cases hok), fun cs b e => (by rw [e] at hok; cases hok)⟩
def NoNum (P : Program) : Prop := ∀ (f : FuncId) (fn : Func), P.funcs[f]? = some fn → fn.name ≠ "runtime.NumGoroutine"
theorem callFunc_run (hN : NoNum P) {q : FuncId} {args : Array Value} (hf : ∃ fn, P.funcs[q]? = some fn ∧ fn.body.isSome) (w : World) : (callFunc q args).run P w = .ok (.enter q args) w := by
  obtain ⟨fn, h1, h2⟩ := hf
  obtain ⟨c, hc⟩ := Option.isSome_iff_exists.1 h2
  simp [callFunc, h1, hN q fn h1, hc]
theorem opVal_sound (hC : CfgOk P C) (hN : NoNum P) (S : Sound P ih) (R : Rel P w0 ρ h w) {ops : List Oper} {o : Oper} {t : Tm} {l : List Value} (hl : TmL h.n t l) (D : List Deferred) {v : Value} (ho : opVal P C ih ops o t h = some (v, h')) :
    ∃ σ w', ρ.ext h.n σ ∧ h.n ≤ h'.n ∧ Rel P w0 σ h' w' ∧ bd h'.n v ∧ Does P ⟨ops⟩ o ⟨⟨ρ.vs l⟩, D⟩ w (σ.v v) w' := by
  unfold opVal at ho
  have hw := want_eq hl ρ ops o
  split at ho
  · rename_i hwt
    cases ho
    exact ⟨ρ, w, Rn.ext.refl _ _, Nat.le_refl _, R, bd_undef _, .inl ⟨hw.trans hwt, undef_v ρ, rfl⟩⟩
  · rename_i hwt
    split at ho
    · rename_i nx hx
      have hE := hl.eval ρ D
      have hs := op_sound hC R hE hx
      have hok := opK_ok hx
      have key : ∀ {σ : Rn} {w' : World}, Doing P (execOp (⟨⟨ρ.vs l⟩, D⟩ : Act).eval o) w (σ.v v) w' → Does P ⟨ops⟩ o ⟨⟨ρ.vs l⟩, D⟩ w (σ.v v) w' := fun hd => .inr ⟨hw.trans hwt, hok.1, hok.2, hd⟩
      cases nx with
      | val v1 h1 =>
        cases ho
        obtain ⟨σ, w', x, r1, r2, r3, r4, r5, r6⟩ := hs
        refine ⟨σ, w', r3, r4, r5, r6, key ?_⟩
        rcases r2 with rfl | ⟨rfl, rfl⟩
        · exact .inl r1
        · exact .inr (.inl ⟨r1, undef_v σ⟩)
      | enter q args h1 =>
        obtain ⟨rfl, hb, hr⟩ := hs
        obtain ⟨σ, w', e1, e2, e3, e4, e5, e6⟩ := enterV_sound hC S R ho hb
        refine ⟨σ, w', e1, e2, e3, e4, key (.inr (.inr (.inl ⟨q, ⟨ρ.vs args⟩, w, hr.trans (callFunc_run hN e5 w), fun c cs => ?_⟩)))⟩
        obtain ⟨fr, _, k2, k3⟩ := e6 (c :: cs)
        exact k3.trans (.one (step_leave_returned k2))
      | round q args h1 =>
        obtain ⟨rfl, hb, hr⟩ := hs
        obtain ⟨σ, w', e1, e2, e3, e4, f, tmps, sg, body, e5, e6⟩ := roundV_sound S R ho hb
        exact ⟨σ, w', e1, e2, e3, e4, key (.inr (.inr (.inr ⟨_, f, tmps, sg, body, w, hr.trans e5, e6⟩)))⟩
    · cases ho
theorem runSeq_sound (hC : CfgOk P C) (hN : NoNum P) (S : Sound P ih) {ops : List Oper} {b : Frame} (hk : b.kind = .normal) (D : List Deferred) : ∀ (m : Nat) (i : Nat) {t t' : Tm} {h h' : H} {ρ : Rn} {w : World} {l : List Value}, ops.length = i + m → Rel P w0 ρ h w → TmL h.n t l →
    runSeq P C ih ops (ops.drop i) t h = some (t', h') →
    ∃ σ w' l', ρ.ext h.n σ ∧ h.n ≤ h'.n ∧ Rel P w0 σ h' w' ∧ TmL h'.n t' l' ∧ ∀ k cs, Steps P (lone (b.atR ⟨⟨ρ.vs l⟩, D⟩ (.inRegion ⟨ops⟩ (List.range' i m) :: k)) cs w) (lone (b.atR ⟨⟨σ.vs l'⟩, D⟩ k) cs w')
  | 0, i, t, t', h, h', ρ, w, l, hm, R, hl, ho => by
    rw [List.drop_eq_nil_of_le (by omega)] at ho
    cases ho
    exact ⟨ρ, w, l, Rn.ext.refl _ _, Nat.le_refl _, R, hl, fun k cs => .one stepR_region_end⟩
  | m + 1, i, t, t', h, h', ρ, w, l, hm, R, hl, ho => by
    have hi : i < ops.length := by omega
    rw [List.drop_eq_getElem_cons hi] at ho
    simp only [runSeq] at ho
    split at ho
    · rename_i v h1 hv
      obtain ⟨σ, w1, e1, e2, e3, e4, e5⟩ := opVal_sound hC hN S R hl D hv
      have hl1 := (hl.mono e2).setT (ops[i]).dst e4
      obtain ⟨τ, w2, l', f1, f2, f3, f4, f5⟩ := runSeq_sound hC hN S hk D m (i + 1) (by omega) e3 hl1 ho
      refine ⟨τ, w2, l', e1.trans f1 e2, Nat.le_trans e2 f2, f3, f4, fun k cs => ?_⟩
      have hg := e5.goes (ops := ⟨ops⟩) (i := i) (b := b) (by simp [hi]) hk (List.range' (i + 1) m) k cs
      rw [show (List.range' i (m + 1)) = i :: List.range' (i + 1) m from by simp [List.range'_succ]]
      refine hg.trans ?_
      rw [← e1.vs l hl.bd, ← vs_lset]
      exact f5 k cs
    · cases ho
end
/-! a region whose order is drawn: what is at hand -/
section
variable {P : Program} {C : Cfg}
def cnt : List Bool → Nat
  | [] => 0
  | true :: l => cnt l
  | false :: l => cnt l + 1
theorem cnt_set : ∀ {l : List Bool} {i : Nat}, l[i]? = some false → cnt (l.set i true) + 1 = cnt l
  | [], i, h => by simp at h
  | b :: l, 0, h => by simp at h; subst h; rfl
  | b :: l, i + 1, h => by
    have := cnt_set (l := l) (i := i) (by simpa using h)
    cases b <;> simp only [List.set_cons_succ, cnt] <;> omega
theorem cnt_pos : ∀ {l : List Bool} {i : Nat}, l[i]? = some false → 0 < cnt l := fun h => by have := cnt_set h; omega
theorem mem_rdy {ops : List Oper} {L : List Bool} {i : Nat} : i ∈ Region.ready .any ⟨ops⟩ ⟨L⟩ ↔ L[i]? = some false ∧ ∃ o, ops[i]? = some o ∧ ∀ e ∈ o.after, Region.binds .any e = true → L[e.on]? = some true := by
  rw [mem_ready]
  have h1 : ∀ j, (⟨L⟩ : Array Bool).getD j true = false ↔ L[j]? = some false := fun j => by
    simp only [Array.getD_eq_getD_getElem?, List.getElem?_toArray]
    cases L[j]? with
    | none => simp
    | some b => simp
  have h2 : ∀ j, (⟨L⟩ : Array Bool).getD j false = true ↔ L[j]? = some true := fun j => by
    simp only [Array.getD_eq_getD_getElem?, List.getElem?_toArray]
    cases L[j]? with
    | none => simp
    | some b => simp
  simp only [h1, h2, List.getElem?_toArray]
theorem mem_readyL {ops : List Oper} {L : List Bool} {i : Nat} : i ∈ readyL ops L ↔ L[i]? = some false ∧ ∃ o, ops[i]? = some o ∧ ∀ e ∈ o.after, Region.binds .any e = true → L[e.on]? = some true := by
  unfold readyL
  rw [List.mem_filter, List.mem_range]
  unfold readyI
  rw [nth_get, nth_get]
  constructor
  · rintro ⟨hi, h⟩
    split at h
    · rename_i o h1 h2
      refine ⟨h1, o, h2, fun e he hb => ?_⟩
      have := List.all_eq_true.1 h e (Array.mem_toList_iff.2 he)
      rw [nth_get] at this
      simp only [hb, Bool.not_true, Bool.false_or] at this
      split at this
      · assumption
      · cases this
    · cases h
  · rintro ⟨h1, o, h2, h3⟩
    refine ⟨(List.getElem?_eq_some_iff.1 h2).1, ?_⟩
    rw [h1, h2]
    refine List.all_eq_true.2 fun e he => ?_
    cases hb : Region.binds .any e with
    | false => rfl
    | true => rw [nth_get, h3 e (Array.mem_toList_iff.1 he) hb]; rfl
def apartS (ops : List Oper) (x y : Oper) : Prop := (∀ d, x.dst = some d → d ∉ y.looksAt ⟨ops⟩) ∧ (∀ d, x.dst = some d → y.dst ≠ some d) ∧ ∀ d, y.dst = some d → d ∉ x.looksAt ⟨ops⟩
theorem apartS.symm {ops : List Oper} {x y : Oper} (h : apartS ops x y) : apartS ops y x := ⟨h.2.2, fun d hd e => h.2.1 d e hd, h.1⟩
theorem freeI_spec {ops : List Oper} {L : List Bool} {i : Nat} {o : Oper} (h : freeI ops L i o = true) {j : Nat} {oj : Oper} (hj : ops[j]? = some oj) (hne : j ≠ i) (hL : L[j]? = some false) : waits oj i = true ∨ Oper.apart ⟨ops⟩ o oj = true := by
  have h1 := List.all_eq_true.1 h j (List.mem_range.2 (List.getElem?_eq_some_iff.1 hj).1)
  rw [nth_get, nth_get, hL, hj] at h1
  simp only [Bool.or_eq_true] at h1
  rcases h1 with h1 | h1
  · exact absurd (beq_true' h1) hne
  · exact h1
theorem looks_want {ops : List Oper} {o : Oper} {t t' : Tm} (h : ∀ d ∈ o.looksAt ⟨ops⟩, t'.get d = t.get d) : want ops o t' = want ops o t := by
  unfold want
  cases hg : o.guard with
  | none => rfl
  | some g =>
    obtain ⟨j, b⟩ := g
    have : yldO t' (nth ops j) = yldO t (nth ops j) := by
      unfold yldO
      rw [nth_get]
      cases hj : ops[j]? with
      | none => rfl
      | some oj =>
        simp only
        cases hd : oj.dst with
        | none => rfl
        | some d => simp only [h d (by unfold Oper.looksAt; rw [hg]; simp [hj, hd])]
    simp only [this]
theorem looks_evl {ops : List Oper} {o : Oper} {t t' : Tm} (h : ∀ d ∈ o.looksAt ⟨ops⟩, t'.get d = t.get d) : ∀ x ∈ o.op.operands.toList, evl t' x = evl t x := by
  intro x hx
  cases x with
  | tmp d => exact h d (by unfold Oper.looksAt; exact List.mem_append.2 (.inl (List.mem_filterMap.2 ⟨.tmp d, hx, rfl⟩)))
  | _ => rfl
theorem setT_get {n : Nat} {t : Tm} {l : List Value} (h : TmL n t l) {dst : Option Tmp} {v : Value} (hv : bd n v) {d : Nat} (hd : dst ≠ some d) : (setT t dst v).get d = t.get d := by
  rw [(h.setT dst hv).get, h.get]
  cases dst with
  | none => rfl
  | some e =>
    have hne : e ≠ d := fun x => hd (x ▸ rfl)
    simp only [lset, List.getElem?_set_ne hne]
structure FactOk (P : Program) (ops : List Oper) (D : List Deferred) (ρ : Rn) (n : Nat) (F : Nat × (World → Prop)) (f : Fact) : Prop where
  i : f.i = F.1
  q : quiet f.o.op = true
  wt : want ops f.o f.t = true
  v : bd n f.v
  s : ∃ l, TmL n f.t l ∧ F.2 = fun w => Does P ⟨ops⟩ f.o ⟨⟨ρ.vs l⟩, D⟩ w (ρ.v f.v) w
theorem FactOk.ext {ops : List Oper} {D : List Deferred} {ρ σ : Rn} {n m : Nat} {F : Nat × (World → Prop)} {f : Fact} (h : FactOk P ops D ρ n F f) (hx : ρ.ext n σ) (hm : n ≤ m) : FactOk P ops D σ m F f := by
  obtain ⟨l, h1, h2⟩ := h.s
  exact ⟨h.i, h.q, h.wt, bd_mono hm _ h.v, l, h1.mono hm, by rw [h2, hx.vs l h1.bd, hx.v _ h.v]⟩
/-- It yields what it yielded. -/
def holdsP (P : Program) (C : Cfg) (h : H) (f : Fact) : Prop := ∃ h', opK P C (evl f.t) f.o.op h = some (.val f.v h')
theorem holds1_P {h : H} {f : Fact} (hh : holds1 P C h f = true) : holdsP P C h f := by
  unfold holds1 at hh
  split at hh
  · rename_i v' h' ho
    rw [eqV_eq hh] at ho
    exact ⟨h', ho⟩
  · cases hh
theorem vh_keep {h h2 h' : H} {x : Option Value} {v : Value} (ho : vh h x = some (.val v h')) : vh h2 x = some (.val v h2) := by
  cases x with
  | none => cases ho
  | some y => cases ho; rfl
theorem timeless_P {h h2 : H} {f : Fact} (ht : timeless f.o.op = true) (hh : holdsP P C h f) : holdsP P C h2 f := by
  obtain ⟨h', ho⟩ := hh
  refine ⟨h2, ?_⟩
  unfold opK at ho ⊢
  cases hk : okOps f.o.op with
  | false => rw [hk] at ho; cases ho
  | true =>
    rw [hk] at ho
    simp only at ho ⊢
    revert ht ho
    cases f.o.op <;> intro ht ho <;> first | cases ht | skip
    all_goals simp only [op] at ho ⊢
    all_goals first | exact vh_keep ho | (simp only [Option.some.injEq, Nx.val.injEq] at ho ⊢; exact ⟨ho.1, trivial⟩)
theorem holdsT_P {h h2 : H} {f : Fact} (hh : holdsP P C h f) (ht : holdsT P C h2 f = true) : holdsP P C h2 f := by
  unfold holdsT at ht
  cases hb : timeless f.o.op with
  | true => exact timeless_P hb hh
  | false => rw [hb] at ht; exact holds1_P ht
theorem FactOk.holds {ops : List Oper} {D : List Deferred} {ρ : Rn} {h : H} {w : World} {w0 : Base} {F : Nat × (World → Prop)} {f : Fact} (hC : CfgOk P C) (H1 : FactOk P ops D ρ h.n F f) (R : Rel P w0 ρ h w) (hh : holdsP P C h f) : F.2 w := by
  obtain ⟨l, h1, h2⟩ := H1.s
  rw [h2]
  obtain ⟨h', ho⟩ := hh
  obtain ⟨v, e1, e2, e3⟩ := quiet_sound hC R (h1.eval ρ D) H1.q ho
  cases e1
  have hok := opK_ok ho
  exact .inr ⟨(want_eq h1 ρ ops f.o).trans H1.wt, hok.1, hok.2, .inl e2⟩
/-- What stands between the run on the table and the run in the world, in such a region. -/
structure Sim (P : Program) (C : Cfg) (ops : List Oper) (D : List Deferred) (w0 : Base) (LW : List Bool) (pd : List (Nat × Oper)) (fs : List Fact) (t : Tm) (h : H) (L : List Bool) (FS : Held) (st : Nat → Option Nat) (a : Act) (w : World) (ρ : Rn) (l : List Value) : Prop where
  lenW : LW.length = ops.length
  lenL : L.length = ops.length
  tm : TmL h.n t l
  df : a.defers = D
  under : Under w0 w
  kl : ∀ k, w0.keep k → k < w0.w.heap.size
  rel : Rel P ⟨w, fun k => w0.keep k ∨ ∃ p ∈ pd, st p.1 = some k⟩ ρ h w
  pdop : ∀ p ∈ pd, ops[p.1]? = some p.2 ∧ lays p.2.op = true ∧ okOps p.2.op = true ∧ want ops p.2 t = true ∧ ∃ q, layF P (evl t) p.2.op = some q
  pdL : ∀ p ∈ pd, (L[p.1]? = some true ↔ (st p.1).isSome = true) ∧ ∀ e ∈ p.2.after, Region.binds .any e = true → L[e.on]? = some true
  pdB : ∀ p ∈ pd, ∀ B, st p.1 = some B → ∀ q, layF P (evl t) p.2.op = some q → w.heap[B]? = some (mv ρ q.1) ∧ ∀ d, p.2.dst = some d → d < a.tmps.size → a.tmps[d]? = some (q.2 B)
  pdK : ∀ p ∈ pd, ∀ B, st p.1 = some B → ¬ w0.keep B
  apart : ∀ p ∈ pd, ∀ j oj, ops[j]? = some oj → j ≠ p.1 → (LW[j]? = some false ∨ ∃ r ∈ pd, r.1 = j) → waits oj p.1 = true ∨ apartS ops p.2 oj
  nowait : ∀ p ∈ pd, ∀ r ∈ pd, waits r.2 p.1 = false
  nodup : (pd.map Prod.fst).Nodup
  dist : ∀ p ∈ pd, ∀ r ∈ pd, p.1 ≠ r.1 → ∀ B, st p.1 = some B → st r.1 ≠ some B
  listed : ∀ j, j < ops.length → (LW[j]? = some true ↔ L[j]? = some true ∨ ∃ p ∈ pd, p.1 = j)
  size : a.tmps.size = l.length
  tmps : ∀ s, (∀ p ∈ pd, (st p.1).isSome = true → p.2.dst ≠ some s) → a.tmps[s]? = (l[s]?).map ρ.v
  facts : ∀ F ∈ FS, (∀ w, F.2 w) ∨ ∃ f ∈ fs, FactOk P ops D ρ h.n F f
end
/-! the steps in such a region -/
section
variable {P : Program} {C : Cfg} {ops : List Oper} {D : List Deferred} {w0 : Base} {LW L : List Bool} {pd : List (Nat × Oper)} {fs : List Fact} {t : Tm} {h : H} {FS : Held} {st : Nat → Option Nat} {a : Act} {w : World} {ρ : Rn} {l : List Value}
theorem Rel.self {B : Base} {σ : Rn} {h2 : H} {w2 : World} (R : Rel P B σ h2 w2) : Rel P ⟨w2, B.keep⟩ σ h2 w2 :=
  ⟨⟨rfl, rfl, rfl, Nat.le_refl _, fun _ _ => rfl⟩, fun k hk => Nat.lt_of_lt_of_le (R.kl k hk) R.below.size, R.obj, R.lo, R.inj⟩
theorem Under.trans' {B : Base} {w1 w2 : World} {K : Nat → Prop} (h : Under B w1) (hK : ∀ k, B.keep k → K k) (h2 : Under ⟨w1, K⟩ w2) : Under B w2 :=
  ⟨h2.os.trans h.os, h2.tape.trans h.tape, h2.output.trans h.output, Nat.le_trans h.size h2.size, fun k hk => (h2.block k (hK k hk)).trans (h.block k hk)⟩
theorem Rel.growW {K : Nat → Prop} {O : Obj} (R : Rel P ⟨w, K⟩ ρ h w) : Rel P ⟨w.alloc O, fun k => K k ∨ k = w.heap.size⟩ ρ h (w.alloc O) := by
  have hs : ∀ k, k < w.heap.size → (w.alloc O).heap[k]? = w.heap[k]? := fun k hk => Below.heap_alloc _ _ _ hk
  refine ⟨⟨rfl, rfl, rfl, Nat.le_refl _, fun _ _ => rfl⟩, fun k hk => ?_, fun k o hk => ?_, fun k o hk hl => ?_, R.inj⟩
  · show k < (w.alloc O).heap.size
    rw [World.size_alloc]
    rcases hk with hk | rfl
    · exact Nat.lt_succ_of_lt (R.kl k hk)
    · exact Nat.lt_succ_self _
  · obtain ⟨h1, h2, h3⟩ := R.obj k o hk
    refine ⟨h1, h2, ?_⟩
    cases hl : live o with
    | false => exact RelO.dead hl
    | true => exact h3.world (hs _ (R.lo k o hk hl).2)
  · have h1 := R.lo k o hk hl
    refine ⟨fun h2 => h2.elim h1.1 (fun e => by have := h1.2; omega), ?_⟩
    rw [World.size_alloc]
    exact Nat.lt_succ_of_lt h1.2
theorem set_tt {L : List Bool} {i j : Nat} (h : L[j]? = some true) : (L.set i true)[j]? = some true := by
  by_cases e : i = j
  · subst e
    rw [List.getElem?_set_self (List.getElem?_eq_some_iff.1 h).1]
  · rw [List.getElem?_set_ne e]; exact h
theorem set_tf {L : List Bool} {i j : Nat} (h : (L.set i true)[j]? = some false) : L[j]? = some false ∧ i ≠ j := by
  by_cases e : i = j
  · subst e
    by_cases hl : i < L.length
    · rw [List.getElem?_set_self hl] at h; cases h
    · rw [List.getElem?_eq_none (by rw [List.length_set]; omega)] at h; cases h
  · rw [List.getElem?_set_ne e] at h; exact ⟨h, e⟩
theorem vs_get' (ρ : Rn) (l : List Value) (d : Nat) : (⟨ρ.vs l⟩ : Array Value)[d]? = (l[d]?).map ρ.v := by simp [Rn.vs_get]
theorem Sim.pd_lt (H : Sim P C ops D w0 LW pd fs t h L FS st a w ρ l) {p : Nat × Oper} (hp : p ∈ pd) : p.1 < ops.length := (List.getElem?_eq_some_iff.1 (H.pdop p hp).1).1
theorem Sim.pd_eq (H : Sim P C ops D w0 LW pd fs t h L FS st a w ρ l) {p r : Nat × Oper} (hp : p ∈ pd) (hr : r ∈ pd) (e : p.1 = r.1) : p = r := by
  have h1 := (H.pdop p hp).1
  have h2 := (H.pdop r hr).1
  rw [e, h2] at h1
  exact Prod.ext e (Option.some.inj h1).symm
theorem Sim.pd_apart (H : Sim P C ops D w0 LW pd fs t h L FS st a w ρ l) {p r : Nat × Oper} (hp : p ∈ pd) (hr : r ∈ pd) (e : p.1 ≠ r.1) : apartS ops p.2 r.2 := by
  rcases H.apart p hp r.1 r.2 (H.pdop r hr).1 (Ne.symm e) (.inr ⟨r, hr, rfl⟩) with h1 | h1
  · rw [H.nowait p hp r hr] at h1; cases h1
  · exact h1
/-- What was put off comes up in the world. -/
theorem Sim.pend (hC : CfgOk P C) (H : Sim P C ops D w0 LW pd fs t h L FS st a w ρ l) (hh : ∀ f ∈ fs, holdsP P C h f) {p : Nat × Oper} (hp : p ∈ pd) (hst : st p.1 = none) :
    ∃ v w', Does P ⟨ops⟩ p.2 a w v w' ∧ (∀ F ∈ FS, F.2 w') ∧ ∃ st', Sim P C ops D w0 LW pd fs t h (L.set p.1 true) FS st' (a.put p.2.dst v) w' ρ l := by
  obtain ⟨p1, p2, p3, p4, q, p5⟩ := H.pdop p hp
  obtain ⟨q1, q2, q3⟩ := lay_run (H.tm.eval ρ D) p3 p5
  have hw := want_eq H.tm ρ ops p.2
  have hop : (∀ c, p.2.op ≠ .defer c) ∧ ∀ cs b, p.2.op ≠ .select cs b := ⟨fun c e => (by rw [e] at p3; cases p3), fun cs b e => (by rw [e] at p3; cases p3)⟩
  have hd : Does P ⟨ops⟩ p.2 ⟨⟨ρ.vs l⟩, D⟩ w (q.2 w.heap.size) (w.alloc (mv ρ q.1)) := .inr ⟨hw.trans p4, hop.1, hop.2, .inl (q3 w)⟩
  have hd' : Does P ⟨ops⟩ p.2 a w (q.2 w.heap.size) (w.alloc (mv ρ q.1)) := hd.congr fun d hdl => by
    rw [vs_get']
    refine H.tmps d fun r hr hs e => ?_
    have hne : r.1 ≠ p.1 := fun x => by rw [x, hst] at hs; cases hs
    exact (H.pd_apart hr hp hne).1 d e hdl
  have hsame : ∀ k, k < w.heap.size → (w.alloc (mv ρ q.1)).heap[k]? = w.heap[k]? := fun k hk => Below.heap_alloc _ _ _ hk
  have R1 := H.rel.growW (O := mv ρ q.1)
  let st' : Nat → Option Nat := fun i => if i = p.1 then some w.heap.size else st i
  have hK : (fun k => w0.keep k ∨ ∃ r ∈ pd, st' r.1 = some k) = fun k => ((w0.keep k ∨ ∃ r ∈ pd, st r.1 = some k) ∨ k = w.heap.size) := by
    funext k
    apply propext
    constructor
    · rintro (h1 | ⟨r, hr, h1⟩)
      · exact .inl (.inl h1)
      · by_cases e : r.1 = p.1
        · simp only [st', e, if_true, Option.some.injEq] at h1
          exact .inr h1.symm
        · simp only [st', e, if_false] at h1
          exact .inl (.inr ⟨r, hr, h1⟩)
    · rintro ((h1 | ⟨r, hr, h1⟩) | rfl)
      · exact .inl h1
      · refine .inr ⟨r, hr, ?_⟩
        have hne : r.1 ≠ p.1 := fun x => by rw [x, hst] at h1; cases h1
        simp only [st', hne, if_false, h1]
      · exact .inr ⟨p, hp, by simp only [st', if_true]⟩
  have hLp : p.1 < L.length := by rw [H.lenL]; exact H.pd_lt hp
  refine ⟨_, _, hd', fun F hF => ?_, st', ?_⟩
  · rcases H.facts F hF with h1 | ⟨f, hf, h1⟩
    · exact h1 _
    · exact h1.holds hC R1 (hh f hf)
  · refine ⟨H.lenW, by simp [H.lenL], H.tm, ?_, ?_, H.kl, ?_, H.pdop, ?_, ?_, ?_, H.apart, H.nowait, H.nodup, ?_, ?_, ?_, ?_, H.facts⟩
    · rw [← H.df]; cases p.2.dst <;> rfl
    · refine H.under.trans' (K := w0.keep) (fun _ hk => hk) ⟨rfl, rfl, rfl, by simp, fun k hk => hsame k (Nat.lt_of_lt_of_le (H.kl k hk) H.under.size)⟩
    · rw [hK]; exact R1
    · intro r hr
      obtain ⟨h1, h2⟩ := H.pdL r hr
      refine ⟨?_, fun e he hb => ?_⟩
      · by_cases e : r.1 = p.1
        · simp [st', e, hLp]
        · simp only [st', e, if_false]
          rw [List.getElem?_set_ne (Ne.symm e)]; exact h1
      · exact set_tt (h2 e he hb)
    · intro r hr B hB q' hq'
      by_cases e : r.1 = p.1
      · have := H.pd_eq hr hp e
        subst this
        simp only [st', if_true, Option.some.injEq] at hB
        subst hB
        rw [p5] at hq'
        cases hq'
        refine ⟨by rw [World.alloc_heap_new], fun d hd hlt => ?_⟩
        have hlt' : d < a.tmps.size := by simpa [Act.put, hd] using hlt
        simp [Act.put, hd, hlt']
      · simp only [st', e, if_false] at hB
        obtain ⟨h1, h2⟩ := H.pdB r hr B hB q' hq'
        refine ⟨(hsame B (Array.getElem?_eq_some_iff.1 h1).1).trans h1, fun d hd hlt => ?_⟩
        have hne : p.2.dst ≠ some d := fun e' => (H.pd_apart hp hr (Ne.symm e)).2.1 d e' hd
        rw [put_get hne]
        refine h2 d hd ?_
        cases hx : p.2.dst with
        | none => rw [hx] at hlt; exact hlt
        | some y => rw [hx] at hlt; simpa [Act.put] using hlt
    · intro r hr B hB hk
      by_cases e : r.1 = p.1
      · simp only [st', e, if_true, Option.some.injEq] at hB
        have := H.kl B hk
        have := H.under.size
        omega
      · simp only [st', e, if_false] at hB
        exact H.pdK r hr B hB hk
    · intro r hr u hu hne B hB hB'
      by_cases e : r.1 = p.1
      · simp only [st', e, if_true, Option.some.injEq] at hB
        have e2 : u.1 ≠ p.1 := fun x => hne (e.trans x.symm)
        simp only [st', e2, if_false] at hB'
        obtain ⟨q', hq'⟩ := (H.pdop u hu).2.2.2.2
        have := (Array.getElem?_eq_some_iff.1 (H.pdB u hu B hB' q' hq').1).1
        omega
      · simp only [st', e, if_false] at hB
        by_cases e2 : u.1 = p.1
        · simp only [st', e2, if_true, Option.some.injEq] at hB'
          obtain ⟨q', hq'⟩ := (H.pdop r hr).2.2.2.2
          have := (Array.getElem?_eq_some_iff.1 (H.pdB r hr B hB q' hq').1).1
          omega
        · simp only [st', e2, if_false] at hB'
          exact H.dist r hr u hu hne B hB hB'
    · intro j hj
      rw [H.listed j hj]
      constructor
      · exact fun h1 => h1.imp_left set_tt
      · rintro (h1 | h1)
        · by_cases e : p.1 = j
          · exact .inr ⟨p, hp, e⟩
          · rw [List.getElem?_set_ne e] at h1; exact .inl h1
        · exact .inr h1
    · rw [← H.size]; cases p.2.dst <;> simp [Act.put]
    · intro s hs
      have hne : p.2.dst ≠ some s := hs p hp (by simp [st'])
      rw [put_get hne]
      refine H.tmps s fun r hr hsr => hs r hr ?_
      by_cases e : r.1 = p.1
      · simp [st', e]
      · simpa [st', e] using hsr
/-- What was put off, and has come up, is laid on the table. -/
theorem Sim.lay1 (H : Sim P C ops D w0 LW pd fs t h L FS st a w ρ l) {p : Nat × Oper} {pd' : List (Nat × Oper)} (hp : p ∈ pd) (hst : (st p.1).isSome = true) (hsub : ∀ r ∈ pd', r ∈ pd ∧ r.1 ≠ p.1) (hsup : ∀ r ∈ pd, r.1 = p.1 ∨ r ∈ pd') (hnd : (pd'.map Prod.fst).Nodup)
    {v : Value} {h1 : Run.H} (ho : opK P C (evl t) p.2.op h = some (.val v h1)) : ∃ ρ' l', ρ.ext h.n ρ' ∧ h.n ≤ h1.n ∧ Sim P C ops D w0 LW pd' fs (setT t p.2.dst v) h1 L FS st a w ρ' l' := by
  obtain ⟨p1, p2, p3, p4, -⟩ := H.pdop p hp
  obtain ⟨q, p5, -, e0⟩ := lay_spec p2 ho
  cases e0
  obtain ⟨q1, q2, -⟩ := lay_run (H.tm.eval ρ D) p3 p5
  obtain ⟨B, hB⟩ := Option.isSome_iff_exists.1 hst
  obtain ⟨hwB, htB⟩ := H.pdB p hp B hB q p5
  have hx := ρ.set_ext h.n B 0
  have hBn : (ρ.set h.n B 0).b h.n = B := by simp [Rn.set]
  have hn1 : (h.new q.1).n = h.n + 1 := Run.H.new_n h q.1
  have hbv : bd (h.new q.1).n (q.2 h.n) := q1.bd _ _ (by omega)
  have hK' : ∀ k, (w0.keep k ∨ ∃ r ∈ pd', st r.1 = some k) → (w0.keep k ∨ ∃ r ∈ pd, st r.1 = some k) := fun k hk => hk.imp_right fun ⟨r, hr, e⟩ => ⟨r, (hsub r hr).1, e⟩
  have hKB : ¬ (w0.keep B ∨ ∃ r ∈ pd', st r.1 = some B) := by
    rintro (hk | ⟨r, hr, e⟩)
    · exact H.pdK p hp B hB hk
    · exact H.dist p hp r (hsub r hr).1 (Ne.symm (hsub r hr).2) B hB e
  have R0 : Rel P ⟨w, fun k => w0.keep k ∨ ∃ r ∈ pd', st r.1 = some k⟩ ρ h w := H.rel.rebase hK' (fun k hk => H.rel.kl k (hK' k hk)) ⟨rfl, rfl, rfl, Nat.le_refl _, fun _ _ => rfl⟩
  have R1 := R0.add (w' := w) (o := q.1) (b := B) (c := 0) (Below.refl _ _) (fun _ _ _ => rfl) q2 ⟨hKB, (Array.getElem?_eq_some_iff.1 hwB).1⟩ (fun k o hk hl e => (H.rel.lo k o hk hl).1 (.inr ⟨p, hp, by rw [hB, e]⟩)) (q1.rel _ _ _ (by
    rw [hBn, q1.ext h.n ρ _ hx q2]; exact hwB))
  have hl1 := (H.tm.mono (show h.n ≤ (h.new q.1).n by omega)).setT p.2.dst hbv
  have hg : ∀ r ∈ pd', ∀ d ∈ r.2.looksAt ⟨ops⟩, (setT t p.2.dst (q.2 h.n)).get d = t.get d := fun r hr d hd => by
    refine setT_get (H.tm.mono (show h.n ≤ (h.new q.1).n by omega)) hbv fun e => ?_
    exact (H.pd_apart hp (hsub r hr).1 (Ne.symm (hsub r hr).2)).1 d e hd
  have hlay : ∀ r ∈ pd', layF P (evl (setT t p.2.dst (q.2 h.n))) r.2.op = layF P (evl t) r.2.op := fun r hr => layF_congr (looks_evl (hg r hr))
  refine ⟨_, _, hx, by omega, H.lenW, H.lenL, hl1, H.df, H.under, H.kl, R1, ?_, fun r hr => H.pdL r (hsub r hr).1, ?_, fun r hr => H.pdK r (hsub r hr).1, ?_, fun r hr u hu => H.nowait r (hsub r hr).1 u (hsub u hu).1, hnd, fun r hr u hu => H.dist r (hsub r hr).1 u (hsub u hu).1, ?_, ?_, ?_, ?_⟩
  · intro r hr
    obtain ⟨a1, a2, a3, a4, a5⟩ := H.pdop r (hsub r hr).1
    exact ⟨a1, a2, a3, (looks_want (hg r hr)).trans a4, by rw [hlay r hr]; exact a5⟩
  · intro r hr B' hB' q' hq'
    rw [hlay r hr] at hq'
    obtain ⟨a1, a2⟩ := H.pdB r (hsub r hr).1 B' hB' q' hq'
    obtain ⟨b1, b2, -⟩ := lay_run (H.tm.eval ρ D) (H.pdop r (hsub r hr).1).2.2.1 hq'
    exact ⟨by rw [b1.ext h.n ρ _ hx b2]; exact a1, a2⟩
  · intro r hr j oj hj hne hL
    exact H.apart r (hsub r hr).1 j oj hj hne (hL.imp_right fun ⟨u, hu, e⟩ => ⟨u, (hsub u hu).1, e⟩)
  · intro j hj
    rw [H.listed j hj]
    constructor
    · rintro (h1 | ⟨u, hu, e⟩)
      · exact .inl h1
      · rcases hsup u hu with h2 | h2
        · refine .inl ?_
          rw [← e, h2]
          exact (H.pdL p hp).1.2 hst
        · exact .inr ⟨u, h2, e⟩
    · exact fun h1 => h1.imp_right fun ⟨u, hu, e⟩ => ⟨u, (hsub u hu).1, e⟩
  · rw [H.size]; cases p.2.dst <;> simp [lset]
  · intro s hs
    by_cases e : p.2.dst = some s
    · rw [e]
      simp only [lset]
      by_cases hlt : s < l.length
      · rw [List.getElem?_set_self hlt, htB s e (by rw [H.size]; exact hlt)]
        simp only [Option.map_some, q1.v, hBn]
      · rw [Array.getElem?_eq_none (by rw [H.size]; exact Nat.le_of_not_lt hlt), List.getElem?_eq_none (by rw [List.length_set]; exact Nat.le_of_not_lt hlt)]
        rfl
    · have h1 : (lset l p.2.dst (q.2 h.n))[s]? = l[s]? := by
        cases hd : p.2.dst with
        | none => rfl
        | some d =>
          have : d ≠ s := fun x => e (by rw [hd, x])
          simp only [lset, List.getElem?_set_ne this]
      rw [h1, H.tmps s fun r hr hsr => ?_]
      · cases hls : l[s]? with
        | none => rfl
        | some x => simp only [Option.map_some, hx.v x (bds_get H.tm.bd hls)]
      · rcases hsup r hr with h2 | h2
        · rw [H.pd_eq hr hp h2]; exact e
        · exact hs r h2 hsr
  · intro F hF
    exact (H.facts F hF).imp_right fun ⟨f, hf, h1⟩ => ⟨f, hf, h1.ext hx (by omega)⟩
theorem Sim.lay {c : Nat → Bool} : ∀ (pd kept : List (Nat × Oper)) {t t' : Tm} {h h' : Run.H} {ρ : Rn} {l : List Value} {r : List (Nat × Oper)}, Sim P C ops D w0 LW (kept ++ pd) fs t h L FS st a w ρ l → (∀ p ∈ pd, c p.1 = true → (st p.1).isSome = true) → Run.lay P C c pd t h = some (r, t', h') →
    ∃ ρ' l', ρ.ext h.n ρ' ∧ h.n ≤ h'.n ∧ Sim P C ops D w0 LW (kept ++ r) fs t' h' L FS st a w ρ' l' ∧ ∀ p ∈ r, p ∈ pd ∧ c p.1 = false
  | [], kept, t, t', h, h', ρ, l, r, H, hc, ho => by
    cases ho
    exact ⟨ρ, l, Rn.ext.refl _ _, Nat.le_refl _, H, fun p hp => by cases hp⟩
  | (i, o) :: pd, kept, t, t', h, h', ρ, l, r, H, hc, ho => by
    simp only [Run.lay] at ho
    cases hci : c i with
    | true =>
      rw [hci] at ho
      simp only at ho
      split at ho
      · rename_i v h1 hop
        have hnd := H.nodup
        rw [List.map_append, List.map_cons, List.nodup_append] at hnd
        obtain ⟨n1, n2, n3⟩ := hnd
        rw [List.nodup_cons] at n2
        obtain ⟨ρ1, l1, e1, e2, H1⟩ := H.lay1 (p := (i, o)) (pd' := kept ++ pd) (by simp) (hc (i, o) (by simp) hci) (fun r hr => ⟨by
            rcases List.mem_append.1 hr with hr | hr
            · exact List.mem_append.2 (.inl hr)
            · exact List.mem_append.2 (.inr (List.mem_cons_of_mem _ hr)), fun e => by
            rcases List.mem_append.1 hr with hr | hr
            · exact n3 r.1 (List.mem_map.2 ⟨r, hr, rfl⟩) i (List.mem_cons_self ..) e
            · exact n2.1 (List.mem_map.2 ⟨r, hr, e⟩)⟩) (fun r hr => by
            rcases List.mem_append.1 hr with hr | hr
            · exact .inr (List.mem_append.2 (.inl hr))
            · rcases List.mem_cons.1 hr with rfl | hr
              · exact .inl rfl
              · exact .inr (List.mem_append.2 (.inr hr))) (by
            rw [List.map_append, List.nodup_append]
            exact ⟨n1, n2.2, fun x hx y hy => n3 x hx y (List.mem_cons_of_mem _ hy)⟩) hop
        obtain ⟨ρ2, l2, f1, f2, H2, f4⟩ := Sim.lay pd kept H1 (fun p hp => hc p (List.mem_cons_of_mem _ hp)) ho
        exact ⟨ρ2, l2, e1.trans f1 e2, Nat.le_trans e2 f2, H2, fun p hp => ⟨List.mem_cons_of_mem _ (f4 p hp).1, (f4 p hp).2⟩⟩
      · cases ho
    | false =>
      rw [hci] at ho
      simp only at ho
      split at ho
      · rename_i r0 t1 h1 hl
        cases ho
        have H' : Sim P C ops D w0 LW ((kept ++ [(i, o)]) ++ pd) fs t h L FS st a w ρ l := by simpa using H
        obtain ⟨ρ2, l2, f1, f2, H2, f4⟩ := Sim.lay pd (kept ++ [(i, o)]) H' (fun p hp => hc p (List.mem_cons_of_mem _ hp)) hl
        refine ⟨ρ2, l2, f1, f2, by simpa using H2, fun p hp => ?_⟩
        rcases List.mem_cons.1 hp with rfl | hp
        · exact ⟨List.mem_cons_self .., hci⟩
        · exact ⟨List.mem_cons_of_mem _ (f4 p hp).1, (f4 p hp).2⟩
      · cases ho
/-- An operation that is carried out on both sides. -/
theorem Sim.put (H : Sim P C ops D w0 LW pd fs t h L FS st a w ρ l) {i : Nat} {o : Oper} (hi : ops[i]? = some o) (hL : LW[i]? = some false) (hw : ∀ p ∈ pd, waits o p.1 = false) {v : Value} {h2 : Run.H} {σ : Rn} {w2 : World} (hx : ρ.ext h.n σ) (hn : h.n ≤ h2.n)
    (R : Rel P ⟨w, fun k => w0.keep k ∨ ∃ p ∈ pd, st p.1 = some k⟩ σ h2 w2) (hv : bd h2.n v) {fs2 : List Fact} {FS2 : Held} (hF : ∀ F ∈ FS2, (∀ w, F.2 w) ∨ ∃ f ∈ fs2, FactOk P ops D σ h2.n F f) :
    Sim P C ops D w0 (LW.set i true) pd fs2 (setT t o.dst v) h2 (L.set i true) FS2 st (a.put o.dst (σ.v v)) w2 σ (lset l o.dst v) := by
  have hap : ∀ p ∈ pd, apartS ops p.2 o := fun p hp => by
    have hne : i ≠ p.1 := fun e => by
      have := (H.listed p.1 (H.pd_lt hp)).2 (.inr ⟨p, hp, rfl⟩)
      rw [← e, hL] at this; cases this
    rcases H.apart p hp i o hi hne (.inl hL) with h1 | h1
    · rw [hw p hp] at h1; cases h1
    · exact h1
  have hilt : i < ops.length := (List.getElem?_eq_some_iff.1 hi).1
  have htm := H.tm.mono hn
  have hg : ∀ r ∈ pd, ∀ d ∈ r.2.looksAt ⟨ops⟩, (setT t o.dst v).get d = t.get d := fun r hr d hd => setT_get htm hv fun e => (hap r hr).2.2 d e hd
  have hlay : ∀ r ∈ pd, layF P (evl (setT t o.dst v)) r.2.op = layF P (evl t) r.2.op := fun r hr => layF_congr (looks_evl (hg r hr))
  refine ⟨by simp [H.lenW], by simp [H.lenL], htm.setT o.dst hv, ?_, H.under.trans' (fun _ hk => .inl hk) R.below, H.kl, R.self, ?_, ?_, ?_, H.pdK, ?_, H.nowait, H.nodup, H.dist, ?_, ?_, ?_, hF⟩
  · rw [← H.df]; cases o.dst <;> rfl
  · intro r hr
    obtain ⟨a1, a2, a3, a4, a5⟩ := H.pdop r hr
    exact ⟨a1, a2, a3, (looks_want (hg r hr)).trans a4, by rw [hlay r hr]; exact a5⟩
  · intro r hr
    obtain ⟨a1, a2⟩ := H.pdL r hr
    have hne : i ≠ r.1 := fun e => by
      have := (H.listed r.1 (H.pd_lt hr)).2 (.inr ⟨r, hr, rfl⟩)
      rw [← e, hL] at this; cases this
    refine ⟨by rw [List.getElem?_set_ne hne]; exact a1, fun e he hb => ?_⟩
    exact set_tt (a2 e he hb)
  · intro r hr B hB q hq
    rw [hlay r hr] at hq
    obtain ⟨a1, a2⟩ := H.pdB r hr B hB q hq
    obtain ⟨b1, b2, -⟩ := lay_run (H.tm.eval ρ D) (H.pdop r hr).2.2.1 hq
    refine ⟨?_, fun d hd hlt => ?_⟩
    · rw [b1.ext h.n ρ σ hx b2, ← a1]
      exact R.below.block B (.inr ⟨r, hr, hB⟩)
    · have hne : o.dst ≠ some d := fun e => (hap r hr).2.1 d hd e
      rw [put_get hne]
      refine a2 d hd ?_
      cases hx : o.dst with
      | none => rw [hx] at hlt; exact hlt
      | some y => rw [hx] at hlt; simpa [Act.put] using hlt
  · intro r hr j oj hj hne hLj
    exact H.apart r hr j oj hj hne (hLj.imp_left fun h1 => (set_tf h1).1)
  · intro j hj
    by_cases e : i = j
    · subst e
      rw [List.getElem?_set_self (by rw [H.lenW]; exact hj), List.getElem?_set_self (by rw [H.lenL]; exact hj)]
      simp
    · rw [List.getElem?_set_ne e, List.getElem?_set_ne e]
      exact H.listed j hj
  · cases hd : o.dst <;> simp [Act.put, lset, H.size]
  · intro s hs
    by_cases e : o.dst = some s
    · rw [e]
      simp only [lset, Act.put]
      by_cases hlt : s < l.length
      · rw [List.getElem?_set_self hlt]
        simp [H.size, hlt]
      · rw [Array.getElem?_eq_none (by simpa [H.size] using hlt), List.getElem?_eq_none (by rw [List.length_set]; exact Nat.le_of_not_lt hlt)]
        rfl
    · have h1 : (lset l o.dst v)[s]? = l[s]? := by
        cases hd : o.dst with
        | none => rfl
        | some d =>
          have : d ≠ s := fun x => e (by rw [hd, x])
          simp only [lset, List.getElem?_set_ne this]
      rw [h1, put_get e, H.tmps s hs]
      cases hls : l[s]? with
      | none => rfl
      | some x => simp only [Option.map_some, hx.v x (bds_get H.tm.bd hls)]
/-- An operation that no put-off one hinders looks at the same in the world. -/
theorem Sim.does (H : Sim P C ops D w0 LW pd fs t h L FS st a w ρ l) {i : Nat} {o : Oper} (hi : ops[i]? = some o) (hL : LW[i]? = some false) (hw : ∀ p ∈ pd, waits o p.1 = false) {w1 w2 : World} {v : Value} (hd : Does P ⟨ops⟩ o ⟨⟨ρ.vs l⟩, D⟩ w1 v w2) : Does P ⟨ops⟩ o a w1 v w2 :=
  hd.congr fun d hdl => by
    rw [vs_get']
    refine H.tmps d fun p hp _ e => ?_
    have hne : i ≠ p.1 := fun e => by
      have := (H.listed p.1 (H.pd_lt hp)).2 (.inr ⟨p, hp, rfl⟩)
      rw [← e, hL] at this; cases this
    rcases H.apart p hp i o hi hne (.inl hL) with h1 | h1
    · rw [hw p hp] at h1; cases h1
    · exact h1.1 d e hdl
/-- An operation is put off. -/
theorem Sim.hold (H : Sim P C ops D w0 LW pd fs t h L FS st a w ρ l) {i : Nat} {o : Oper} (hr : i ∈ readyL ops LW) (hi : ops[i]? = some o) (hw : ∀ p ∈ pd, waits o p.1 = false) (hlay : lays o.op = true) (hfr : freeI ops LW i o = true) (hwt : want ops o t = true) {nx : Nx} (ho : opK P C (evl t) o.op h = some nx) :
    ∃ st', Sim P C ops D w0 (LW.set i true) ((i, o) :: pd) fs t h L FS st' a w ρ l := by
  obtain ⟨hL, o', hi', hall⟩ := mem_readyL.1 hr
  rw [hi] at hi'
  cases hi'
  have hilt : i < ops.length := (List.getElem?_eq_some_iff.1 hi).1
  obtain ⟨q, p5, p3, -⟩ := lay_spec hlay ho
  have hne : ∀ p ∈ pd, p.1 ≠ i := fun p hp e => by
    have := (H.listed p.1 (H.pd_lt hp)).2 (.inr ⟨p, hp, rfl⟩)
    rw [e, hL] at this; cases this
  let st' : Nat → Option Nat := fun k => if k = i then none else st k
  have hst : ∀ p ∈ pd, st' p.1 = st p.1 := fun p hp => by simp only [st', hne p hp, if_false]
  have hsti : st' i = none := by simp [st']
  have hLi : L[i]? ≠ some true := fun e => by
    have := (H.listed i hilt).2 (.inl e)
    rw [hL] at this; cases this
  have hpre : ∀ e ∈ o.after, Region.binds .any e = true → L[e.on]? = some true := fun e he hb => by
    have h1 := hall e he hb
    have hlt : e.on < ops.length := by rw [← H.lenW]; exact (List.getElem?_eq_some_iff.1 h1).1
    rcases (H.listed e.on hlt).1 h1 with h2 | ⟨p, hp, h2⟩
    · exact h2
    · have : waits o p.1 = true := waits_iff.2 ⟨e, he, hb, h2.symm⟩
      rw [hw p hp] at this; cases this
  have hwL : ∀ (o' : Oper) j, (∀ e ∈ o'.after, Region.binds .any e = true → L[e.on]? = some true) → L[j]? ≠ some true → waits o' j = false := fun o' j h1 h2 => by
    cases hh : waits o' j with
    | false => rfl
    | true =>
      obtain ⟨e, he, hb, e1⟩ := waits_iff.1 hh
      have := h1 e he hb
      rw [e1] at this
      exact absurd this h2
  have hK : (fun k => w0.keep k ∨ ∃ p ∈ (i, o) :: pd, st' p.1 = some k) = fun k => w0.keep k ∨ ∃ p ∈ pd, st p.1 = some k := by
    funext k
    apply propext
    constructor
    · rintro (h1 | ⟨r, hr, h1⟩)
      · exact .inl h1
      · rcases List.mem_cons.1 hr with rfl | hr
        · rw [hsti] at h1; cases h1
        · rw [hst r hr] at h1; exact .inr ⟨r, hr, h1⟩
    · rintro (h1 | ⟨r, hr, h1⟩)
      · exact .inl h1
      · exact .inr ⟨r, List.mem_cons_of_mem _ hr, by rw [hst r hr]; exact h1⟩
  refine ⟨st', by simp [H.lenW], H.lenL, H.tm, H.df, H.under, H.kl, by rw [hK]; exact H.rel, ?_, ?_, ?_, ?_, ?_, ?_, ?_, ?_, ?_, H.size, ?_, H.facts⟩
  · intro p hp
    rcases List.mem_cons.1 hp with rfl | hp
    · exact ⟨hi, hlay, p3, hwt, q, p5⟩
    · exact H.pdop p hp
  · intro p hp
    rcases List.mem_cons.1 hp with rfl | hp
    · exact ⟨by rw [hsti]; simp [hLi], hpre⟩
    · rw [hst p hp]; exact H.pdL p hp
  · intro p hp B hB
    rcases List.mem_cons.1 hp with rfl | hp
    · rw [hsti] at hB; cases hB
    · rw [hst p hp] at hB; exact H.pdB p hp B hB
  · intro p hp B hB
    rcases List.mem_cons.1 hp with rfl | hp
    · rw [hsti] at hB; cases hB
    · rw [hst p hp] at hB; exact H.pdK p hp B hB
  · intro p hp j oj hj hnej hc
    have hLW : (LW.set i true)[j]? = some false → LW[j]? = some false := fun h1 => (set_tf h1).1
    rcases List.mem_cons.1 hp with rfl | hp
    · rcases hc with hc | ⟨r, hr, e⟩
      · exact (freeI_spec hfr hj hnej (hLW hc)).imp_right Oper.apart_spec
      · rcases List.mem_cons.1 hr with rfl | hr
        · exact absurd e.symm hnej
        · subst e
          have h1 := (H.pdop r hr).1
          rw [hj] at h1
          cases h1
          rcases H.apart r hr i o hi (Ne.symm hnej) (.inl hL) with h2 | h2
          · rw [hw r hr] at h2; cases h2
          · exact .inr h2.symm
    · rcases hc with hc | ⟨r, hr, e⟩
      · exact H.apart p hp j oj hj hnej (.inl (hLW hc))
      · rcases List.mem_cons.1 hr with rfl | hr
        · exact H.apart p hp j oj hj hnej (.inl (by rw [← e]; exact hL))
        · exact H.apart p hp j oj hj hnej (.inr ⟨r, hr, e⟩)
  · intro p hp r hr
    rcases List.mem_cons.1 hp with rfl | hp
    · rcases List.mem_cons.1 hr with rfl | hr
      · exact hwL _ _ hpre hLi
      · exact hwL _ _ (H.pdL r hr).2 hLi
    · rcases List.mem_cons.1 hr with rfl | hr
      · exact hw p hp
      · exact H.nowait p hp r hr
  · rw [List.map_cons, List.nodup_cons]
    exact ⟨fun hm => by obtain ⟨p, hp, e⟩ := List.mem_map.1 hm; exact hne p hp e, H.nodup⟩
  · intro p hp r hr hnpr B hB hB'
    rcases List.mem_cons.1 hp with rfl | hp
    · rw [hsti] at hB; cases hB
    · rcases List.mem_cons.1 hr with rfl | hr
      · rw [hsti] at hB'; cases hB'
      · rw [hst p hp] at hB; rw [hst r hr] at hB'
        exact H.dist p hp r hr hnpr B hB hB'
  · intro j hj
    by_cases e : i = j
    · subst e
      rw [List.getElem?_set_self (by rw [H.lenW]; exact hj)]
      simp
    · rw [List.getElem?_set_ne e, H.listed j hj]
      simp only [List.mem_cons, exists_eq_or_imp]
      constructor
      · exact fun h1 => h1.imp_right .inr
      · exact fun h1 => h1.imp_right fun h2 => h2.elim (fun h3 => absurd h3 e) id
  · intro s hs
    exact H.tmps s fun p hp hsp => hs p (List.mem_cons_of_mem _ hp) (by rw [hst p hp]; exact hsp)
end
/-! a region whose order is drawn, whole -/
section
variable {P : Program} {C : Cfg} {ops : List Oper} {D : List Deferred} {w0 : Base} {ih : Ex}
def Fin (P : Program) (w0 : Base) (ρ0 : Rn) (n0 : Nat) (D : List Deferred) (tf : Tm) (hf : Run.H) (a' : Act) (w' : World) : Prop :=
  ∃ σ l', ρ0.ext n0 σ ∧ n0 ≤ hf.n ∧ Rel P w0 σ hf w' ∧ TmL hf.n tf l' ∧ a' = ⟨⟨σ.vs l'⟩, D⟩
theorem set_arr (L : List Bool) (i : Nat) : (⟨L⟩ : Array Bool).setIfInBounds i true = ⟨L.set i true⟩ := by simp
theorem apart_of {x y : Oper} (h : apartS ops x y) : Oper.apart ⟨ops⟩ x y = true := by
  unfold Oper.apart
  obtain ⟨h1, h2, h3⟩ := h
  cases hx : x.dst with
  | none => cases hy : y.dst with
    | none => rfl
    | some e => simp; exact h3 e hy
  | some d => cases hy : y.dst with
    | none => simp; exact h1 d hx
    | some e =>
      have := h2 d hx
      rw [hy] at this
      simp only [ne_eq, Option.some.injEq] at this
      simp
      exact ⟨⟨h1 d hx, this⟩, h3 e hy⟩
theorem pd_all {pd : List (Nat × Oper)} {o : Oper} (h : pd.all (fun p => !waits o p.1) = true) : ∀ p ∈ pd, waits o p.1 = false := fun p hp => by
  have := List.all_eq_true.1 h p hp
  simpa using this
theorem pickI_spec {LW : List Bool} {pd : List (Nat × Oper)} {t : Tm} {h : Run.H} : ∀ {rs : List Nat} {i : Nat} {o : Oper} {v : Value} {fs' : List Fact}, pickI P C ops LW pd t h rs = some (i, o, v, fs') →
    i ∈ rs ∧ ops[i]? = some o ∧ freeI ops LW i o = true ∧ (∀ p ∈ pd, waits o p.1 = false) ∧ ((want ops o t = false ∧ v = undef ∧ fs' = []) ∨ (want ops o t = true ∧ quiet o.op = true ∧ (∃ h1, opK P C (evl t) o.op h = some (.val v h1)) ∧ fineV v = true ∧ fs' = [⟨i, t, o, v⟩]))
  | [], _, _, _, _, h => by cases h
  | r :: rs, i, o, v, fs', h => by
    simp only [pickI] at h
    rw [nth_get] at h
    split at h
    · rename_i o' ho
      have key : ∀ {X : Prop}, (i ∈ rs ∧ X) → (i ∈ r :: rs ∧ X) := fun h => ⟨List.mem_cons_of_mem _ h.1, h.2⟩
      split at h
      · rename_i h1 h2
        cases h
        simp only [Bool.and_eq_true] at h1
        exact ⟨List.mem_cons_self .., ho, h1.1, pd_all h1.2, .inl ⟨h2, rfl, rfl⟩⟩
      · rename_i h1 h2 h3
        simp only [Bool.and_eq_true] at h1
        split at h
        · rename_i v' h' hop
          split at h
          · rename_i heq
            cases h
            exact ⟨List.mem_cons_self .., ho, h1.1, pd_all h1.2, .inr ⟨h2, h3, ⟨_, hop⟩, heq, rfl⟩⟩
          · exact key (pickI_spec (rs := rs) h)
        · exact key (pickI_spec (rs := rs) h)
      · exact key (pickI_spec (rs := rs) h)
    · obtain ⟨a, b⟩ := pickI_spec (rs := rs) h
      exact ⟨List.mem_cons_of_mem _ a, b⟩
theorem pendI_spec {LW : List Bool} {pd : List (Nat × Oper)} {t : Tm} {h : Run.H} : ∀ {rs : List Nat} {i : Nat} {o : Oper}, pendI P C ops LW pd t h rs = some (i, o) →
    i ∈ rs ∧ ops[i]? = some o ∧ freeI ops LW i o = true ∧ (∀ p ∈ pd, waits o p.1 = false) ∧ lays o.op = true ∧ want ops o t = true ∧ ∃ nx, opK P C (evl t) o.op h = some nx
  | [], _, _, h => by cases h
  | r :: rs, i, o, h => by
    simp only [pendI] at h
    rw [nth_get] at h
    split at h
    · rename_i o' ho
      split at h
      · rename_i h1
        cases h
        simp only [Bool.and_eq_true] at h1
        exact ⟨List.mem_cons_self .., ho, h1.1.1.1.2, pd_all h1.1.2, h1.1.1.1.1, h1.1.1.2, Option.isSome_iff_exists.1 h1.2⟩
      · obtain ⟨a, b⟩ := pendI_spec (rs := rs) h
        exact ⟨List.mem_cons_of_mem _ a, b⟩
    · obtain ⟨a, b⟩ := pendI_spec (rs := rs) h
      exact ⟨List.mem_cons_of_mem _ a, b⟩
section
variable {LW L : List Bool} {pd : List (Nat × Oper)} {fs : List Fact} {t : Tm} {h : Run.H} {FS : Held} {st : Nat → Option Nat} {a : Act} {w : World} {ρ : Rn} {l : List Value}
theorem Sim.L_false (H : Sim P C ops D w0 LW pd fs t h L FS st a w ρ l) {i : Nat} (hi : LW[i]? = some false) : L[i]? = some false := by
  have hlt : i < ops.length := by rw [← H.lenW]; exact (List.getElem?_eq_some_iff.1 hi).1
  have hl : i < L.length := by rw [H.lenL]; exact hlt
  rw [List.getElem?_eq_getElem hl]
  cases hb : L[i] with
  | false => rfl
  | true =>
    have := (H.listed i hlt).2 (.inl (by rw [List.getElem?_eq_getElem hl, hb]))
    rw [hi] at this; cases this
theorem Sim.LW_true (H : Sim P C ops D w0 LW pd fs t h L FS st a w ρ l) {i : Nat} (hi : L[i]? = some true) : LW[i]? = some true :=
  (H.listed i (by rw [← H.lenL]; exact (List.getElem?_eq_some_iff.1 hi).1)).2 (.inl hi)
/-- A put-off operation that has not come up could come up. -/
theorem Sim.pd_ready (H : Sim P C ops D w0 LW pd fs t h L FS st a w ρ l) {p : Nat × Oper} (hp : p ∈ pd) (hs : ¬ (st p.1).isSome = true) : p.1 ∈ Region.ready .any ⟨ops⟩ ⟨L⟩ := by
  rw [mem_rdy]
  obtain ⟨h1, h2⟩ := H.pdL p hp
  have hl : p.1 < L.length := by rw [H.lenL]; exact H.pd_lt hp
  refine ⟨?_, p.2, (H.pdop p hp).1, h2⟩
  have h3 := mt h1.1 hs
  rw [List.getElem?_eq_getElem hl] at h3 ⊢
  cases hb : L[p.1] with
  | false => rfl
  | true => rw [hb] at h3; exact absurd rfl h3
theorem Sim.fin (H : Sim P C ops D w0 LW pd fs t h L FS st a w ρ l) (hs : ∀ p ∈ pd, (st p.1).isSome = true) {ρ0 : Rn} {n0 : Nat} (hx : ρ0.ext n0 ρ) (hn : n0 ≤ h.n) {r : List (Nat × Oper)} {tf : Tm} {hf : Run.H} (ho : Run.lay P C (fun _ => true) pd t h = some (r, tf, hf)) : Fin P w0 ρ0 n0 D tf hf a w := by
  obtain ⟨ρ', l', e1, e2, H', e4⟩ := Sim.lay pd [] (by simpa using H) (fun p hp _ => hs p hp) ho
  have hr : r = [] := by
    cases r with
    | nil => rfl
    | cons p r => have := (e4 p (List.mem_cons_self ..)).2; cases this
  subst hr
  refine ⟨ρ', l', hx.trans e1 hn, Nat.le_trans hn e2, ?_, H'.tm, ?_⟩
  · exact H'.rel.rebase (fun k hk => .inl hk) H'.kl H'.under
  · have h1 : a.tmps = ⟨ρ'.vs l'⟩ := by
      apply Array.ext_getElem?
      intro s
      rw [vs_get', H'.tmps s (fun p hp => by simp at hp)]
    have h2 := H'.df
    cases a
    simp only at h1 h2
    subst h1 h2
    rfl
end
theorem dr_sound (hC : CfgOk P C) (hN : NoNum P) (S : Sound P ih) {ρ0 : Rn} {n0 : Nat} {tf : Tm} {hf : Run.H} : ∀ (N m n : Nat) {LW L : List Bool} {pd : List (Nat × Oper)} {fs : List Fact} {t : Tm} {h : Run.H} {FS : Held} {st : Nat → Option Nat} {a : Act} {w : World} {ρ : Rn} {l : List Value},
    n + m ≤ N → cnt L ≤ n → Sim P C ops D w0 LW pd fs t h L FS st a w ρ l → (∀ f ∈ fs, holdsP P C h f) → (∀ F ∈ FS, F.2 w) → ρ0.ext n0 ρ → n0 ≤ h.n → dr P C ih ops m LW pd fs t h = some (tf, hf) →
    DrawOk P ⟨ops⟩ (Fin P w0 ρ0 n0 D tf hf) n ⟨L⟩ FS a w := by
  intro N
  induction N with
  | zero =>
    intro m n LW L pd fs t h FS st a w ρ l hm hcnt H hh hF hx hn ho
    have hm0 : m = 0 := by omega
    have hn0 : n = 0 := by omega
    subst hm0 hn0
    have hno : ∀ i, L[i]? ≠ some false := fun i e => by have := cnt_pos e; omega
    have hrd : Region.ready .any ⟨ops⟩ ⟨L⟩ = [] := List.eq_nil_iff_forall_not_mem.2 fun i hi => hno i (mem_rdy.1 hi).1
    have hall : ∀ p ∈ pd, (st p.1).isSome = true := fun p hp => Classical.byContradiction fun e => by
      have := H.pd_ready hp e
      rw [hrd] at this; cases this
    simp only [dr] at ho
    split at ho
    · split at ho
      · rename_i r t' h' hl
        cases ho
        exact ⟨hrd, H.fin hall hx hn hl⟩
      · cases ho
    · cases ho
  | succ N IH =>
    intro m n LW L pd fs t h FS st a w ρ l hm hcnt H hh hF hx hn ho
    -- a put-off operation comes up
    have pendStep : ∀ n', n = n' + 1 → ∀ i ∈ Region.ready .any ⟨ops⟩ ⟨L⟩, LW[i]? ≠ some false → ∀ o, (⟨ops⟩ : Array Oper)[i]? = some o →
        ∃ v w', Does P ⟨ops⟩ o a w v w' ∧ (∀ f ∈ dropC o FS, f.2 w') ∧ DrawOk P ⟨ops⟩ (Fin P w0 ρ0 n0 D tf hf) n' ((⟨L⟩ : Array Bool).setIfInBounds i true) (dropC o FS) (a.put o.dst v) w' := by
      intro n' en i hi hLW o ho'
      obtain ⟨hL, o', hio, hall⟩ := mem_rdy.1 hi
      have ho'' : ops[i]? = some o := by simpa using ho'
      have hlt : i < ops.length := (List.getElem?_eq_some_iff.1 hio).1
      have hLWt : LW[i]? = some true := by
        have hl : i < LW.length := by rw [H.lenW]; exact hlt
        rw [List.getElem?_eq_getElem hl] at hLW ⊢
        cases hb : LW[i] with
        | true => rfl
        | false => rw [hb] at hLW; exact absurd rfl hLW
      rcases (H.listed i hlt).1 hLWt with h1 | ⟨p, hp, h1⟩
      · rw [hL] at h1; cases h1
      · subst h1
        have hpo := (H.pdop p hp).1
        rw [ho''] at hpo
        cases hpo
        have hst : st p.1 = none := by
          cases hs : st p.1 with
          | none => rfl
          | some B =>
            have := (H.pdL p hp).1.2 (by rw [hs]; rfl)
            rw [hL] at this; cases this
        obtain ⟨v, w', k1, k2, st', H'⟩ := H.pend hC hh hp hst
        refine ⟨v, w', k1, fun f hf => k2 f (List.mem_filter.1 hf).1, ?_⟩
        rw [set_arr]
        refine DrawOk.weaken _ (fun f hf => (List.mem_filter.1 hf).1) (IH m n' (by omega) ?_ H' hh k2 hx hn ho)
        have := cnt_set hL
        omega
    -- the end
    have ending : readyL ops LW = [] → (∃ r, Run.lay P C (fun _ => true) pd t h = some (r, tf, hf)) → DrawOk P ⟨ops⟩ (Fin P w0 ρ0 n0 D tf hf) n ⟨L⟩ FS a w := by
      rintro hre ⟨r, hl⟩
      have hG : Region.ready .any ⟨ops⟩ ⟨L⟩ = [] → Fin P w0 ρ0 n0 D tf hf a w := fun hrd =>
        H.fin (fun p hp => Classical.byContradiction fun e => by
          have := H.pd_ready hp e
          rw [hrd] at this; cases this) hx hn hl
      cases n with
      | zero =>
        have hrd : Region.ready .any ⟨ops⟩ ⟨L⟩ = [] := List.eq_nil_iff_forall_not_mem.2 fun i hi => by have := cnt_pos (mem_rdy.1 hi).1; omega
        exact ⟨hrd, hG hrd⟩
      | succ n' =>
        refine ⟨hG, fun i hi o hio => pendStep n' rfl i hi (fun e => ?_) o hio⟩
        obtain ⟨_, o', h1, h2⟩ := mem_rdy.1 hi
        have : i ∈ readyL ops LW := mem_readyL.2 ⟨e, o', h1, fun e' he hb => H.LW_true (h2 e' he hb)⟩
        rw [hre] at this; cases this
    cases m with
    | zero =>
      simp only [dr] at ho
      split at ho
      · rename_i hre
        split at ho
        · rename_i r t' h' hl
          cases ho
          exact ending hre ⟨r, hl⟩
        · cases ho
      · cases ho
    | succ m =>
      simp only [dr] at ho
      split at ho
      · rename_i hre
        split at ho
        · rename_i r t' h' hl
          cases ho
          exact ending hre ⟨r, hl⟩
        · cases ho
      · rename_i i hre
        rw [nth_get] at ho
        split at ho
        · rename_i o hio
          split at ho
          · rename_i pd' t' h' hl
            split at ho
            · rename_i v h2 hv
              split at ho
              · rename_i hhf
                have hir : i ∈ readyL ops LW := by rw [hre]; exact List.mem_cons_self ..
                obtain ⟨hLW, o', hio', hpre⟩ := mem_readyL.1 hir
                rw [hio] at hio'
                cases hio'
                have hLi := H.L_false hLW
                cases n with
                | zero => have := cnt_pos hLi; omega
                | succ n' =>
                  refine ⟨fun hrd => ?_, fun j hj oj hoj => ?_⟩
                  · exfalso
                    have hall : ∀ p ∈ pd, (st p.1).isSome = true := fun p hp => Classical.byContradiction fun e => by
                      have := H.pd_ready hp e
                      rw [hrd] at this; cases this
                    have : i ∈ Region.ready .any ⟨ops⟩ ⟨L⟩ := mem_rdy.2 ⟨hLi, o, hio, fun e he hb => by
                      have h1 := hpre e he hb
                      have hlt : e.on < ops.length := by rw [← H.lenW]; exact (List.getElem?_eq_some_iff.1 h1).1
                      rcases (H.listed e.on hlt).1 h1 with h2 | ⟨p, hp, h2⟩
                      · exact h2
                      · rw [← h2]; exact (H.pdL p hp).1.2 (hall p hp)⟩
                    rw [hrd] at this; cases this
                  · by_cases hjl : LW[j]? = some false
                    · obtain ⟨hLj, oj', hoj', hprej⟩ := mem_rdy.1 hj
                      have hjr : j ∈ readyL ops LW := mem_readyL.2 ⟨hjl, oj', hoj', fun e' he hb => H.LW_true (hprej e' he hb)⟩
                      rw [hre, List.mem_singleton] at hjr
                      subst hjr
                      have e1 : ops[j]? = some oj := by simpa using hoj
                      rw [hio] at e1
                      cases e1
                      rw [hio] at hoj'
                      cases hoj'
                      obtain ⟨ρ', l', f1, f2, H1, f4⟩ := Sim.lay (c := waits o) pd [] (by simpa using H) (fun p hp hw => by
                        obtain ⟨e, he, hb, e1⟩ := waits_iff.1 hw
                        have := hprej e he hb
                        rw [e1] at this
                        exact (H.pdL p hp).1.1 this) hl
                      simp only [List.nil_append] at H1
                      have hw' : ∀ p ∈ pd', waits o p.1 = false := fun p hp => (f4 p hp).2
                      obtain ⟨σ, w2, g1, g2, g3, g4, g5⟩ := opVal_sound hC hN S H1.rel H1.tm D hv
                      have hfacts : ∀ F ∈ dropC o FS, (∀ w, F.2 w) ∨ ∃ f ∈ dropF o fs, FactOk P ops D σ h2.n F f := fun F hF' => by
                        obtain ⟨hF1, hF2⟩ := List.mem_filter.1 hF'
                        refine (H1.facts F hF1).imp_right fun ⟨f, hf, k1⟩ => ⟨f, ?_, k1.ext g1 g2⟩
                        unfold dropF
                        rw [List.mem_filter, k1.i]
                        exact ⟨hf, hF2⟩
                      have hh2 : ∀ f ∈ dropF o fs, holdsP P C h2 f := fun f hf => holdsT_P (hh f (List.mem_filter.1 hf).1) (List.all_eq_true.1 hhf f hf)
                      have hFw : ∀ F ∈ dropC o FS, F.2 w2 := fun F hF' => by
                        rcases hfacts F hF' with k1 | ⟨f, hf, k1⟩
                        · exact k1 w2
                        · exact k1.holds hC g3 (hh2 f hf)
                      refine ⟨σ.v v, w2, H1.does hio hLW hw' g5, hFw, ?_⟩
                      have H2 := H1.put hio hLW hw' g1 g2 g3 g4 hfacts
                      rw [set_arr]
                      rw [setN_eq] at ho
                      exact IH m n' (by omega) (by have := cnt_set hLi; omega) H2 hh2 hFw ((hx.trans f1 hn).trans g1 (Nat.le_trans hn f2)) (Nat.le_trans hn (Nat.le_trans f2 g2)) ho
                    · exact pendStep n' rfl j hj hjl oj hoj
              · cases ho
            · cases ho
          · cases ho
        · cases ho
      · rename_i rs hne1 hne2
        split at ho
        · rename_i i o v fs' hp
          obtain ⟨hir, hio, hfr, hw, hcase⟩ := pickI_spec hp
          obtain ⟨hLW, o', hio', hpre⟩ := mem_readyL.1 hir
          rw [hio] at hio'
          cases hio'
          have hLi := H.L_false hLW
          have hLpre : ∀ e ∈ o.after, Region.binds .any e = true → L[e.on]? = some true := fun e he hb => by
            have h1 := hpre e he hb
            have hlt : e.on < ops.length := by rw [← H.lenW]; exact (List.getElem?_eq_some_iff.1 h1).1
            rcases (H.listed e.on hlt).1 h1 with h2 | ⟨p, hp, h2⟩
            · exact h2
            · have : waits o p.1 = true := waits_iff.2 ⟨e, he, hb, h2.symm⟩
              rw [hw p hp] at this; cases this
          cases n with
          | zero => have := cnt_pos hLi; omega
          | succ n' =>
            have hfree : ∀ j oj, (⟨ops⟩ : Array Oper)[j]? = some oj → j ≠ i → (⟨L⟩ : Array Bool).getD j true = false → ¬ waitsA oj i → Oper.apart ⟨ops⟩ o oj = true := by
              intro j oj hoj hne hLj hnw
              have hoj' : ops[j]? = some oj := by simpa using hoj
              have hlt : j < ops.length := (List.getElem?_eq_some_iff.1 hoj').1
              have hl : j < LW.length := by rw [H.lenW]; exact hlt
              cases hb : LW[j] with
              | false =>
                rcases freeI_spec hfr hoj' hne (by rw [List.getElem?_eq_getElem hl, hb]) with h1 | h1
                · exact absurd (waits_iff.1 h1) hnw
                · exact h1
              | true =>
                rcases (H.listed j hlt).1 (by rw [List.getElem?_eq_getElem hl, hb]) with h1 | ⟨p, hp, h1⟩
                · simp [h1] at hLj
                · subst h1
                  have h2 := (H.pdop p hp).1
                  rw [hoj'] at h2
                  cases h2
                  rcases H.apart p hp i o hio (Ne.symm hne) (.inl hLW) with h3 | h3
                  · rw [hw p hp] at h3; cases h3
                  · exact apart_of h3.symm
            have hrd : i ∈ Region.ready .any ⟨ops⟩ ⟨L⟩ := mem_rdy.2 ⟨hLi, o, hio, hLpre⟩
            rw [setN_eq] at ho
            have hcnt' : cnt (L.set i true) ≤ n' := by have := cnt_set hLi; omega
            rcases hcase with ⟨hwt, rfl, rfl⟩ | ⟨hwt, hq, ⟨h1, hop⟩, heq, rfl⟩
            · have hdo : ∀ w, Does P ⟨ops⟩ o a w (ρ.v undef) w := fun w => H.does hio hLW hw (.inl ⟨(want_eq H.tm ρ ops o).trans hwt, undef_v ρ, rfl⟩)
              have hfacts : ∀ F ∈ (i, fun _ => True) :: FS, (∀ w, F.2 w) ∨ ∃ f ∈ [] ++ fs, FactOk P ops D ρ h.n F f := fun F hF' => by
                rcases List.mem_cons.1 hF' with rfl | hF'
                · exact .inl fun _ => trivial
                · exact H.facts F hF'
              have hF2 : ∀ F ∈ (i, fun _ => True) :: FS, F.2 w := fun F hF' => by
                rcases List.mem_cons.1 hF' with rfl | hF'
                · trivial
                · exact hF F hF'
              have H2 := H.put hio hLW hw (Rn.ext.refl _ _) (Nat.le_refl _) H.rel (bd_undef _) hfacts
              refine DrawOk.first (S := fun _ => True) (v := ρ.v undef) (by simpa using hio) n' ⟨L⟩ FS a w hfree hrd (fun w _ => hdo w) trivial hF ?_
              rw [set_arr]
              exact IH m n' (by omega) hcnt' H2 (by simpa using hh) hF2 hx hn ho
            · obtain ⟨v', e1, e2, e3⟩ := quiet_sound hC H.rel (H.tm.eval ρ D) hq hop
              cases e1
              have hok := opK_ok hop
              let St : World → Prop := fun w => Does P ⟨ops⟩ o ⟨⟨ρ.vs l⟩, D⟩ w (ρ.v v) w
              have hSt : St w := .inr ⟨(want_eq H.tm ρ ops o).trans hwt, hok.1, hok.2, .inl e2⟩
              have hfacts : ∀ F ∈ (i, St) :: FS, (∀ w, F.2 w) ∨ ∃ f ∈ [⟨i, t, o, v⟩] ++ fs, FactOk P ops D ρ h.n F f := fun F hF' => by
                rcases List.mem_cons.1 hF' with rfl | hF'
                · exact .inr ⟨⟨i, t, o, v⟩, by simp, rfl, hq, hwt, e3, l, H.tm, rfl⟩
                · exact (H.facts F hF').imp_right fun ⟨f, hf, k⟩ => ⟨f, by simp [hf], k⟩
              have hh2 : ∀ f ∈ [⟨i, t, o, v⟩] ++ fs, holdsP P C h f := fun f hf => by
                rcases List.mem_append.1 hf with hf | hf
                · rw [List.mem_singleton] at hf
                  subst hf
                  exact ⟨_, hop⟩
                · exact hh f hf
              have hF2 : ∀ F ∈ (i, St) :: FS, F.2 w := fun F hF' => by
                rcases List.mem_cons.1 hF' with rfl | hF'
                · exact hSt
                · exact hF F hF'
              have H2 := H.put hio hLW hw (Rn.ext.refl _ _) (Nat.le_refl _) H.rel e3 hfacts
              refine DrawOk.first (S := St) (v := ρ.v v) (by simpa using hio) n' ⟨L⟩ FS a w hfree hrd (fun w1 hw1 => H.does hio hLW hw hw1) hSt hF ?_
              rw [set_arr]
              exact IH m n' (by omega) hcnt' H2 hh2 hF2 hx hn ho
        · split at ho
          · rename_i i o hp
            obtain ⟨hir, hio, hfr, hw, hlay, hwt, nx, hop⟩ := pendI_spec hp
            obtain ⟨st', H'⟩ := H.hold hir hio hw hlay hfr hwt hop
            rw [setN_eq] at ho
            exact IH m n (by omega) hcnt H' hh hF hx hn ho
          · cases ho
theorem region_sound (hC : CfgOk P C) (hN : NoNum P) (hmix : P.follows .mixedOrders = true) (S : Sound P ih) {b : Frame} (hk : b.kind = .normal) {h : Run.H} {w : World} {ρ : Rn} {t tf : Tm} {hf : Run.H} {l : List Value} (hkl : ∀ k, w0.keep k → k < w0.w.heap.size) (R : Rel P w0 ρ h w) (hl : TmL h.n t l) {draw : Bool} (id : Nat)
    (ho : region P C ih ops draw t h = some (tf, hf)) :
    ∃ σ w' l', ρ.ext h.n σ ∧ h.n ≤ hf.n ∧ Rel P w0 σ hf w' ∧ TmL hf.n tf l' ∧ ∀ k cs, Steps P (lone (b.atR ⟨⟨ρ.vs l⟩, D⟩ (.code (.region id ⟨ops⟩ draw) :: k)) cs w) (lone (b.atR ⟨⟨σ.vs l'⟩, D⟩ k) cs w') := by
  unfold region at ho
  split at ho
  · obtain ⟨σ, w', l', e1, e2, e3, e4, e5⟩ := runSeq_sound (ops := ops) hC hN S hk D ops.length 0 (Nat.zero_add _).symm R hl (by simpa using ho)
    refine ⟨σ, w', l', e1, e2, e3, e4, fun k cs => .head stepR_region ?_⟩
    have := e5 k cs
    rw [← List.range_eq_range'] at this
    exact this
  · have R1 : Rel P w0 ρ h { w with drawn := w.drawn + 1 } := R.drawn _
    have hfr : ∀ j b, (List.replicate ops.length false)[j]? = some b → b = false := fun j b hj => by
      rw [List.getElem?_replicate] at hj
      split at hj
      · cases hj; rfl
      · cases hj
    have H : Sim P C ops D w0 (List.replicate ops.length false) [] [] t h (List.replicate ops.length false) [] (fun _ => none) ⟨⟨ρ.vs l⟩, D⟩ { w with drawn := w.drawn + 1 } ρ l := by
      refine ⟨by simp, by simp, hl, rfl, R1.below, R1.kl, ?_, fun p hp => (by cases hp), fun p hp => (by cases hp), fun p hp => (by cases hp), fun p hp => (by cases hp), fun p hp => (by cases hp), fun p hp => (by cases hp), by simp, fun p hp => (by cases hp), ?_, by simp [Rn.vs_len], fun s _ => vs_get' ρ l s, fun F hF => (by cases hF)⟩
      · exact R1.self.rebase (fun k hk => by
          rcases hk with hk | ⟨p, hp, _⟩
          · exact hk
          · cases hp) (fun k hk => by
          rcases hk with hk | ⟨p, hp, _⟩
          · exact R1.self.kl k hk
          · cases hp) ⟨rfl, rfl, rfl, Nat.le_refl _, fun _ _ => rfl⟩
      · intro j hj
        constructor
        · intro h1; exact .inl h1
        · rintro (h1 | ⟨p, hp, _⟩)
          · exact h1
          · cases hp
    have hcnt : ∀ n, cnt (List.replicate n false) ≤ n := fun n => by
      induction n with
      | zero => exact Nat.le_refl _
      | succ n ih => simp only [List.replicate_succ, cnt]; omega
    have hd := dr_sound hC hN S (ρ0 := ρ) (n0 := h.n) (ops.length + ops.length) ops.length ops.length (Nat.le_refl _) (hcnt _) H (fun f hf => by cases hf) (fun f hf => by cases hf) (Rn.ext.refl _ _) (Nat.le_refl _) ho
    obtain ⟨a', w', ⟨σ, l', e1, e2, e3, e4, rfl⟩, hs⟩ := DrawOk.steps hk _ (w.tape w.drawn (.order b.fn id)) _ _ _ _ hd
    refine ⟨σ, w', l', e1, e2, e3, e4, fun k cs => .head stepR_region_draw ?_⟩
    have := hs k cs
    simp only [Region.schedule, hmix, Bool.true_or, if_true, Region.linearise]
    simpa using this
end
/-! the steps of a frame -/
section
variable {P : Program} {C : Cfg} {w0 : Base} {ih : Ex}
theorem stepR_scope {b : Frame} {a : Act} {k : List Item} {cs : List Frame} {w : World} {c : Code} : step P (lone (b.atR a (.code (.scope c) :: k)) cs w) = .next (lone (b.atR a (.code c :: .inScope c :: k)) cs w) :=
  step_lone_go (by simp [stepG, stepG.exec, Frame.atR])
theorem stepR_inScope {b : Frame} {a : Act} {k : List Item} {cs : List Frame} {w : World} {c : Code} : step P (lone (b.atR a (.inScope c :: k)) cs w) = .next (lone (b.atR a k) cs w) :=
  step_lone_go (by simp [stepG, stepG.exec, Frame.atR])
theorem exitI_eq : ∀ {id : Nat} {k : List It}, exitTo id (k.map ItC) = (exitI id k).map (List.map ItC)
  | id, [] => rfl
  | id, .inBlock i :: k => by
    simp only [List.map_cons, ItC, exitTo, exitI]
    cases hb : Nat.beq i id with
    | true => rw [beq_true' hb]; simp
    | false => rw [if_neg (by simpa using beq_false' hb)]; exact exitI_eq
  | id, .code c :: k => by simp only [List.map_cons, ItC, exitTo, exitI]; exact exitI_eq
  | id, .inLoop c :: k => by simp only [List.map_cons, ItC, exitTo, exitI]; exact exitI_eq
  | id, .inScope c :: k => by simp only [List.map_cons, ItC, exitTo, exitI]; exact exitI_eq
  | id, .beginRound :: k => by simp only [List.map_cons, ItC, exitTo, exitI]; exact exitI_eq
theorem gotoI_eq : ∀ {l : Nat} {k : List It}, gotoIn l (k.map ItC) = (gotoI l k).map (List.map ItC)
  | l, [] => rfl
  | l, .inScope b :: k => by
    simp only [List.map_cons, ItC, gotoIn, gotoI]
    cases findLabel b l with
    | some r => rfl
    | none => exact gotoI_eq
  | l, .code c :: k => by simp only [List.map_cons, ItC, gotoIn, gotoI]; exact gotoI_eq
  | l, .inLoop c :: k => by simp only [List.map_cons, ItC, gotoIn, gotoI]; exact gotoI_eq
  | l, .inBlock c :: k => by simp only [List.map_cons, ItC, gotoIn, gotoI]; exact gotoI_eq
  | l, .beginRound :: k => by simp only [List.map_cons, ItC, gotoIn, gotoI]; exact gotoI_eq
/-! leaving -/
theorem step_taken {fr : Frame} {B : Nat} {as : Array Value} {ds : List Deferred} {cs : List Frame} {w : World} (hm : fr.mode = .returning) (hd : fr.defers = { target := .collected B, args := as } :: ds) (hw : w.heap[B]? = some (.deferred (some []))) :
    step P (lone fr cs w) = .next (lone { fr with defers := ds } cs (w.putObj B (.deferred none))) :=
  step_lone_go (by simp [stepG, unwind, hm, hd, Sem.runT_eq, run_takeDeferred hw, GStep.bare_after])
theorem takeD_sound : ∀ {ds : List Nat} {h h' : Run.H} {ρ : Rn} {w : World}, takeD h ds = some h' → Rel P w0 ρ h w →
    ∃ w', Rel P w0 ρ h' w' ∧ h'.n = h.n ∧ ∀ (fr : Frame) (cs : List Frame), fr.mode = .returning → fr.defers = (ds.map fun k => { target := .collected (ρ.b k), args := #[] }) → Steps P (lone fr cs w) (lone { fr with defers := [] } cs w')
  | [], h, h', ρ, w, ho, R => by
    cases ho
    refine ⟨w, R, rfl, fun fr cs hm hd => ?_⟩
    have : ({ fr with defers := [] } : Frame) = fr := by cases fr; simp only [List.map_nil] at hd; subst hd; rfl
    rw [this]; exact Steps.refl _ _
  | k :: ds, h, h', ρ, w, ho, R => by
    simp only [takeD] at ho
    split at ho
    · rename_i hg
      obtain ⟨h1, h2, h3⟩ := R.obj _ _ hg
      simp only [RelO] at h3
      have hlt : ρ.b k < w.heap.size := (R.lo _ _ hg rfl).2
      have R' := R.upd (o1 := .deferred none) hg rfl trivial (Upd.putObj w (ρ.b k) (.deferred none)) ⟨.inl rfl, World.putObj_heap_same hlt⟩
      obtain ⟨w', e1, e2, e3⟩ := takeD_sound ho R'
      exact ⟨w', e1, e2, fun fr cs hm hd => .head (step_taken hm hd h3.2) (e3 { fr with defers := ds.map fun k => { target := .collected (ρ.b k), args := #[] } } cs hm rfl)⟩
    · cases ho
def resSem (T : Array Value) : ResultVar → Sem Value
  | .tmp t => pure (T.getD t undef)
  | .cell a t => do loadVar t (← asAddr (T.getD a undef))
theorem results_eq (fn : Func) (T : Array Value) : results fn T = (do let vs ← fn.results.mapM (resSem T); pure (if h : vs.size = 1 then vs[0] else .tuple vs)) := by
  rfl
theorem resAll_sound {h : Run.H} {ρ : Rn} {w : World} {t : Tm} {l : List Value} (R : Rel P w0 ρ h w) (hl : TmL h.n t l) : ∀ {rs : List ResultVar} {vs : List Value}, resAll P h t rs = some vs →
    Sem.run P (rs.mapM (resSem ⟨ρ.vs l⟩)) w = .ok (ρ.vs vs) w ∧ bds h.n vs
  | [], vs, ho => by cases ho; simp [Rn.vs, bds]
  | r :: rs, vs, ho => by
    simp only [resAll] at ho
    split at ho
    · rename_i v vs' h1 h2
      cases ho
      obtain ⟨e1, e2⟩ := resAll_sound R hl h2
      have hget : ∀ i, (⟨ρ.vs l⟩ : Array Value).getD i undef = ρ.v (t.get i) := fun i => (hl.eval ρ [] (.tmp i) rfl).1
      have hr : Sem.run P (resSem ⟨ρ.vs l⟩ r) w = .ok (ρ.v v) w ∧ bd h.n v := by
        cases r with
        | tmp i =>
          cases h1
          exact ⟨by simp only [resSem, hget i]; rfl, hl.bdget i⟩
        | cell a ty =>
          simp only [resOne] at h1
          split at h1
          · rename_i p hp
            obtain ⟨g1, g2⟩ := R.ldVar h1
            refine ⟨?_, g2⟩
            simp only [resSem, hget a, hp, Rn.v, asAddr, Sem.run_bind, Sem.run_pure, Result.andThen_ok]
            exact g1
          · cases h1
      refine ⟨?_, hr.2, e2⟩
      rw [List.mapM_cons, Sem.run_bind, hr.1, Result.andThen_ok, Sem.run_bind, e1]
      simp [Rn.vs]
    · cases ho
theorem results_sound {h : Run.H} {ρ : Rn} {w : World} {t : Tm} {l : List Value} (R : Rel P w0 ρ h w) (hl : TmL h.n t l) {fn : Func} {vs : List Value} (ho : resAll P h t fn.results.toList = some vs) :
    (results fn ⟨ρ.vs l⟩).run P w = .ok (ρ.v (tup vs)) w ∧ bd h.n (tup vs) := by
  obtain ⟨e1, e2⟩ := resAll_sound R hl ho
  constructor
  · rw [results_eq, Sem.run_bind, Array.mapM_eq_mapM_toList, Sem.run_map]
    refine (congrArg (fun r => Result.andThen (Result.andThen r _) _) e1).trans ?_
    simp only [Result.andThen_ok, Sem.run_pure]
    cases vs with
    | nil => simp [tup, Rn.vs, Rn.v]
    | cons v vs => cases vs with
      | nil => simp [tup, Rn.vs]
      | cons u vs => simp [tup, Rn.vs, Rn.v]
  · cases vs with
    | nil => simp [tup, bd, bds]
    | cons v vs => cases vs with
      | nil => exact e2.1
      | cons u vs => simpa [tup, bd] using e2
theorem leaveF_sound {f : F} {t : Tm} {h h' : Run.H} {v : Value} {ρ : Rn} {w : World} {b : Frame} {D : List Deferred} {l : List Value} (ho : leaveF P f t h = some (v, h')) (R : Rel P w0 ρ h w) (hl : TmL h.n t l) (hF : FrOk ρ h.n f b D) :
    ∃ w', h'.n = h.n ∧ Rel P w0 ρ h' w' ∧ bd h'.n v ∧ ∀ todo cs, ∃ fr, fr.fn = b.fn ∧ fr.leaving P w' (.returned (ρ.v v)) ∧ Steps P (lone { b.atR ⟨⟨ρ.vs l⟩, D⟩ todo with mode := .returning } cs w) (lone fr cs w') := by
  unfold leaveF at ho
  split at ho
  · rename_i fn h1 hfn ht
    split at ho
    · rename_i vs hr
      cases ho
      obtain ⟨w', e1, e2, e3⟩ := takeD_sound ht R
      have hl' : TmL h'.n t l := by rw [e2]; exact hl
      obtain ⟨g1, g2⟩ := results_sound e1 hl' hr
      refine ⟨w', e2, e1, g2, fun todo cs => ⟨{ b.atR ⟨⟨ρ.vs l⟩, []⟩ todo with mode := .returning }, rfl, ⟨rfl, rfl, hF.kind, fn, ?_, g1⟩, e3 { b.atR ⟨⟨ρ.vs l⟩, D⟩ todo with mode := .returning } cs rfl hF.df⟩⟩
      show P.funcs[b.fn]? = some fn
      rw [hF.fn]; exact hfn
    · cases ho
  · cases ho
theorem leaveR_sound {lo : Nat} {h h' : Run.H} {jump : Option Code} {v : Value} {ρ : Rn} {w : World} (ho : leaveR lo h jump = some (v, h')) (R : Rel P w0 ρ h w) :
    ∃ w', h'.n = h.n ∧ Rel P w0 ρ h' w' ∧ bd h'.n v ∧ ρ.v v = v ∧ (Instr.endRound (ρ.b lo) jump).run P w = .ok v w' := by
  unfold leaveR at ho
  split at ho
  · rename_i L hg
    obtain ⟨h1, h2, h3⟩ := R.obj _ _ hg
    simp only [RelO] at h3
    have hlt : ρ.b lo < w.heap.size := (R.lo _ _ hg rfl).2
    have hr := run_endRound (P := P) jump h3
    split at ho
    · cases ho
      have R' := R.upd (o1 := .loop { L with state := .ready, pending := none }) hg rfl h2 (Upd.putObj w (ρ.b lo) (.loop { state := .ready, pending := none, fn := L.fn, tmps := ⟨ρ.vs L.tmps.toList⟩, params := L.params, assign := L.assign, body := L.body, defers := ρ.b L.defers })) (World.putObj_heap_same hlt)
      exact ⟨_, rfl, R', by simp [bd], by simp [Rn.v], by rw [hr]; rfl⟩
    · rename_i j
      cases ho
      have R' := R.upd (o1 := .loop { L with state := .done, pending := some j }) hg rfl h2 (Upd.putObj w (ρ.b lo) (.loop { state := .done, pending := some j, fn := L.fn, tmps := ⟨ρ.vs L.tmps.toList⟩, params := L.params, assign := L.assign, body := L.body, defers := ρ.b L.defers })) (World.putObj_heap_same hlt)
      exact ⟨_, rfl, R', by simp [bd], by simp [Rn.v], by rw [hr]; rfl⟩
  · cases ho
/-- A frame is left. -/
theorem leave_sound {f : F} {t : Tm} {h h' : Run.H} {jump : Option Code} {v : Value} {ρ : Rn} {w : World} {b : Frame} {D : List Deferred} {l : List Value} {todo : List Item} (ho : leave P f t h jump = some (v, h')) (R : Rel P w0 ρ h w) (hl : TmL h.n t l) (hF : FrOk ρ h.n f b D)
    (h0 : b.roundOf = none → jump = none ∨ jump = some .ret → ∀ cs, step P (lone (b.atR ⟨⟨ρ.vs l⟩, D⟩ todo) cs w) = .next (lone { b.atR ⟨⟨ρ.vs l⟩, D⟩ todo with mode := .returning } cs w))
    (h1 : ∀ lo, b.roundOf = some lo → ∀ c cs v w', (Instr.endRound lo jump).run P w = .ok v w' → step P (lone (b.atR ⟨⟨ρ.vs l⟩, D⟩ todo) (c :: cs) w) = .next (lone (c.finish v) cs w')) :
    ∃ σ w', ρ.ext h.n σ ∧ h.n ≤ h'.n ∧ Rel P w0 σ h' w' ∧ bd h'.n v ∧ ∀ cs, Out P b (lone (b.atR ⟨⟨ρ.vs l⟩, D⟩ todo) cs w) cs (σ.v v) w' := by
  unfold leave at ho
  split at ho
  · rename_i lo hr
    have hro : b.roundOf = some (ρ.b lo) := by rw [hF.ro, hr]; rfl
    obtain ⟨w', e1, e2, e3, e4, e5⟩ := leaveR_sound ho R
    refine ⟨ρ, w', Rn.ext.refl _ _, by omega, e2, e3, fun cs => ?_⟩
    unfold Out
    rw [hro]
    intro c cs' e
    subst e
    rw [e4]
    exact .one (h1 _ hro c cs' v w' e5)
  · rename_i hr
    have hro : b.roundOf = none := by rw [hF.ro, hr]; rfl
    have hj : (jump = none ∨ jump = some .ret) ∧ leaveF P f t h = some (v, h') := by
      split at ho
      · exact ⟨.inl rfl, ho⟩
      · exact ⟨.inr rfl, ho⟩
      · cases ho
    obtain ⟨w', e1, e2, e3, e4⟩ := leaveF_sound hj.2 R hl hF
    refine ⟨ρ, w', Rn.ext.refl _ _, by omega, e2, e3, fun cs => ?_⟩
    unfold Out
    rw [hro]
    obtain ⟨fr, g1, g2, g3⟩ := e4 todo cs
    exact ⟨fr, g1, g2, .head (h0 hro hj.1 cs) g3⟩
end
/-! the whole run -/
section
variable {P : Program} {C : Cfg} {w0 : Base} {ih : Ex}
theorem Out.one {b : Frame} {m m' : Machine} {cs : List Frame} {v : Value} {w' : World} (hs : step P m = .next m') (h : Out P b m' cs v w') : Out P b m cs v w' := h.head (.one hs)
theorem run_enterLoop_inner {fn : FuncId} {tmps : Array Value} {ps : Array Tmp} {assign body : Code} {lo : Nat} {r : Loop} {w : World} (h : w.heap[lo]? = some (.loop r)) :
    (Instr.enterLoop fn tmps ps assign body (some lo)).run P w = .ok (w.heap.size, []) (w.alloc (.loop { state := .ready, pending := none, fn, tmps, params := ps, assign, body, defers := r.defers })) := by
  unfold Instr.enterLoop
  simp only [Sem.run_bind, run_getLoop h, Result.andThen, Sem.run_pure, run_newObj_alloc]
theorem Rel.kl' {ρ : Rn} {h : Run.H} {w : World} (R : Rel P w0 ρ h w) : ∀ k, w0.keep k → k < w0.w.heap.size := R.kl
/-- The record of a loop is laid. -/
theorem Rel.newLoop {ρ : Rn} {h : Run.H} {w : World} (R : Rel P w0 ρ h w) {fn : FuncId} {l : List Value} {ps : Array Tmp} {sg b : Code} {df : Nat} (hl : bds h.n l) (hd : df < h.n) :
    Rel P w0 (ρ.set h.n w.heap.size 0) (h.new (.loop { state := .ready, pending := none, fn := fn, tmps := ⟨l⟩, params := ps, assign := sg, body := b, defers := df }))
      (w.alloc (.loop { state := .ready, pending := none, fn := fn, tmps := ⟨ρ.vs l⟩, params := ps, assign := sg, body := b, defers := ρ.b df })) := by
  have hx := ρ.set_ext h.n w.heap.size 0
  refine R.new (c := 0) ⟨hl, hd⟩ ?_
  simp only [RelO]
  rw [hx.vs l hl, (hx df hd).1, show (ρ.set h.n w.heap.size 0).b h.n = w.heap.size by simp [Rn.set]]
  exact World.alloc_heap_new w _
theorem Rel.newDef {ρ : Rn} {h : Run.H} {w : World} (R : Rel P w0 ρ h w) : Rel P w0 (ρ.set h.n w.heap.size 0) (h.new (.deferred (some []))) (w.alloc (.deferred (some []))) := by
  refine R.new (c := 0) trivial ⟨.inr rfl, ?_⟩
  rw [show (ρ.set h.n w.heap.size 0).b h.n = w.heap.size by simp [Rn.set]]
  exact World.alloc_heap_new w _
theorem endL_sound {h h' : Run.H} {ρ : Rn} {w : World} {lo : Nat} {j : List It} (ho : endL h lo = some (j, h')) (R : Rel P w0 ρ h w) :
    ∃ w' jump, h'.n = h.n ∧ Rel P w0 ρ h' w' ∧ (Instr.endLoop (ρ.b lo)).run P w = .ok jump w' ∧ (jump.map Item.code).toList = j.map ItC := by
  unfold endL at ho
  split at ho
  · rename_i L hg
    obtain ⟨h1, h2, h3⟩ := R.obj _ _ hg
    simp only [RelO] at h3
    have hlt : ρ.b lo < w.heap.size := (R.lo _ _ hg rfl).2
    have main : L.state ≠ .busy → some ((match L.pending with | some j => [It.code j] | none => []), h.put lo (.loop { L with state := .exhausted })) = some (j, h') →
        ∃ w' jump, h'.n = h.n ∧ Rel P w0 ρ h' w' ∧ (Instr.endLoop (ρ.b lo)).run P w = .ok jump w' ∧ (jump.map Item.code).toList = j.map ItC := by
      intro hb ho
      cases ho
      have hr := run_endLoop (P := P) h3 hb
      have R' := R.upd (o1 := .loop { L with state := .exhausted }) hg rfl h2 (Upd.putObj w (ρ.b lo) (.loop { state := .exhausted, pending := L.pending, fn := L.fn, tmps := ⟨ρ.vs L.tmps.toList⟩, params := L.params, assign := L.assign, body := L.body, defers := ρ.b L.defers })) (World.putObj_heap_same hlt)
      refine ⟨_, _, rfl, R', hr, ?_⟩
      simp only
      cases L.pending <;> rfl
    split at ho
    · cases ho
    · rename_i hb
      exact main hb ho
  · cases ho
theorem beginR_sound {h h' : Run.H} {ρ : Rn} {w : World} {lo : Nat} (ho : beginR h lo = some h') (R : Rel P w0 ρ h w) :
    ∃ w', h'.n = h.n ∧ Rel P w0 ρ h' w' ∧ (Instr.beginRound (ρ.b lo)).run P w = .ok () w' := by
  unfold beginR at ho
  split at ho
  · rename_i L hg
    obtain ⟨h1, h2, h3⟩ := R.obj _ _ hg
    simp only [RelO] at h3
    have hlt : ρ.b lo < w.heap.size := (R.lo _ _ hg rfl).2
    split at ho
    · rename_i hs
      cases ho
      have hr := run_beginRound (P := P) h3 hs
      have R' := R.upd (o1 := .loop { L with state := .busy }) hg rfl h2 (Upd.putObj w (ρ.b lo) (.loop { state := .busy, pending := L.pending, fn := L.fn, tmps := ⟨ρ.vs L.tmps.toList⟩, params := L.params, assign := L.assign, body := L.body, defers := ρ.b L.defers })) (World.putObj_heap_same hlt)
      exact ⟨_, rfl, R', hr⟩
    · cases ho
  · cases ho
section
variable {f : F} {t : Tm} {h : Run.H} {ρ : Rn} {w : World} {b : Frame} {D : List Deferred} {l : List Value}
/-- What is to be shown of a frame that has 'todo' to do. -/
def Goal (P : Program) (w0 : Base) (h h' : Run.H) (ρ : Rn) (b : Frame) (v : Value) (m : List Frame → Machine) : Prop :=
  ∃ σ w', ρ.ext h.n σ ∧ h.n ≤ h'.n ∧ Rel P w0 σ h' w' ∧ bd h'.n v ∧ ∀ cs, Out P b (m cs) cs (σ.v v) w'
theorem Goal.one {h' : Run.H} {v : Value} {m m' : List Frame → Machine} (hs : ∀ cs, step P (m cs) = .next (m' cs)) (hg : Goal P w0 h h' ρ b v m') : Goal P w0 h h' ρ b v m := by
  obtain ⟨σ, w', h1, h2, h3, h4, h5⟩ := hg
  exact ⟨σ, w', h1, h2, h3, h4, fun cs => (h5 cs).one (hs cs)⟩
theorem Goal.steps {h1 h' : Run.H} {σ : Rn} {v : Value} {m m' : List Frame → Machine} (hx : ρ.ext h.n σ) (hn : h.n ≤ h1.n) (hs : ∀ cs, Steps P (m cs) (m' cs)) (hg : Goal P w0 h1 h' σ b v m') : Goal P w0 h h' ρ b v m := by
  obtain ⟨τ, w', h1, h2, h3, h4, h5⟩ := hg
  exact ⟨τ, w', hx.trans h1 hn, Nat.le_trans hn h2, h3, h4, fun cs => (h5 cs).head (hs cs)⟩
theorem doRange_sound (hC : CfgOk P C) (hN : NoNum P) (S : Sound P ih) {h' : Run.H} {v : Value} {g : Operand} {ps : Array Tmp} {sg bd' : Code} {k : List It} (ho : doRange P C ih f t (evl t g) ps sg bd' k h = some (v, h')) (hgok : okOp g = true)
    (R : Rel P w0 ρ h w) (hl : TmL h.n t l) (hF : FrOk ρ h.n f b D) :
    Goal P w0 h h' ρ b v fun cs => lone (b.atR ⟨⟨ρ.vs l⟩, D⟩ (.code (.rangeFunc g ps sg bd') :: k.map ItC)) cs w := by
  -- the record, laid
  have lay : ∀ df, around h f.r = some df → ∃ (h2 : Run.H) (σ : Rn) (w2 : World) (mark : List Deferred) (f1 : F),
      h2 = (h1R h f.r).new (.loop { state := .ready, pending := none, fn := f.fn, tmps := ⟨t.flatten⟩, params := ps, assign := sg, body := bd', defers := df }) ∧
      f1 = (f1R f df f.r) ∧
      ρ.ext h.n σ ∧ h.n ≤ h2.n ∧ (h1R h f.r).n < h2.n ∧ Rel P w0 σ h2 w2 ∧ FrOk σ h2.n f1 b (mark ++ D) ∧
      (Instr.enterLoop b.fn ⟨ρ.vs l⟩ ps sg bd' b.roundOf).run P w = .ok (σ.b (h1R h f.r).n, mark) w2 := by
    intro df hdf
    rw [hl.flat]
    cases hr : f.r with
    | none =>
      rw [hr] at hdf
      cases hdf
      have hro : b.roundOf = none := by rw [hF.ro, hr]; rfl
      have R1 := R.newDef
      have hn1 := H.new_n h (.deferred (some []))
      have hx1 := ρ.set_ext h.n w.heap.size 0
      have R2 := R1.newLoop (fn := f.fn) (l := l) (ps := ps) (sg := sg) (b := bd') (df := h.n) (bds_mono (by omega) _ hl.bd) (by omega)
      have hx2 := (ρ.set h.n w.heap.size 0).set_ext (h.new (.deferred (some []))).n (w.alloc (.deferred (some []))).heap.size 0
      have hn2 := H.new_n (h.new (.deferred (some []))) (.loop { state := .ready, pending := none, fn := f.fn, tmps := ⟨l⟩, params := ps, assign := sg, body := bd', defers := h.n })
      have hbn : (ρ.set h.n w.heap.size 0).b h.n = w.heap.size := by simp [Rn.set]
      refine ⟨_, _, _, [{ target := .collected w.heap.size, args := #[] }], _, rfl, rfl, hx1.trans hx2 (by omega), ?_, ?_, R2, ?_, ?_⟩
      · simp only [h1R, hn2]; omega
      · simp only [h1R, hn2]; omega
      ·
        have hF2 := hF.ext (hx1.trans hx2 (by omega)) (show h.n ≤ ((h.new (.deferred (some []))).new (.loop { state := .ready, pending := none, fn := f.fn, tmps := ⟨l⟩, params := ps, assign := sg, body := bd', defers := h.n })).n by omega)
        refine ⟨hF2.fn, hF2.kind, by rw [hro]; rfl, fun lo hlo => (by cases hlo), ?_, ?_⟩
        · simp only [f1R, List.map_cons, List.cons_append, List.nil_append]
          rw [hF2.df, (hx2 h.n (by omega)).1, hbn]
        · intro q hq
          rcases List.mem_cons.1 hq with rfl | hq
          · simp only [h1R]; omega
          · exact hF2.db q hq
      · rw [hro, run_enterLoop_outer, hF.fn]
        have e1 : (ρ.set h.n w.heap.size 0).vs l = ρ.vs l := hx1.vs l hl.bd
        simp only [e1, hbn]
        congr 2
        simp [Rn.set, h1R]
    | some lo =>
      rw [hr] at hdf
      simp only [around] at hdf
      split at hdf
      · rename_i L hg
        cases hdf
        obtain ⟨h1, h2, h3⟩ := R.obj _ _ hg
        simp only [RelO] at h3
        have hro : b.roundOf = some (ρ.b lo) := by rw [hF.ro, hr]; rfl
        have R2 := R.newLoop (fn := f.fn) (l := l) (ps := ps) (sg := sg) (b := bd') (df := L.defers) hl.bd h2.2
        have hx2 := ρ.set_ext h.n w.heap.size 0
        have hn2 := H.new_n h (.loop { state := .ready, pending := none, fn := f.fn, tmps := ⟨l⟩, params := ps, assign := sg, body := bd', defers := L.defers })
        refine ⟨_, _, _, [], _, rfl, rfl, hx2, ?_, ?_, R2, ?_, ?_⟩
        · simp only [h1R, hn2]; omega
        · simp only [h1R, hn2]; omega
        · exact hF.ext hx2 (by simp only [h1R, hn2]; omega)
        · rw [hro, run_enterLoop_inner h3, hF.fn]
          congr 2
          simp [Rn.set, h1R]
      · cases hdf
  unfold doRange at ho
  split at ho
  · rename_i df hdf
    obtain ⟨h2, σ, w2, mark, f1, eh2, ef1, e1, e2, e2', e3, e4, e5⟩ := lay df hdf
    rw [← eh2, ← ef1] at ho
    generalize hlo : (h1R h f.r).n = lo at ho e5 e2'
    split at ho
    · rename_i q args h3 hc
      split at ho
      · rename_i v1 h4 hv
        split at ho
        · rename_i j h5 hend
          have hg := hl.eval ρ D g hgok
          have hyb : bd h2.n (.func (.yield lo) #[] #[]) := by
            simp only [bd, bds, and_true]
            exact fun l' e => by cases e; exact e2'
          have hcs := callOf_sound hC e3 hc (bd_mono e2 _ hg.2) ⟨hyb, trivial⟩
          obtain ⟨rfl, hab, hrun⟩ := hcs
          obtain ⟨τ, w4, k1, k2, k3, k4, k5, k6⟩ := enterV_sound hC S e3 hv hab
          rw [callFunc_run hN k5] at hrun
          obtain ⟨w5, jump, m1, m2, m3, m4⟩ := endL_sound hend k3
          have hF4 := e4.ext k1 k2
          have hxx := e1.trans k1 e2
          have hl4 := hl.mono (Nat.le_trans e2 k2)
          have hfin := S _ _ _ _ _ _ ho w0 τ w5 b (mark ++ D) l m2 (by rw [m1]; exact hl4) (by rw [m1]; exact hF4)
          -- the call
          have hyv : σ.v (.func (.yield lo) #[] #[]) = .func (.yield (σ.b lo)) #[] #[] := by simp [Rn.v, Rn.fn, Rn.vs]
          have hgv : σ.v (evl t g) = ρ.v (evl t g) := e1.v _ hg.2
          have hsplit : ∃ d w2', (resolve (⟨⟨ρ.vs l⟩, D⟩ : Act).eval (rangeCall g (σ.b lo)) 0).run P w2 = .ok d w2' ∧ (invoke d.target d.args).run P w2' = .ok (.enter q ⟨σ.vs args⟩) w2 := by
            have hr : resolve (⟨⟨ρ.vs l⟩, D⟩ : Act).eval (rangeCall g (σ.b lo)) 0 = Deferred.ofValue (σ.v (evl t g)) ⟨σ.vs [.func (.yield lo) #[] #[]]⟩ := by
              rw [hgv, ← hg.1]
              simp only [Rn.vs, hyv]
              simp [resolve, rangeCall, Act.eval]
            rw [hr]
            rw [Sem.run_bind] at hrun
            generalize (Deferred.ofValue (σ.v (evl t g)) ⟨σ.vs [.func (.yield lo) #[] #[]]⟩).run P w2 = x at hrun ⊢
            cases x with
            | ok d w2' => exact ⟨d, w2', rfl, hrun⟩
            | halt x w2' => cases hrun
          obtain ⟨d, w2', s1, s2⟩ := hsplit
          refine Goal.steps (h1 := h5) (σ := τ) hxx (by rw [m1]; exact Nat.le_trans e2 k2) (m' := fun cs => lone (b.atR ⟨⟨τ.vs l⟩, mark ++ D⟩ ((j ++ k).map ItC)) cs w5) (fun cs => ?_) ?_
          · refine .head (stepR_rangeFunc (b := b) (a := ⟨⟨ρ.vs l⟩, D⟩) e5 s1 s2) ?_
            obtain ⟨fr, _, g2, g3⟩ := k6 (b.atR ⟨⟨ρ.vs l⟩, mark ++ D⟩ (.inRangeFunc (σ.b lo) :: k.map ItC) :: cs)
            refine g3.trans (.head (step_leave_returned g2) ?_)
            rw [finish_atR_inRangeFunc, ← (k1 lo e2').1]
            refine .one ?_
            rw [stepR_endRangeFunc m3, m4, List.map_append, hxx.vs l hl.bd]
          · exact hfin
        · cases ho
      · cases ho
    · cases ho
  · cases ho
theorem doCode_sound (hC : CfgOk P C) (hN : NoNum P) (hmix : P.follows .mixedOrders = true) (S : Sound P ih) {h' : Run.H} {v : Value} {c : Code} {k : List It} (ho : doCode P C ih f t c k h = some (v, h'))
    (R : Rel P w0 ρ h w) (hl : TmL h.n t l) (hF : FrOk ρ h.n f b D) : Goal P w0 h h' ρ b v fun cs => lone (b.atR ⟨⟨ρ.vs l⟩, D⟩ (.code c :: k.map ItC)) cs w := by
  have next : ∀ {todo : List It}, ih f t todo h = some (v, h') → Goal P w0 h h' ρ b v fun cs => lone (b.atR ⟨⟨ρ.vs l⟩, D⟩ (todo.map ItC)) cs w := fun ho => S _ _ _ _ _ _ ho w0 ρ w b D l R hl hF
  cases c with
  | ret =>
    exact leave_sound ho R hl hF (fun hb _ cs => stepR_ret hb) (fun lo hb c cs v w' hr => stepR_round_ret hb hF.kind hr)
  | skip => exact Goal.one (fun cs => stepR_skip) (next ho)
  | label i => exact Goal.one (fun cs => stepR_label) (next ho)
  | seq x y => exact Goal.one (fun cs => stepR_seq) (next ho)
  | cond x y z =>
    simp only [doCode] at ho
    split at ho
    · rename_i hx
      obtain ⟨e1, -⟩ := hl.eval ρ D x hx
      unfold doCond at ho
      split at ho
      · rename_i hv
        exact Goal.one (fun cs => stepR_cond (t := true) (by rw [e1, hv]; simp [Rn.v])) (next ho)
      · rename_i hv
        exact Goal.one (fun cs => stepR_cond (t := false) (by rw [e1, hv]; simp [Rn.v])) (next ho)
      · cases ho
    · cases ho
  | block i x => exact Goal.one (fun cs => stepR_block) (next ho)
  | loop x => exact Goal.one (fun cs => stepR_loop) (next ho)
  | scope x => exact Goal.one (fun cs => stepR_scope) (next ho)
  | exit i =>
    simp only [doCode, doExit] at ho
    have he := exitI_eq (id := i) (k := k)
    split at ho
    · rename_i k' hk
      rw [hk] at he
      exact Goal.one (fun cs => stepR_exit he) (next ho)
    · rename_i hk
      rw [hk] at he
      exact leave_sound ho R hl hF (fun _ hj => by rcases hj with hj | hj <;> cases hj) (fun lo hb c cs v w' hr => stepR_round_exit hb hF.kind he hr)
  | goto i =>
    simp only [doCode, doExit] at ho
    have he := gotoI_eq (l := i) (k := k)
    split at ho
    · rename_i k' hk
      rw [hk] at he
      exact Goal.one (fun cs => stepR_goto he) (next ho)
    · rename_i hk
      rw [hk] at he
      exact leave_sound ho R hl hF (fun _ hj => by rcases hj with hj | hj <;> cases hj) (fun lo hb c cs v w' hr => stepR_round_goto hb hF.kind he hr)
  | region id ops d =>
    obtain ⟨ops⟩ := ops
    simp only [doCode, doRegion] at ho
    split at ho
    · rename_i t' h1 hr
      obtain ⟨σ, w1, l', e1, e2, e3, e4, e5⟩ := region_sound (D := D) hC hN hmix S hF.kind R.kl R hl id hr
      exact Goal.steps e1 e2 (fun cs => e5 _ cs) (S _ _ _ _ _ _ ho w0 σ w1 b D l' e3 e4 (hF.ext e1 e2))
    · cases ho
  | rangeFunc g ps sg x =>
    simp only [doCode] at ho
    split at ho
    · rename_i hg
      exact doRange_sound hC hN S ho hg R hl hF
    · cases ho
  | refuse s => cases ho
end
theorem exec_sound (hC : CfgOk P C) (hN : NoNum P) (hmix : P.follows .mixedOrders = true) : ∀ n, Sound P (exec P C n)
  | 0 => fun f t todo h v h' ho => by cases ho
  | n + 1 => fun f t todo h v h' ho w0 ρ w b D l R hl hF => by
    have S := exec_sound hC hN hmix n
    have next : ∀ {todo : List It}, exec P C n f t todo h = some (v, h') → Goal P w0 h h' ρ b v fun cs => lone (b.atR ⟨⟨ρ.vs l⟩, D⟩ (todo.map ItC)) cs w := fun ho => S _ _ _ _ _ _ ho w0 ρ w b D l R hl hF
    simp only [exec] at ho
    show Goal P w0 h h' ρ b v fun cs => lone (b.atR ⟨⟨ρ.vs l⟩, D⟩ (todo.map ItC)) cs w
    unfold doItem at ho
    split at ho
    · exact leave_sound ho R hl hF (fun hb _ cs => stepR_end hb) (fun lo hb c cs v w' hr => stepR_round_end hb hF.kind hr)
    · exact doCode_sound hC hN hmix S ho R hl hF
    · exact Goal.one (fun cs => stepR_inBlock) (next ho)
    · exact Goal.one (fun cs => stepR_inScope) (next ho)
    · exact Goal.one (fun cs => stepR_inLoop) (next ho)
    · split at ho
      · rename_i lo hr
        split at ho
        · rename_i h1 hb
          have hro : b.roundOf = some (ρ.b lo) := by rw [hF.ro, hr]; rfl
          obtain ⟨w1, e1, e2, e3⟩ := beginR_sound hb R
          refine Goal.steps (h1 := h1) (Rn.ext.refl _ _) (by omega) (fun cs => .one (stepR_beginRound hro e3)) (S _ _ _ _ _ _ ho w0 ρ w1 b D l e2 (by rw [e1]; exact hl) (by rw [e1]; exact hF))
        · cases ho
      · cases ho
/-- A call that the table's run takes to an end returns so in every world. -/
theorem callA_sound (hC : CfgOk P C) (hN : NoNum P) (hmix : P.follows .mixedOrders = true) {n m : Nat} {q : FuncId} {args : List Value} {v : Value} {h' : Run.H} (ho : callA P C n q m args = some (v, h')) (hb : bds m args) (ρ : Rn) (w : World) :
    ∃ σ w', ρ.ext m σ ∧ Below w.heap.size w w' ∧ bd h'.n v ∧ (∃ fn, P.funcs[q]? = some fn ∧ fn.body.isSome) ∧ ∀ cs, ∃ fr, fr.fn = q ∧ fr.leaving P w' (.returned (σ.v v)) ∧ Steps P (lone (Frame.enter P q ⟨ρ.vs args⟩ .normal) cs w) (lone fr cs w') := by
  have hget : ∀ k, (⟨.nil, m⟩ : Run.H).get k = none := fun k => by
    unfold H.get
    split
    · exact Tr.get_nil _ _
    · rfl
  have R0 : Rel P ⟨w, fun k => k < w.heap.size⟩ ρ ⟨.nil, m⟩ w := by
    refine ⟨⟨rfl, rfl, rfl, Nat.le_refl _, fun _ _ => rfl⟩, fun k hk => hk, fun k o hk => ?_, fun k o hk => ?_, fun j k o o' hj => ?_⟩
    · rw [hget] at hk; cases hk
    · rw [hget] at hk; cases hk
    · rw [hget] at hj; cases hj
  obtain ⟨σ, w', e1, e2, e3, e4, e5, e6⟩ := enterV_sound hC (exec_sound hC hN hmix n) R0 ho hb
  exact ⟨σ, w', e1, ⟨e3.below.os, e3.below.tape, e3.below.output, e3.below.size, e3.below.block⟩, e4, e5, e6⟩
theorem isTrue_spec {x : Option (Value × Run.H)} (h : isTrue x = true) : ∃ h', x = some (.bool true, h') := by
  unfold isTrue at h
  split at h
  · exact ⟨_, rfl⟩
  · cases h
/-- With arguments, to 'true'. -/
theorem callT_sound (hC : CfgOk P C) (hN : NoNum P) (hmix : P.follows .mixedOrders = true) {n m : Nat} {q : FuncId} {args : List Value} (ho : isTrue (callA P C n q m args) = true) (hb : bds m args) (ρ : Rn) (w : World) :
    ∃ w', Below w.heap.size w w' ∧ (∃ fn, P.funcs[q]? = some fn ∧ fn.body.isSome) ∧ ∀ cs, ∃ fr, fr.fn = q ∧ fr.leaving P w' (.returned (.bool true)) ∧ Steps P (lone (Frame.enter P q ⟨ρ.vs args⟩ .normal) cs w) (lone fr cs w') := by
  obtain ⟨h', e⟩ := isTrue_spec ho
  obtain ⟨σ, w', -, h2, -, h4, h5⟩ := callA_sound hC hN hmix e hb ρ w
  have e : σ.v (.bool true) = .bool true := by simp [Rn.v]
  rw [e] at h5
  exact ⟨w', h2, h4, h5⟩
/-- It is known from then on. -/
theorem call_known (hC : CfgOk P C) (hN : NoNum P) (hmix : P.follows .mixedOrders = true) {n m : Nat} {q : FuncId} (ho : isTrue (callA P C n q m []) = true) : KnOk P q := by
  have key := fun w => callT_sound hC hN hmix ho trivial ⟨fun _ => 0, fun _ => 0⟩ w
  obtain ⟨_, -, hf, -⟩ := key default
  refine ⟨hf, fun w => ?_⟩
  obtain ⟨w', h1, -, h3⟩ := key w
  refine ⟨w', h1, fun cs => ?_⟩
  have := h3 cs
  simpa [Rn.vs] using this
theorem calls_of {q : FuncId} {args : Array Value} {w w' : World} {v : Value} (hb : Below w.heap.size w w') (h : ∀ cs, ∃ fr, fr.fn = q ∧ fr.leaving P w' (.returned v) ∧ Steps P (lone (Frame.enter P q args .normal) cs w) (lone fr cs w')) : Calls P q args w fun e w' => e = .returned v ∧ Below w.heap.size w w' := fun cs => by
  obtain ⟨fr, f1, f2, f3⟩ := h cs
  exact ⟨.returned v, w', fr, ⟨rfl, hb⟩, f3, f1, f2⟩
theorem call_sound (hC : CfgOk P C) (hN : NoNum P) (hmix : P.follows .mixedOrders = true) {n m : Nat} {q : FuncId} (ho : isTrue (callA P C n q m []) = true) (w : World) : Calls P q #[] w fun e w' => e = .returned (.bool true) ∧ Below w.heap.size w w' := by
  obtain ⟨w', h1, h2⟩ := (call_known hC hN hmix ho).2 w
  exact calls_of h1 h2
end
/-! what a program must bear -/
theorem same_ext {P : Program} {f : FuncId} {fn : Func} (hf : P.funcs[f]? = some fn) (h1 : (fn.name == "runtime.NumGoroutine") = false) (h2 : fn.body.isNone = true) (h3 : Extern.findNext fn = none) (h4 : Extern.find fn = some Extern.AbiNoEscape.same) : ExtOk P f .same := fun v w => by
  rw [run_callFunc_extern hf h1 h2 h3 (e := Extern.AbiNoEscape.same) h4]
  rfl
def allNum (l : List Func) : Bool := l.all fun f => f.name != "runtime.NumGoroutine"
theorem noNum_of {P : Program} (h : allNum P.funcs.toList = true) : NoNum P := fun f fn hf => by
  have h1 := List.all_eq_true.1 h fn (by
    have : P.funcs.toList[f]? = some fn := by simpa using hf
    exact List.mem_of_getElem? this)
  simpa using h1
theorem keys_nil (P : Program) : ∀ kt, ([] : List TypeId).contains kt = true → WideMaps.KeyLaw P kt := fun kt h => by cases h
theorem keys_cons {P : Program} {k : TypeId} {ks : List TypeId} (h : WideMaps.KeyLaw P k) (hs : ∀ kt, ks.contains kt = true → WideMaps.KeyLaw P kt) : ∀ kt, (k :: ks).contains kt = true → WideMaps.KeyLaw P kt := fun kt hk => by
  rw [List.contains_cons, Bool.or_eq_true] at hk
  rcases hk with hk | hk
  · rw [beq_iff_eq] at hk
    rw [hk]; exact h
  · exact hs kt hk
theorem exts_nil (P : Program) : ∀ f x, exOf f [] = some x → ExtOk P f x := fun f x h => by cases h
theorem exts_cons {P : Program} {g : FuncId} {y : Ext} {l : List (FuncId × Ext)} (h : ExtOk P g y) (hs : ∀ f x, exOf f l = some x → ExtOk P f x) : ∀ f x, exOf f ((g, y) :: l) = some x → ExtOk P f x := fun f x hx => by
  unfold exOf at hx
  cases hb : Nat.beq f g with
  | true => rw [hb] at hx; cases hx; rw [beq_true' hb]; exact h
  | false => rw [hb] at hx; exact hs f x hx
theorem kns_nil (P : Program) : ∀ q, ([] : List FuncId).contains q = true → KnOk P q := fun q h => by cases h
theorem kns_cons {P : Program} {q : FuncId} {l : List FuncId} (h : KnOk P q) (hs : ∀ q, l.contains q = true → KnOk P q) : ∀ k, (q :: l).contains k = true → KnOk P k := fun k hk => by
  rw [List.contains_cons, Bool.or_eq_true] at hk
  rcases hk with hk | hk
  · rw [beq_iff_eq] at hk
    rw [hk]; exact h
  · exact hs k hk
end Go.Run
