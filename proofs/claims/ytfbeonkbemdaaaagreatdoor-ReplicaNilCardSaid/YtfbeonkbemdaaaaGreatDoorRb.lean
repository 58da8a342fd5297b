/- A run by evaluation: a program run on a table of blocks; what it does there it does in every world. Second part. -/
import Derived.Test.YtfbeonkbemdaaaaGreatDoorRa
import Derived.Deep.AppendSrc
import Derived.Deep.Upon
import Derived.Lib.UnsafeStr
namespace Go.Run
open Go Go.RowKit
set_option linter.unusedVariables false
set_option linter.unusedSimpArgs false
/-! slices -/
section
variable {P : Program} {w0 : Base} {w w' : World} {ρ : Rn} {h : H}
theorem Rel.drew (R : Rel P w0 ρ h w) : Rel P w0 ρ h w.drew :=
  R.drawn _
/-- The capacity that a slice has in the world. -/
def Rn.cap (ρ : Rn) (A : Option Addr) (c : Nat) : Nat := match A with | some a => if c < U then c else ρ.c a.block - (c - U) | none => c
theorem slice_v (ρ : Rn) (A : Option Addr) (n c : Nat) : ρ.v (.slice A n c) = .slice (A.map ρ.a) n (ρ.cap A c) := by
  cases A <;> simp [Rn.v, Rn.cap]
theorem cap_known {A : Option Addr} {c : Nat} (hb : Nat.ble U c = false) : ρ.cap A c = c := by
  have : c < U := by
    rcases Nat.lt_or_ge c U with hc | hc
    · exact hc
    · rw [Nat.ble_eq_true_of_le hc] at hb; cases hb
  cases A <;> simp [Rn.cap, this]
theorem Rel.lowCap {el s : Nat} {A : Option Addr} {n c : Nat} {i : TypeInfo} (R : Rel P w0 ρ h w) (hi : P.info? el = some i) (hs : i.size = s) (hb : bd h.n (.slice A n c)) : lowCap h el s A c ≤ ρ.cap A c := by
  unfold Run.lowCap
  cases hu : Nat.ble U c with
  | false => rw [cap_known hu]; exact Nat.le_refl _
  | true =>
    have hc : U ≤ c := Nat.le_of_ble_eq_true hu
    cases A with
    | none => simp
    | some a =>
      simp only
      split
      · rename_i cs t hg
        cases ht : Nat.beq t el with
        | false => simp
        | true =>
          simp only
          obtain ⟨-, -, h3⟩ := R.obj _ _ hg
          simp only [RelO] at h3
          obtain ⟨z, j, hj, hp, hl, -⟩ := h3
          rw [beq_true' ht, hi] at hj
          cases hj
          have hcap : ρ.cap (some a) c = ρ.c a.block - (c - U) := by simp [Rn.cap]; intro hlt; omega
          rw [hcap]
          have : cs.toList.length / s ≤ ρ.c a.block := by
            rw [← hs]
            exact Nat.div_le_of_le_mul (by rw [Nat.mul_comm]; omega)
          omega
      · simp
theorem asNo_none {d n : Nat} (h : asNo none d = some n) : n = d := by simpa [asNo] using h.symm
theorem asNo_some {x : Value} {d n : Nat} (h : asNo (some x) d = some n) : ∃ k, x = .int k (n : Int) := asN_int h
theorem bounds_run {isS : Bool} {len cap u l : Nat} {lo hi : Option Value} (hu : asNo hi len = some u) (hl : asNo lo 0 = some l) (h1 : u ≤ cap) (h2 : l ≤ u) :
    (Instr.sliceBounds isS len cap (lo.map ρ.v) (hi.map ρ.v) none).run P w = .ok (l, u, cap) w := by
  have a1 : (u : Int) ≤ cap := by omega
  have a2 : (l : Int) ≤ u := by omega
  cases hi with
  | none =>
    have := asNo_none hu
    subst this
    cases lo with
    | none => have := asNo_none hl; subst this; simp [Instr.sliceBounds]
    | some x =>
      obtain ⟨k, rfl⟩ := asNo_some hl
      simp [Instr.sliceBounds, Instr.sliceBound, asIntOf, Rn.v, a2, h2]
  | some y =>
    obtain ⟨k, rfl⟩ := asNo_some hu
    cases lo with
    | none => have := asNo_none hl; subst this; simp [Instr.sliceBounds, Instr.sliceBound, asIntOf, Rn.v, a1, h1]
    | some x =>
      obtain ⟨k', rfl⟩ := asNo_some hl
      simp [Instr.sliceBounds, Instr.sliceBound, asIntOf, Rn.v, a1, a2, h1, h2]
theorem Rel.opSlice {t : TypeId} {x v : Value} {lo hi mx : Option Value} (R : Rel P w0 ρ h w) (ho : opSlice P h t x lo hi mx = some v) (hb : bd h.n x) :
    (Instr.sliceAt t (ρ.v x) (lo.map ρ.v) (hi.map ρ.v) (mx.map ρ.v)).run P w = .ok (ρ.v v) w ∧ bd h.n v := by
  unfold Run.opSlice at ho
  split at ho
  · rename_i el A n c hu
    unfold opSliceV at ho
    cases hs : sz P el with
    | none => rw [hs] at ho; simp at ho
    | some s0 =>
      cases s0 with
      | zero => rw [hs] at ho; simp at ho
      | succ s =>
        cases hhi : asNo hi n with
        | none => rw [hs, hhi] at ho; simp at ho
        | some u =>
          cases hlo : asNo lo 0 with
          | none => rw [hs, hhi, hlo] at ho; simp at ho
          | some l =>
            rw [hs, hhi, hlo] at ho
            simp only at ho
            split at ho
            · rename_i c1 c2 c3
              cases ho
              obtain ⟨i, hi', his⟩ := sz_some hs
              have hlow := R.lowCap hi' his hb
              have e1 := Nat.le_of_ble_eq_true c1
              have e2 := Nat.le_of_ble_eq_true c2
              have hbd := bounds_run (P := P) (w := w) (ρ := ρ) (isS := true) (cap := ρ.cap A c) hhi hlo (by omega) e2
              have hcut : (if ρ.cap A c = l then A.map ρ.a else (A.map ρ.a).map (·.add (l * (s + 1)))) = (A.map fun a => movA a (l * (s + 1))).map ρ.a := by
                cases A with
                | none => simp
                | some a =>
                  simp only [Option.map_some]
                  rw [movA_eq]
                  split
                  · rename_i e
                    have hl0 : l = 0 := by
                      simp only [Bool.or_eq_true] at c3
                      rcases c3 with c3 | c3
                      · have := blt_true c3; omega
                      · exact beq_true' c3
                    subst hl0
                    simp [Addr.add]
                  · rfl
              have hcap : ρ.cap (A.map fun a => movA a (l * (s + 1))) (capMov c l) = ρ.cap A c - l := by
                unfold capMov
                cases hUc : Nat.ble U c with
                | true =>
                  have := Nat.le_of_ble_eq_true hUc
                  cases A with
                  | none =>
                    have h0 : u ≤ 0 := by simpa [Run.lowCap, hUc] using e1
                    simp only [Option.map_none, Rn.cap]
                    omega
                  | some a =>
                    simp only [Option.map_some, Rn.cap, movA_block]
                    rw [if_neg (by omega), if_neg (by omega)]
                    omega
                | false =>
                  rw [cap_known hUc]
                  have hlt : c < U := by
                    rcases Nat.lt_or_ge c U with hc | hc
                    · exact hc
                    · rw [Nat.ble_eq_true_of_le hc] at hUc; cases hUc
                  cases A with
                  | none => simp [Rn.cap]
                  | some a => simp only [Option.map_some, Rn.cap]; rw [if_pos (by omega)]
              have hA : movO A (l * (s + 1)) = A.map fun a => movA a (l * (s + 1)) := by cases A <;> rfl
              refine ⟨?_, ?_⟩
              · rw [hA, slice_v, slice_v, hcap, ← hcut]
                simp [Instr.sliceAt, und_run hu, Instr.slice, hbd, run_size hs]
              · rw [hA]
                cases A with
                | none => simp [bd]
                | some a => simpa [bd, movA_block] using hb
            · cases ho
  · rename_i s hu
    unfold opSliceS at ho
    cases hhi : asNo hi s.data.toList.length with
    | none => rw [hhi] at ho; cases ho
    | some u =>
      rw [hhi] at ho
      simp only at ho
      split at ho
      · rename_i l c1 hlo
        cases c2 : Nat.ble l u with
        | false => rw [c2] at ho; cases ho
        | true =>
          rw [c2] at ho
          cases ho
          have e1 := Nat.le_of_ble_eq_true c1
          have e2 := Nat.le_of_ble_eq_true c2
          have hbd : (Instr.sliceBounds false s.size s.size (lo.map ρ.v) (hi.map ρ.v) none).run P w = .ok (l, u, s.size) w := bounds_run (P := P) (w := w) (ρ := ρ) (isS := false) (cap := s.data.toList.length) hhi hlo e1 e2
          refine ⟨?_, by simp [bd]⟩
          have hex : s.extract l u = ⟨⟨(s.data.toList.take u).drop l⟩⟩ := by
            apply ByteArray.ext
            apply Array.ext'
            simp [ByteArray.data_extract, List.drop_take]
          simp [Instr.sliceAt, und_run hu, Instr.slice, Rn.v, hbd]
          rw [hex]
      · cases ho
  · cases ho
end
/-! append -/
section
variable {P : Program} {w0 : Base} {w w' : World} {ρ : Rn} {h : H}
theorem Rel.srcC {s u m : Nat} {x : Value} {y : List Value} (R : Rel P w0 ρ h w) (ho : srcC P h s u x = some (m, y)) (hb : bd h.n x) : Src P s u (ρ.v x) m (ρ.vs y) w ∧ bds h.n y ∧ y.length = m * s := by
  unfold Run.srcC at ho
  split at ho
  · rename_i b hu
    split at ho
    · simp only [Option.some.injEq, Prod.mk.injEq] at ho
      obtain ⟨rfl, rfl⟩ := ho
      have hp : ρ.vs (b.data.toList.map fun c => (.int .u8 c.toNat : Value)) = byteCells b := by
        rw [Rn.vs_map, List.map_map]
        unfold byteCells
        exact List.map_congr_left fun c _ => by simp [Rn.v]
      refine ⟨?_, ?_, by simp⟩
      · have hv : ρ.v (.string b) = .string b := by simp [Rn.v]
        rw [hp, hv]
        exact Src.ofString w hu b
      · refine bds_iff.2 fun v hv => ?_
        obtain ⟨c, _, rfl⟩ := List.mem_map.1 hv
        simp [bd]
    · cases ho
  · rename_i e a m' c hu
    cases hc : h.cells a (m' * s) with
    | none => rw [hc] at ho; cases ho
    | some cs =>
      rw [hc] at ho
      simp only at ho
      cases h1 : ones cs with
      | false => rw [h1] at ho; cases ho
      | true =>
        rw [h1] at ho
        simp only [Option.some.injEq, Prod.mk.injEq] at ho
        obtain ⟨rfl, rfl⟩ := ho
        obtain ⟨q1, q2, q3, q4, q5⟩ := R.cells hc
        refine ⟨?_, q2, q1⟩
        rw [slice_v]
        exact Src.ofSlice w hu (ρ.a a) m' _ (ρ.vs cs) (by rw [Rn.vs_len, q1]) q5 (ones_v ρ h1)
  · rename_i e c hu
    split at ho
    · simp only [Option.some.injEq, Prod.mk.injEq] at ho
      obtain ⟨rfl, rfl⟩ := ho
      refine ⟨?_, trivial, by simp⟩
      rw [slice_v]
      exact Src.ofNil w hu _
    · cases ho
  · cases ho
theorem Rel.appOld {s n : Nat} {A : Option Addr} {old : List Value} (R : Rel P w0 ρ h w) (ho : appOld h s n A = some old) (c : Nat) : (Builtin.firstCells s n (.slice (A.map ρ.a) n c)).run P w = .ok (ρ.vs old).toArray w ∧ old.length = n * s ∧ bds h.n old := by
  cases A with
  | some a =>
    simp only [Run.appOld] at ho
    obtain ⟨h1, h2, -, -, -⟩ := R.cells ho
    exact ⟨by simp [Builtin.firstCells, R.loadCells ho], h1, h2⟩
  | none =>
    simp only [Run.appOld] at ho
    split at ho
    · cases ho; exact ⟨by simp [Builtin.firstCells, Rn.vs], by simp, trivial⟩
    · cases ho
theorem roomy_spec {i : TypeInfo} {n : Nat} (hr : roomy i n = true) : ∃ z, i.zero = some z ∧ z.cells.size = i.size ∧ 2 * n * i.bytes ≤ 281474976710656 ∧ n ≤ 9223372036854775807 := by
  unfold roomy at hr
  cases hz : i.zero with
  | none => rw [hz] at hr; cases hr
  | some z =>
    rw [hz] at hr
    simp only [Bool.and_eq_true] at hr
    exact ⟨z, rfl, by rw [cells_eq]; simpa using beq_true' hr.1.1, Nat.le_of_ble_eq_true hr.1.2, Nat.le_of_ble_eq_true hr.2⟩
/-- A new row, longer than is told. -/
theorem Rel.grow {t u ty el n m c : Nat} {i : TypeInfo} {A : Option Addr} {x : Value} {old y : List Value} {nx : Nx} {h1 : H} (R : Rel P w0 ρ h w) (R1 : Rel P w0 ρ h1 w) (hn : h1.n = h.n) (ht : P.underlying t = some (.slice el)) (hi : P.info? el = some i) (hpos : 0 < i.size)
    (hs : Src P i.size u (ρ.v x) m (ρ.vs y) w) (by_ : bds h.n y) (ly : y.length = m * i.size) (hold : (Builtin.firstCells i.size n (.slice (A.map ρ.a) n (ρ.cap A c))).run P w.drew = .ok (ρ.vs old).toArray w.drew) (lo : old.length = n * i.size) (bo : bds h.n old)
    (hg : ρ.cap A c < n + m) (ho : grow h1 el i n m old y = some nx) :
    ∃ v h', nx = .val v h' ∧ Step P w0 ρ h w (do Pure.pure (.value (← Builtin.append_ #[t, u] ty #[ρ.v (.slice A n c), ρ.v x]))) v h' := by
  unfold Run.grow at ho
  cases hr : roomy i (n + m) with
  | false => rw [hr] at ho; cases ho
  | true =>
    rw [hr] at ho
    cases ho
    obtain ⟨z, hz, hzs, hb1, hb2⟩ := roomy_spec hr
    have hcapn := nextslicecap_le hg
    have hrun := run_append_grow_src w t u ty el i z ht hi hz (A.map ρ.a) n (ρ.cap A c) (ρ.vs old) hold (ρ.v x) m (ρ.vs y) hs hg (by omega) (by
      have : Builtin.nextslicecap (n + m) (ρ.cap A c) * i.bytes ≤ 2 * (n + m) * i.bytes := Nat.mul_le_mul_right _ hcapn
      omega)
    have hge : n + m ≤ grownCap w (n + m) (ρ.cap A c) el := by unfold grownCap; simp [Question.cut]
    have hbo : bds h1.n (old ++ y) := by rw [hn]; exact bds_app.2 ⟨bo, by_⟩
    have hx := ρ.set_ext h1.n w.drew.heap.size (grownCap w (n + m) (ρ.cap A c) el)
    have hzl : (Builtin.zeroCells z.cells (grownCap w (n + m) (ρ.cap A c) el - (n + m))).toList.length = (grownCap w (n + m) (ρ.cap A c) el - (n + m)) * i.size := by
      simp [Builtin.zeroCells, hzs]
    have R' := R1.drew.new (o := .pending ⟨old ++ y⟩ el) (O := .cells ((ρ.vs old ++ ρ.vs y).toArray ++ Builtin.zeroCells z.cells (grownCap w (n + m) (ρ.cap A c) el - (n + m))) el) (c := grownCap w (n + m) (ρ.cap A c) el) hbo (by
      simp only [RelO]
      refine ⟨(Builtin.zeroCells z.cells (grownCap w (n + m) (ρ.cap A c) el - (n + m))).toList, i, hi, hpos, ?_, ?_⟩
      · rw [hzl]
        simp only [Rn.set, if_true, List.length_append, lo, ly]
        rw [← Nat.add_mul, ← Nat.add_mul]
        congr 1
        omega
      · rw [hx.vs _ hbo, show (ρ.set h1.n w.drew.heap.size (grownCap w (n + m) (ρ.cap A c) el)).b h1.n = w.drew.heap.size by simp [Rn.set]]
        rw [World.alloc_heap_new]
        congr 2
        apply Array.ext'
        simp [Rn.vs_app])
    refine ⟨_, _, rfl, _, _, .value _, ?_, .inl rfl, hn ▸ hx, by rw [H.new_n]; omega, R', by rw [H.new_n]; simp [bd]⟩
    rw [slice_v]
    simp only [Sem.run_bind, hrun, Result.andThen_ok, Sem.run_pure]
    congr 2
    simp [Rn.v, Rn.a, Rn.set]
theorem Rel.biAppend {ts : List TypeId} {d x : Value} {nx : Nx} (R : Rel P w0 ρ h w) (ho : biAppend P h ts d x = some nx) (bd_ : bd h.n d) (bx : bd h.n x) (ty : TypeId) :
    ∃ v h', nx = .val v h' ∧ Step P w0 ρ h w (do Pure.pure (.value (← Builtin.append_ ts.toArray ty #[ρ.v d, ρ.v x]))) v h' := by
  unfold Run.biAppend at ho
  split at ho
  · rename_i t u A n c
    split at ho
    · rename_i el ht
      cases hi : P.info? el with
      | none => rw [hi] at ho; cases ho
      | some i =>
        rw [hi] at ho
        simp only at ho
        split at ho
        · rename_i s m y hsz hsrc
          obtain ⟨hs, by_, ly⟩ := R.srcC hsrc bx
          unfold biAppend2 at ho
          have hlow := R.lowCap hi rfl bd_
          split at ho
          · rename_i hle
            have hroom : n + m ≤ ρ.cap A c := Nat.le_trans (Nat.le_of_ble_eq_true hle) hlow
            unfold appIn at ho
            split at ho
            · rename_i a
              cases hst : h.store (movA a (n * i.size)) y with
              | none => rw [hst] at ho; cases ho
              | some h' =>
                rw [hst] at ho
                cases ho
                obtain ⟨w', q1, q2, q3⟩ := R.store hst by_ hs.one
                rw [movA_eq] at q1
                refine ⟨_, _, rfl, ρ, w', .value _, ?_, .inl rfl, Rn.ext.refl _ _, Nat.le_of_eq q3.symm, q2, by rw [q3]; simpa [bd] using bd_⟩
                rw [slice_v, slice_v]
                rcases hs.kind with ⟨e', hk⟩ | hk <;> simp [Builtin.append_, und_run ht, und_run hk, sizeOf, typeInfo, hi, hs.len, hroom, hs.cells, q1]
            · split at ho
              · cases ho
                refine ⟨_, _, rfl, ρ, w, .value _, ?_, .inl rfl, Rn.ext.refl _ _, Nat.le_refl _, R, by simp [bd]⟩
                rw [slice_v]
                have hroom' : n ≤ ρ.cap none c := hroom
                rcases hs.kind with ⟨e', hk⟩ | hk <;> simp [Builtin.append_, und_run ht, und_run hk, sizeOf, typeInfo, hi, hs.len, hroom', hs.cells]
              · cases ho
          · rename_i hle hU
            have hcap := cap_known (ρ := ρ) (A := A) hU
            have hnot : ¬ n + m ≤ c := by
              intro hcc
              have : Run.lowCap h el i.size A c = c := by unfold Run.lowCap; rw [hU]
              rw [this, Nat.ble_eq_true_of_le hcc] at hle
              cases hle
            cases hold : Run.appOld h i.size n A with
            | none => rw [hold] at ho; cases ho
            | some old =>
              rw [hold] at ho
              obtain ⟨o1, o2, o3⟩ := R.drew.appOld hold (ρ.cap A c)
              exact R.grow R rfl ht hi (by omega) hs by_ ly o1 o2 o3 (by omega) ho
          · rename_i q1 q2
            unfold appMay at ho
            split at ho
            · rename_i _ _ k hcU
              have hcU' : c = U := beq_true' hcU
              subst hcU'
              split at ho
              · rename_i cs t' old hg hold
                cases hte : Nat.beq t' el with
                | false => rw [hte] at ho; cases ho
                | true =>
                  rw [hte] at ho
                  simp only at ho
                  have hte' := beq_true' hte
                  subst hte'
                  have hcap : ρ.cap (some ⟨k, 0, none⟩) U = ρ.c k := by simp [Rn.cap]
                  by_cases hroom : n + m ≤ ρ.c k
                  · -- in its place
                    obtain ⟨kn, bk, rk⟩ := R.obj _ _ hg
                    simp only [RelO] at rk
                    obtain ⟨z, i', hi', hp', hl', hw'⟩ := rk
                    rw [hi] at hi'
                    cases hi'
                    unfold Run.grow at ho
                    cases hr : roomy i (n + m) with
                    | false => rw [hr] at ho; cases ho
                    | true =>
                      rw [hr] at ho
                      cases ho
                      obtain ⟨o1, o2, o3⟩ := R.appOld hold 0
                      have hold' : h.cells ⟨k, 0, none⟩ (n * i.size) = some old := hold
                      have hrow : h.row k = some cs.toList := by unfold H.row; rw [hg]; rfl
                      have hcut : cut cs.toList 0 (n * i.size) = some old := by
                        unfold H.cells at hold'
                        simp only at hold'
                        rw [hrow] at hold'
                        exact hold'
                      obtain ⟨-, c2⟩ := cut_eq hcut
                      simp only [List.drop_zero] at c2
                      have hnl : n * i.size ≤ cs.toList.length := by
                        have := congrArg List.length c2
                        rw [o2, List.length_take] at this
                        omega
                      have hmul : (n + m) * i.size ≤ ρ.c k * i.size := Nat.mul_le_mul_right _ hroom
                      rw [Nat.add_mul] at hmul
                      have hst := run_storeCells_at (P := P) (ρ.b k) (n * i.size) t' (ρ.vs y) 0 ⟨ρ.vs cs.toList ++ z⟩ w hw' (by simp only [Rn.vs_len, List.size_toArray, List.length_append, Nat.add_zero]; omega) hs.one
                      generalize hrw : ((⟨ρ.vs cs.toList ++ z⟩ : Array Value).toList.take (n * i.size + 0) ++ ρ.vs y ++ (⟨ρ.vs cs.toList ++ z⟩ : Array Value).toList.drop (n * i.size + 0 + (ρ.vs y).length)) = row at hst
                      have hrow2 : row = ρ.vs (old ++ y) ++ (ρ.vs cs.toList ++ z).drop ((n + m) * i.size) := by
                        rw [← hrw]
                        simp only [Nat.add_zero, Rn.vs_app, Rn.vs_len, ly, Nat.add_mul]
                        rw [List.take_append_of_le_length (by rw [Rn.vs_len]; exact hnl), ← Rn.vs_take, ← c2]
                      have Rk := R.kill hg
                      have hb : bds (h.put k (.coro none)).n (old ++ y) := bds_app.2 ⟨o3, by_⟩
                      have hx := ρ.set_ext h.n (ρ.b k) (ρ.c k)
                      have hB : Below 0 w (w.setRow (ρ.b k) row.toArray) := ⟨rfl, rfl, rfl, by simp, fun j hj => absurd hj (Nat.not_lt_zero _)⟩
                      have R' := Rk.add (o := .pending ⟨old ++ y⟩ t') (b := ρ.b k) (c := ρ.c k) hB (fun j hj _ => setRow_other _ _ _ _ hj) hb
                        ⟨(R.lo _ _ hg rfl).1, by simpa using (R.lo _ _ hg rfl).2⟩ (fun j o' hj hl e => by
                          by_cases ej : j = k
                          · subst ej; rw [H.put_get (H.get_lt hg)] at hj; cases hj; cases hl
                          · rw [H.put_other (H.get_lt hg) ej] at hj
                            exact ej (R.inj _ _ _ _ hj hg hl rfl e)) (by
                          simp only [RelO]
                          refine ⟨(ρ.vs cs.toList ++ z).drop ((n + m) * i.size), i, hi, by omega, ?_, ?_⟩
                          · simp only [Rn.set, H.put_n, if_true, List.length_append, o2, ly, List.length_drop, Rn.vs_len]
                            rw [Nat.add_mul]
                            omega
                          · simp only [H.put_n]
                            rw [hx.vs _ hb, show (ρ.set h.n (ρ.b k) (ρ.c k)).b h.n = ρ.b k by simp [Rn.set], ← hrow2]
                            exact setRow_heap _ _ _ _ _ _ hw')
                      refine ⟨_, _, rfl, _, _, .value _, ?_, .inl rfl, hx, by rw [H.new_n, H.put_n]; omega, R', by rw [H.new_n]; simp [bd, H.put_n]⟩
                      have hadd : (ρ.a ⟨k, 0, none⟩).add (n * i.size) = ⟨ρ.b k, n * i.size, none⟩ := by unfold Rn.a Addr.add; split <;> simp_all
                      have hroom' : n + m ≤ ρ.cap (some ⟨k, 0, none⟩) U := by rw [hcap]; exact hroom
                      have hrun : (Builtin.append_ #[t, u] ty #[.slice (some (ρ.a ⟨k, 0, none⟩)) n (ρ.cap (some ⟨k, 0, none⟩) U), ρ.v x]).run P w = .ok (.slice (some (ρ.a ⟨k, 0, none⟩)) (n + m) (ρ.cap (some ⟨k, 0, none⟩) U)) (w.setRow (ρ.b k) row.toArray) := by
                        rcases hs.kind with ⟨e', hk⟩ | hk <;> simp [Builtin.append_, und_run ht, und_run hk, sizeOf, typeInfo, hi, hs.len, hroom', hs.cells, hadd, hst]
                      rw [slice_v]
                      simp only [Option.map_some, Sem.run_bind, Sem.run_pure, Result.andThen_ok]
                      rw [hrun]
                      simp [Rn.v, Rn.a, Rn.set, hcap, H.put_n]
                  · obtain ⟨o1, o2, o3⟩ := R.drew.appOld hold (ρ.cap (some ⟨k, 0, none⟩) U)
                    exact R.grow (R.kill hg) rfl ht hi (by omega) hs by_ ly o1 o2 o3 (by rw [hcap]; omega) ho
              · cases ho
            · cases ho
        · cases ho
    · cases ho
  · cases ho
end
/-! maps -/
mutual
theorem keq_true : ∀ {a b : Value}, isKey a = true ∨ prim a = true → keq a b = true → a = b
  | .bool a, b, _, h => by cases b <;> simp_all [keq]
  | .int j a, b, _, h => by
    cases b <;> simp only [keq, Bool.false_eq_true] at h
    split at h
    · rename_i e; subst e; simp at h; subst h; rfl
    · cases h
  | .string a, b, _, h => by
    cases b <;> simp only [keq, Bool.false_eq_true] at h
    rename_i c
    have : a.data.toList = c.data.toList := by simpa using h
    rw [show a = c from ByteArray.ext (Array.ext' this)]
  | .agg ⟨x⟩, b, hk, h => by
    cases b <;> simp only [keq, Bool.false_eq_true] at h
    rename_i c
    obtain ⟨y⟩ := c
    have hp : prims x = true := by simpa [isKey, prim] using hk
    simp only [keq] at h
    rw [keqs_true hp h]
  | .float _ _, b, _, h => by cases b <;> simp [keq] at h
  | .complex _ _ _, b, _, h => by cases b <;> simp [keq] at h
  | .pointer _, b, _, h => by cases b <;> simp [keq] at h
  | .slice _ _ _, b, _, h => by cases b <;> simp [keq] at h
  | .map _, b, _, h => by cases b <;> simp [keq] at h
  | .chan _, b, _, h => by cases b <;> simp [keq] at h
  | .func _ _ _, b, _, h => by cases b <;> simp [keq] at h
  | .nilFunc, b, _, h => by cases b <;> simp [keq] at h
  | .iface _ _, b, _, h => by cases b <;> simp [keq] at h
  | .nilIface, b, _, h => by cases b <;> simp [keq] at h
  | .tuple _, b, _, h => by cases b <;> simp [keq] at h
theorem keqs_true : ∀ {x y : List Value}, prims x = true → keqs x y = true → x = y
  | [], [], _, _ => rfl
  | [], _ :: _, _, h => by simp [keqs] at h
  | _ :: _, [], _, h => by simp [keqs] at h
  | a :: x, b :: y, hp, h => by
    unfold prims at hp
    cases ha : prim a with
    | false => rw [ha] at hp; cases hp
    | true =>
      rw [ha] at hp
      unfold keqs at h
      cases hk : keq a b with
      | false => rw [hk] at h; cases h
      | true =>
        rw [hk] at h
        rw [keq_true (.inr ha) hk, keqs_true hp h]
end
theorem keq_prim_refl {a : Value} (h : prim a = true) : keq a a = true := by cases a <;> simp_all [prim, keq]
theorem keqs_refl : ∀ {x : List Value}, prims x = true → keqs x x = true
  | [], _ => rfl
  | a :: x, hp => by
    unfold prims at hp
    cases ha : prim a with
    | false => rw [ha] at hp; cases hp
    | true =>
      rw [ha] at hp
      unfold keqs
      rw [keq_prim_refl ha]
      exact keqs_refl hp
theorem keq_refl {a : Value} (h : isKey a = true) : keq a a = true := by
  cases a with
  | agg c => obtain ⟨l⟩ := c; simp only [isKey] at h; simpa only [keq] using keqs_refl h
  | bool b => simp [keq]
  | int k n => simp [keq]
  | string s => simp [keq]
  | _ => simp [isKey, prim] at h
theorem noneEq_spec {k : Value} (hk : isKey k = true) : ∀ {es : List MapEntry}, noneEq k es = true → ∀ e ∈ es, e.key ≠ k
  | [], _, e, he => by cases he
  | x :: es, h, e, he => by
    unfold noneEq at h
    cases hx : keq k x.key with
    | true => rw [hx] at h; cases h
    | false =>
      rw [hx] at h
      rcases List.mem_cons.1 he with rfl | he
      · intro e'; rw [e', keq_refl hk] at hx; cases hx
      · exact noneEq_spec hk h e he
theorem findE_spec {k : Value} (hk : isKey k = true) : ∀ {es : List MapEntry} {j : Nat} {r : Option (Nat × MapEntry)}, findE k es j = some r →
    (r = none ∧ ∀ e ∈ es, e.key ≠ k) ∨ ∃ i e, r = some (j + i, e) ∧ es[i]? = some e ∧ e.key = k ∧ ∀ i' e', es[i']? = some e' → e'.key = k → i' = i
  | [], j, r, h => by simp only [findE, Option.some.injEq] at h; exact .inl ⟨h.symm, fun e he => by cases he⟩
  | x :: es, j, r, h => by
    unfold findE at h
    cases hx : keq k x.key with
    | true =>
      rw [hx] at h
      simp only at h
      cases hn : noneEq k es with
      | false => rw [hn] at h; cases h
      | true =>
        rw [hn] at h
        simp only [Option.some.injEq] at h
        subst h
        have e1 := keq_true (.inl hk) hx
        refine .inr ⟨0, x, rfl, rfl, e1.symm, fun i' e' hi he => ?_⟩
        cases i' with
        | zero => rfl
        | succ i' => exact absurd he (noneEq_spec hk hn e' (List.mem_of_getElem? hi))
    | false =>
      rw [hx] at h
      simp only at h
      have hxk : x.key ≠ k := fun e => by rw [e, keq_refl hk] at hx; cases hx
      rcases findE_spec hk h with ⟨h1, h2⟩ | ⟨i, e, h1, h2, h3, h4⟩
      · refine .inl ⟨h1, fun e he => ?_⟩
        rcases List.mem_cons.1 he with rfl | he
        · exact hxk
        · exact h2 e he
      · refine .inr ⟨i + 1, e, by rw [h1, show j + 1 + i = j + (i + 1) by omega], h2, h3, fun i' e' hi he => ?_⟩
        cases i' with
        | zero => simp only [List.getElem?_cons_zero, Option.some.injEq] at hi; subst hi; exact absurd he hxk
        | succ i' => rw [h4 i' e' hi he]
section
variable {P : Program} {w0 : Base} {w w' : World} {ρ : Rn} {h : H}
/-- What is found among a map's entries, in a world. -/
theorem findK_sound {ks : List TypeId} (hK : ∀ kt, ks.contains kt = true → WideMaps.KeyLaw P kt) {kt : TypeId} {k : Value} {es : List MapEntry} {r : Option (Nat × MapEntry)} (ρ : Rn) (hes : ∀ e ∈ es, isKey e.key = true) (ho : findK P ks kt k es = some r) (w : World) :
    isKey k = true ∧ (∀ em, (Instr.checkKey em 10000 kt k).run P w = .ok () w) ∧ (Instr.keyThatStays k k).run P w = .ok k w ∧
    ((r = none ∧ (Instr.findKey kt k (es.map ρ.e)).run P w = .ok none w) ∨ ∃ i e, r = some (i, e) ∧ es[i]? = some e ∧ e.key = k ∧ (Instr.findKey kt k (es.map ρ.e)).run P w = .ok (some (i, ρ.v e.val)) w) := by
  unfold findK at ho
  split at ho
  · rename_i h1 h2 h3 h4
    have K := hK kt h1
    obtain ⟨lk, hlk⟩ := Option.isSome_iff_exists.1 h3
    have hall : ∀ e ∈ es.map ρ.e, ∃ l, keyOf P kt e.key = some l := by
      intro e he
      obtain ⟨x, hx, rfl⟩ := List.mem_map.1 he
      have := List.all_eq_true.1 h4 x hx
      simp only [Rn.e, isKey_v ρ (hes x hx)]
      exact Option.isSome_iff_exists.1 this
    refine ⟨h2, fun em => K.check w em hlk, K.stays w hlk, ?_⟩
    rcases findE_spec h2 ho with ⟨e1, e2⟩ | ⟨i, e, e1, e2, e3, e4⟩
    · rcases K.find w hlk (es.map ρ.e) hall with ⟨f1, f2⟩ | ⟨j, e0, f1, f2, f3⟩
      · exact .inl ⟨e1, f1⟩
      · rw [List.getElem?_map] at f2
        cases hj : es[j]? with
        | none => rw [hj] at f2; cases f2
        | some x =>
          rw [hj] at f2
          simp only [Option.map_some, Option.some.injEq] at f2
          subst f2
          have hx := List.mem_of_getElem? hj
          simp only [Rn.e, isKey_v ρ (hes x hx)] at f3
          exact absurd f3 (e2 x hx)
    · rcases K.find w hlk (es.map ρ.e) hall with ⟨f1, f2⟩ | ⟨j, e0, f1, f2, f3⟩
      · have hm : ρ.e e ∈ es.map ρ.e := List.mem_map_of_mem (List.mem_of_getElem? e2)
        have := f2 _ hm
        simp only [Rn.e, isKey_v ρ (hes e (List.mem_of_getElem? e2))] at this
        exact absurd e3 this
      · rw [List.getElem?_map] at f2
        cases hj : es[j]? with
        | none => rw [hj] at f2; cases f2
        | some x =>
          rw [hj] at f2
          simp only [Option.map_some, Option.some.injEq] at f2
          subst f2
          have hx := List.mem_of_getElem? hj
          simp only [Rn.e, isKey_v ρ (hes x hx)] at f3
          have := e4 j x hj f3
          subst this
          rw [e2] at hj
          cases hj
          exact .inr ⟨j, e, by rw [e1, Nat.zero_add], e2, e3, f1⟩
  · cases ho
theorem mapAt_some {m : Value} {r c : Nat} {es : List MapEntry} (R : Rel P w0 ρ h w) (ho : mapAt h m = some (r, es, c)) : m = .map (some r) ∧ (∃ a, h.get r = some (.map a c) ∧ a.toList = es) ∧ r < h.n ∧ (∀ e ∈ es, isKey e.key = true ∧ bd h.n e.val) ∧ w.heap[ρ.b r]? = some (.map ⟨es.map ρ.e⟩ c) := by
  unfold mapAt at ho
  split at ho
  · rename_i q
    split at ho
    · rename_i a c' hg
      simp only [Option.some.injEq, Prod.mk.injEq] at ho
      obtain ⟨rfl, rfl, rfl⟩ := ho
      obtain ⟨h1, h2, h3⟩ := R.obj _ _ hg
      exact ⟨rfl, ⟨a, hg, rfl⟩, h1, h2, h3⟩
    · cases ho
  · cases ho
theorem zplain_v {t : TypeId} {z : Value} (ρ : Rn) (n : Nat) (ho : zplain P t = some z) : zr P t = some z ∧ ρ.v z = z ∧ bd n z := by
  unfold zplain at ho
  cases hz : zr P t with
  | none => rw [hz] at ho; cases ho
  | some v =>
    rw [hz] at ho
    simp only at ho
    cases hp : plains (cellsOf v) with
    | false => rw [hp] at ho; cases ho
    | true =>
      rw [hp] at ho
      cases ho
      refine ⟨rfl, ?_⟩
      obtain ⟨h1, h2⟩ := plains_v ρ n hp
      cases z with
      | agg cs => obtain ⟨l⟩ := cs; simp only [cellsOf] at h1 h2; exact ⟨by simp only [Rn.v, h1], by simpa only [bd] using h2⟩
      | _ =>
        simp only [cellsOf, Rn.vs, List.cons.injEq, and_true] at h1
        exact ⟨h1, h2.1⟩
theorem okRes_v (ρ : Rn) (ok : Bool) (v : Value) (b : Bool) : ρ.v (okRes ok v b) = if ok then .tuple #[ρ.v v, .bool b] else ρ.v v := by cases ok <;> simp [okRes, Rn.v, Rn.vs]
theorem Rel.opLookup {C : Cfg} (hK : ∀ kt, C.ks.contains kt = true → WideMaps.KeyLaw P kt) {t : TypeId} {m k v : Value} {ok : Bool} (R : Rel P w0 ρ h w) (ho : opLookup P C h t m k ok = some v) :
    (Instr.lookup t (ρ.v m) (ρ.v k) ok).run P w = .ok (ρ.v v) w ∧ bd h.n v := by
  unfold Run.opLookup at ho
  split at ho
  · rename_i kt el r es c hu hm
    obtain ⟨rfl, -, hr, hes, hw⟩ := mapAt_some R hm
    split at ho
    · rename_i i e hf
      cases ho
      obtain ⟨hk, hc, -, hfind⟩ := findK_sound hK ρ (fun e he => (hes e he).1) hf w
      rcases hfind with ⟨h1, _⟩ | ⟨i', e', h1, h2, h3, h4⟩
      · cases h1
      · cases h1
        refine ⟨?_, ?_⟩
        · rw [isKey_v ρ hk, okRes_v]
          simp [Instr.lookup, und_run hu, Rn.v, MapKept.run_getObj_map hw, hc, h4, Result.andThen]
        · have := (hes e (List.mem_of_getElem? h2)).2
          cases ok
          · exact this
          · simp only [okRes, bd, bds, and_true]; exact this
    · rename_i z hf hz
      cases ho
      obtain ⟨hk, hc, -, hfind⟩ := findK_sound hK ρ (fun e he => (hes e he).1) hf w
      rcases hfind with ⟨_, h4⟩ | ⟨i', e', h1, _⟩
      · obtain ⟨z1, z2, z3⟩ := zplain_v ρ h.n hz
        refine ⟨?_, ?_⟩
        · rw [isKey_v ρ hk, okRes_v, z2]
          simp [Instr.lookup, und_run hu, Rn.v, MapKept.run_getObj_map hw, hc, h4, run_zr z1, Result.andThen]
        · cases ok
          · exact z3
          · simp only [okRes, bd, bds, and_true]; exact z3
      · cases h1
    · cases ho
  · cases ho
theorem map_set_e (ρ : Rn) (es : List MapEntry) (i : Nat) (e x : MapEntry) (f : MapEntry → MapEntry) (hi : es[i]? = some e) (hf : f (ρ.e e) = ρ.e x) : (es.map ρ.e).modify i f = (es.set i x).map ρ.e := by
  apply List.ext_getElem?
  intro j
  rw [List.getElem?_modify, List.getElem?_map, List.getElem?_map, List.getElem?_set]
  by_cases hij : i = j
  · subst hij
    obtain ⟨hlt, rfl⟩ := List.getElem?_eq_some_iff.1 hi
    simp [hf, hlt]
  · simp [hij]
theorem Rel.putMap {r c c' : Nat} {es es' : List MapEntry} {a : Array MapEntry} (R : Rel P w0 ρ h w) (hg : h.get r = some (.map a c)) (hb : ∀ e ∈ es', isKey e.key = true ∧ bd h.n e.val) : Rel P w0 ρ (h.put r (.map ⟨es'⟩ c')) (w.putObj (ρ.b r) (.map ⟨es'.map ρ.e⟩ c')) := by
  refine R.upd hg rfl hb (Upd.putObj _ _ _) ?_
  have hlt := (R.lo _ _ hg rfl).2
  simp [RelO, World.putObj, hlt]
theorem mem_set {α : Type} {l : List α} {i : Nat} {x y : α} (h : y ∈ l.set i x) : y = x ∨ y ∈ l := by
  rcases List.mem_or_eq_of_mem_set h with h | h
  · exact .inr h
  · exact .inl h
theorem Rel.opUpdate {C : Cfg} (hK : ∀ kt, C.ks.contains kt = true → WideMaps.KeyLaw P kt) {t : TypeId} {m k v : Value} {nx : Nx} (R : Rel P w0 ρ h w) (ho : opUpdate P C h t m k v = some nx) (hbv : bd h.n v) :
    ∃ h', nx = .val undef h' ∧ Step P w0 ρ h w (do Instr.mapUpdate t (ρ.v m) (ρ.v k) (ρ.v v); Pure.pure .skip) undef h' := by
  unfold Run.opUpdate at ho
  split at ho
  · rename_i kt el r es c hu hm
    obtain ⟨rfl, ⟨a, hg, ha⟩, hr, hes, hw⟩ := mapAt_some R hm
    split at ho
    · rename_i i e hf
      cases ho
      obtain ⟨hk, hc, hst, hfind⟩ := findK_sound hK ρ (fun e he => (hes e he).1) hf w
      rcases hfind with ⟨h1, _⟩ | ⟨i', e', h1, h2, h3, h4⟩
      · cases h1
      · cases h1
        have R' := R.putMap (c' := c) (es := es) (es' := es.set i { e with key := k, val := v }) hg (fun x hx => by
          rcases mem_set hx with rfl | hx
          · exact ⟨hk, hbv⟩
          · exact hes x hx)
        refine ⟨_, rfl, ρ, _, .skip, ?_, .inr ⟨rfl, rfl⟩, Rn.ext.refl _ _, Nat.le_refl _, R', bd_undef _⟩
        have hkey : (((⟨es.map ρ.e⟩ : Array MapEntry)[i]?).map (·.key)).getD k = k := by simp [h2, Rn.e, h3, isKey_v ρ hk]
        have hmod : (⟨es.map ρ.e⟩ : Array MapEntry).modify i (fun e => { e with key := k, val := ρ.v v }) = ⟨(es.set i { e with key := k, val := v }).map ρ.e⟩ := by
          apply Array.ext'
          rw [Array.toList_modify]
          exact map_set_e ρ es i e _ _ h2 (by show (⟨k, ρ.v v, e.born⟩ : MapEntry) = ⟨ρ.v k, ρ.v v, e.born⟩; rw [isKey_v ρ hk])
        rw [isKey_v ρ hk]
        simp only [Instr.mapUpdate, Rn.v, Sem.run_bind, und_run hu, Result.andThen_ok, MapKept.run_getObj_map hw, hc, h4, hkey, hst, hmod, MapKept.run_setObj_map _ hw, Sem.run_pure]
        rfl
    · rename_i hf
      cases ho
      obtain ⟨hk, hc, hst, hfind⟩ := findK_sound hK ρ (fun e he => (hes e he).1) hf w
      rcases hfind with ⟨_, h4⟩ | ⟨i', e', h1, _⟩
      · have R' := R.putMap (c' := c + 1) (es := es) (es' := es ++ [⟨k, v, c⟩]) hg (fun x hx => by
          rcases List.mem_append.1 hx with hx | hx
          · exact hes x hx
          · simp only [List.mem_singleton] at hx; subst hx; exact ⟨hk, hbv⟩)
        refine ⟨_, rfl, ρ, _, .skip, ?_, .inr ⟨rfl, rfl⟩, Rn.ext.refl _ _, Nat.le_refl _, R', bd_undef _⟩
        rw [isKey_v ρ hk]
        simp only [Instr.mapUpdate, Rn.v, Sem.run_bind, und_run hu, Result.andThen_ok, MapKept.run_getObj_map hw, hc, h4, MapKept.run_setObj_map _ hw, Sem.run_pure]
        simp [World.putObj, Rn.e, isKey_v ρ hk]
      · cases h1
    · cases ho
  · cases ho
theorem Rel.opEntry {C : Cfg} (hK : ∀ kt, C.ks.contains kt = true → WideMaps.KeyLaw P kt) {t : TypeId} {m k : Value} {nx : Nx} (R : Rel P w0 ρ h w) (ho : opEntry P C h t m k = some nx) :
    ∃ v h', nx = .val v h' ∧ Step P w0 ρ h w (do Pure.pure (.value (← Instr.mapEntry t (ρ.v m) (ρ.v k)))) v h' := by
  unfold Run.opEntry at ho
  split at ho
  · rename_i kt el r es c hu hm
    obtain ⟨rfl, ⟨a, hg, ha⟩, hr, hes, hw⟩ := mapAt_some R hm
    split at ho
    · rename_i i e hf
      cases ho
      obtain ⟨hk, hc, hst, hfind⟩ := findK_sound hK ρ (fun e he => (hes e he).1) hf w
      rcases hfind with ⟨h1, _⟩ | ⟨i', e', h1, h2, h3, h4⟩
      · cases h1
      · cases h1
        have he := hes e (List.mem_of_getElem? h2)
        have R' := R.putMap (c' := c) (es := es) (es' := es.set i { e with key := k }) hg (fun x hx => by
          rcases mem_set hx with rfl | hx
          · exact ⟨hk, he.2⟩
          · exact hes x hx)
        refine ⟨_, _, rfl, ρ, _, .value _, ?_, .inl rfl, Rn.ext.refl _ _, Nat.le_refl _, R', by simp only [bd, bds, and_true]; exact he.2⟩
        have hkey : (((⟨es.map ρ.e⟩ : Array MapEntry)[i]?).map (·.key)).getD k = k := by simp [h2, Rn.e, h3, isKey_v ρ hk]
        have hborn : (((⟨es.map ρ.e⟩ : Array MapEntry)[i]?).map (fun x => ((x.born : Nat) : Int))).getD 0 = ((e.born : Nat) : Int) := by simp [h2, Rn.e]
        have hmod : (⟨es.map ρ.e⟩ : Array MapEntry).modify i (fun e => { e with key := k }) = ⟨(es.set i { e with key := k }).map ρ.e⟩ := by
          apply Array.ext'
          rw [Array.toList_modify]
          exact map_set_e ρ es i e _ _ h2 (by show (⟨k, ρ.v e.val, e.born⟩ : MapEntry) = ⟨ρ.v k, ρ.v e.val, e.born⟩; rw [isKey_v ρ hk])
        rw [isKey_v ρ hk]
        simp only [Instr.mapEntry, Rn.v, Rn.vs, Sem.run_bind, und_run hu, Result.andThen_ok, MapKept.run_getObj_map hw, hc, h4, hkey, hborn, hst, hmod, MapKept.run_setObj_map _ hw, Sem.run_pure]
        rfl
    · rename_i z hf hz
      cases ho
      obtain ⟨hk, hc, hst, hfind⟩ := findK_sound hK ρ (fun e he => (hes e he).1) hf w
      rcases hfind with ⟨_, h4⟩ | ⟨i', e', h1, _⟩
      · obtain ⟨z1, z2, z3⟩ := zplain_v ρ h.n hz
        have R' := R.putMap (c' := c + 1) (es := es) (es' := es ++ [⟨k, z, c⟩]) hg (fun x hx => by
          rcases List.mem_append.1 hx with hx | hx
          · exact hes x hx
          · simp only [List.mem_singleton] at hx; subst hx; exact ⟨hk, z3⟩)
        refine ⟨_, _, rfl, ρ, _, .value _, ?_, .inl rfl, Rn.ext.refl _ _, Nat.le_refl _, R', by simp only [bd, bds, and_true]; exact z3⟩
        rw [isKey_v ρ hk]
        simp only [Instr.mapEntry, Rn.v, Rn.vs, z2, Sem.run_bind, und_run hu, Result.andThen_ok, MapKept.run_getObj_map hw, hc, h4, run_zr z1, MapKept.run_setObj_map _ hw, Sem.run_pure]
        simp [World.putObj, Rn.e, isKey_v ρ hk, z2, goInt]
      · cases h1
    · cases ho
  · cases ho
theorem setBorn_spec (ρ : Rn) {b : Nat} {v : Value} {n : Nat} (hv : bd n v) : ∀ {es r : List MapEntry}, setBorn b v es = some r → (∀ e ∈ es, isKey e.key = true ∧ bd n e.val) →
    (∃ i, (es.map ρ.e).findIdx? (fun e => ((e.born : Nat) : Int) == ((b : Nat) : Int)) = some i ∧ (es.map ρ.e).modify i (fun e => { e with val := ρ.v v }) = r.map ρ.e) ∧ ∀ e ∈ r, isKey e.key = true ∧ bd n e.val
  | [], r, h, _ => by simp [setBorn] at h
  | e :: es, r, h, hb => by
    unfold setBorn at h
    cases hx : Nat.beq e.born b with
    | true =>
      rw [hx] at h
      simp only [Option.some.injEq] at h
      subst h
      have e1 := beq_true' hx
      refine ⟨⟨0, by simp [List.findIdx?_cons, Rn.e, e1], by simp [List.modify, Rn.e]⟩, fun x hx' => ?_⟩
      rcases List.mem_cons.1 hx' with rfl | hx'
      · exact ⟨(hb e (by simp)).1, hv⟩
      · exact hb x (by simp [hx'])
    | false =>
      rw [hx] at h
      simp only at h
      cases hs : setBorn b v es with
      | none => rw [hs] at h; cases h
      | some q =>
        rw [hs] at h
        simp only [Option.some.injEq] at h
        subst h
        obtain ⟨⟨i, h1, h2⟩, h3⟩ := setBorn_spec ρ hv hs (fun x hx' => hb x (by simp [hx']))
        have e1 : ¬ ((e.born : Nat) : Int) = ((b : Nat) : Int) := by have := beq_false' hx; omega
        refine ⟨⟨i + 1, ?_, ?_⟩, fun x hx' => ?_⟩
        · rw [List.map_cons, List.findIdx?_cons]
          have : (((ρ.e e).born : Nat) : Int) == ((b : Nat) : Int) ↔ False := by simp [Rn.e]; exact fun hh => e1 (by omega)
          rw [if_neg (by simpa using this), h1]
          rfl
        · simp only [List.map_cons, List.modify_succ_cons, h2]
        · rcases List.mem_cons.1 hx' with rfl | hx'
          · exact hb x (by simp)
          · exact h3 x hx'
theorem Rel.opEntryS {t : TypeId} {m s v : Value} {nx : Nx} (R : Rel P w0 ρ h w) (ho : opEntryS h m s v = some nx) (hbv : bd h.n v) :
    ∃ h', nx = .val undef h' ∧ Step P w0 ρ h w (do Instr.entryStore t (ρ.v m) (ρ.v s) (ρ.v v); Pure.pure .skip) undef h' := by
  unfold Run.opEntryS at ho
  split at ho
  · rename_i r es c b hm hs
    obtain ⟨rfl, ⟨a, hg, ha⟩, hr, hes, hw⟩ := mapAt_some R hm
    cases hsb : setBorn b v es with
    | none => rw [hsb] at ho; cases ho
    | some es' =>
      rw [hsb] at ho
      cases ho
      obtain ⟨⟨i, h1, h2⟩, h3⟩ := setBorn_spec ρ hbv hsb hes
      obtain ⟨k, rfl⟩ := asN_int hs
      have R' := R.putMap (c' := c) (es := es) (es' := es') hg h3
      refine ⟨_, rfl, ρ, _, .skip, ?_, .inr ⟨rfl, rfl⟩, Rn.ext.refl _ _, Nat.le_refl _, R', bd_undef _⟩
      have hidx : (⟨es.map ρ.e⟩ : Array MapEntry).findIdx? (fun e => ((e.born : Nat) : Int) == ((b : Nat) : Int)) = some i := by rw [Go.WideElems.findIdx_arr]; exact h1
      have hmod : (⟨es.map ρ.e⟩ : Array MapEntry).modify i (fun e => { e with val := ρ.v v }) = ⟨es'.map ρ.e⟩ := by
        apply Array.ext'
        rw [Array.toList_modify]
        exact h2
      simp only [Instr.entryStore, Rn.v, asInt, asIntOf, Sem.run_bind, Result.andThen_ok, MapKept.run_getObj_map hw, Sem.run_pure, hidx, hmod, MapKept.run_setObj_map _ hw]
      rfl
  · cases ho
theorem Rel.biLen {t ty : TypeId} {x v : Value} {d : TypeDesc} (R : Rel P w0 ρ h w) (hu : P.underlying t = some d) (ho : biLen h x = some v) (hd : lenFits d x = true) :
    (Builtin.len_ #[t] ty #[ρ.v x]).run P w = .ok (ρ.v v) w ∧ bd h.n v := by
  cases x with
  | slice A n c =>
    simp only [Run.biLen, Option.some.injEq] at ho
    subst ho
    cases d <;> simp only [lenFits, Bool.false_eq_true] at hd
    rw [slice_v]
    exact ⟨by simp [Builtin.len_, und_run hu, Rn.v, goInt], by simp [bd]⟩
  | string s =>
    simp only [Run.biLen, Option.some.injEq] at ho
    subst ho
    cases d <;> simp only [lenFits, Bool.false_eq_true] at hd
    refine ⟨?_, by simp [bd]⟩
    simp only [Rn.v]
    simp [Builtin.len_, und_run hu, goInt]
  | map m =>
    cases m with
    | none =>
      simp only [Run.biLen, Option.some.injEq] at ho
      subst ho
      cases d <;> simp only [lenFits, Bool.false_eq_true] at hd
      exact ⟨by simp [Builtin.len_, und_run hu, Rn.v, goInt], by simp [bd]⟩
    | some r =>
      simp only [Run.biLen] at ho
      cases hg : h.get r with
      | none => rw [hg] at ho; cases ho
      | some o =>
        rw [hg] at ho
        cases o <;> simp only [reduceCtorEq] at ho
        rename_i es c
        simp only [Option.some.injEq] at ho
        subst ho
        cases d <;> simp only [lenFits, Bool.false_eq_true] at hd
        obtain ⟨-, -, h3⟩ := R.obj _ _ hg
        simp only [RelO] at h3
        exact ⟨by simp [Builtin.len_, und_run hu, Rn.v, goInt, MapKept.run_getObj_map h3, Result.andThen], by simp [bd]⟩
  | _ => simp [Run.biLen] at ho
end
/-! rows that are made, ranges over maps, texts that share a row's bytes -/
section
variable {P : Program} {w0 : Base} {w w' : World} {ρ : Rn} {h : H}
theorem Rel.opMakeSlice {t : TypeId} {l c : Value} {nx : Nx} (R : Rel P w0 ρ h w) (ho : opMakeSlice P h t l c = some nx) :
    ∃ v h', nx = .val v h' ∧ Step P w0 ρ h w (do Pure.pure (.value (← Instr.makeSlice t (ρ.v l) (ρ.v c)))) v h' := by
  unfold Run.opMakeSlice at ho
  split at ho
  · rename_i el n m hu hl hc
    split at ho
    · rename_i z s i hz hs hi
      split at ho
      · rename_i c1 c2 c3 c4
        cases ho
        obtain ⟨k1, rfl⟩ := asN_int hl
        obtain ⟨k2, rfl⟩ := asN_int hc
        obtain ⟨zv, i', hi', hzz, hzc, hpl⟩ := zcells_some hz
        rw [hi] at hi'
        cases hi'
        obtain ⟨j, hj, hjs⟩ := sz_some hs
        rw [hi] at hj
        cases hj
        have hlen : z.length = s + 1 := beq_true' c1
        have hnm := Nat.le_of_ble_eq_true c2
        have hby := Nat.le_of_ble_eq_true c3
        have hm := Nat.le_of_ble_eq_true c4
        have hzv : zv.cells = ⟨z⟩ := by rw [cells_eq, hzc]
        obtain ⟨e1, e2⟩ := plains_repz ρ h.n hpl (by omega) (m * (s + 1))
        have hx := ρ.set_ext h.n w.heap.size 0
        have R' := R.new (o := .cells ⟨repz z (m * (s + 1))⟩ el) (O := .cells ⟨repz z (m * (s + 1))⟩ el) (c := 0) e2 ⟨rfl, by
          rw [hx.vs _ e2, e1, show (ρ.set h.n w.heap.size 0).b h.n = w.heap.size by simp [Rn.set]]
          exact World.alloc_heap_new w _⟩
        refine ⟨_, _, rfl, _, _, .value _, ?_, .inl rfl, hx, by rw [H.new_n]; omega, R', by rw [H.new_n]; simp [bd]⟩
        have w1 : IntKind.i64.wrap (n : Int) = n := by unfold IntKind.wrap; simp [IntKind.bits, IntKind.signed]; omega
        have w2 : IntKind.i64.wrap (m : Int) = m := by unfold IntKind.wrap; simp [IntKind.bits, IntKind.signed]; omega
        have t1 : ¬ ((m : Int) < 0) := by omega
        have t2 : ¬ ((i.bytes : Int) * (m : Int) > 2 ^ 48) := by
          have : (i.bytes : Int) * (m : Int) = ((i.bytes * m : Nat) : Int) := by simp
          rw [this]; omega
        have t3 : ¬ ((n : Int) < 0) := by omega
        have t4 : ¬ ((n : Int) > (m : Int)) := by omega
        have hmU : m < U := by have : (1048576 : Nat) < U := by decide
                               omega
        have hrun : (Instr.makeSlice t (.int k1 n) (.int k2 m)).run P w = .ok (.slice (some ⟨w.heap.size, 0, none⟩) n m) (w.alloc (.cells ⟨repz z (m * (s + 1))⟩ el)) := by
          simp only [Instr.makeSlice, Sem.run_bind, und_run hu, Result.andThen_ok, asInt, asIntOf, typeInfo, run_program, hi, Sem.run_pure, w1, w2]
          rw [if_neg (by simp [t1, t2, t3, t4]; omega)]
          simp only [Sem.run_bind, run_askRoom, Result.andThen_ok, sizeOf, typeInfo, run_program, hi, Sem.run_pure, hjs, Int.toNat_natCast]
          by_cases hm0 : m = 0
          · subst hm0
            have hr0 : repz z (0 * (s + 1)) = [] := by simp [repz]
            rw [hr0]
            have hz0 : Array.map (fun x => (default : Value)) (Array.range 0) = (⟨[]⟩ : Array Value) := by apply Array.ext'; simp [Array.toList_range]
            simp [newRow, hz0]
          · have hnz : ¬ m * (s + 1) = 0 := Nat.mul_ne_zero hm0 (by omega)
            rw [if_neg hnz]
            simp only [Sem.run_bind, zeroValue, typeInfo, run_program, hi, hzz, Sem.run_pure, Result.andThen_ok, newRow, run_newObj, repz_eq hzv (by omega) (m * (s + 1))]
            rfl
        simp only [Rn.v, Sem.run_bind, hrun, Result.andThen_ok, Sem.run_pure]
        simp [Rn.a, Rn.set, hmU]
      · cases ho
    · cases ho
  · cases ho
theorem Rel.opRange {t : TypeId} {x : Value} {nx : Nx} (R : Rel P w0 ρ h w) (ho : opRange P h t x = some nx) :
    ∃ v h', nx = .val v h' ∧ Step P w0 ρ h w (do Pure.pure (.value (← Instr.range t (ρ.v x)))) v h' := by
  unfold Run.opRange at ho
  split at ho
  · rename_i hu
    cases ho
    have hx := ρ.set_ext h.n w.heap.size 0
    have R' := R.new (o := .mapIter none 0 #[] 0) (O := .mapIter none 0 #[] 0) (c := 0) (by simp [bdO]) (by
      simp only [RelO]
      rw [show (ρ.set h.n w.heap.size 0).b h.n = w.heap.size by simp [Rn.set]]
      exact World.alloc_heap_new w _)
    refine ⟨_, _, rfl, _, _, .value _, ?_, .inl rfl, hx, by rw [H.new_n]; omega, R', by rw [H.new_n]; simp [bd]⟩
    simp [Instr.range, und_run hu, Rn.v, Rn.a, Rn.set]
  · rename_i m hu
    split at ho
    · rename_i es c hg
      cases ho
      obtain ⟨h1, h2, h3⟩ := R.obj _ _ hg
      simp only [RelO] at h3
      have hx := ρ.set_ext h.n w.heap.size 0
      have R' := R.new (o := .mapIter (some m) c #[] c) (O := .mapIter (some (ρ.b m)) c #[] c) (c := 0) (by simpa [bdO] using h1) (by
        simp only [RelO]
        rw [show (ρ.set h.n w.heap.size 0).b h.n = w.heap.size by simp [Rn.set]]
        simp only [Option.map_some, (hx m h1).1]
        exact World.alloc_heap_new w _)
      refine ⟨_, _, rfl, _, _, .value _, ?_, .inl rfl, hx, by rw [H.new_n]; omega, R', by rw [H.new_n]; simp [bd]⟩
      simp [Instr.range, und_run hu, Rn.v, Rn.a, Rn.set, MapKept.run_getObj_map h3, Result.andThen]
    · cases ho
  · cases ho
theorem run_getIter {r : Nat} {m : Option Nat} {a c : Nat} {s : Array Nat} (hw : w.heap[r]? = some (.mapIter m a s c)) : (getObj r).run P w = .ok (.mapIter m a s c) w := by simp [getObj, Sem.run, hw]
theorem run_setIter {r : Nat} {m : Option Nat} {a c : Nat} {s : Array Nat} (hw : w.heap[r]? = some (.mapIter m a s c)) (o : Obj) : (setObj r o).run P w = .ok () (w.putObj r o) := by simp [setObj, Sem.run, hw, World.putObj]
theorem unseen_eq (seen : List Nat) : ∀ es : List MapEntry, unseen seen es = es.filter fun e => !seen.contains e.born
  | [] => rfl
  | e :: es => by
    unfold unseen
    cases hs : seen.contains e.born with
    | true => simp only [List.filter_cons, hs, Bool.not_true, Bool.false_eq_true, if_false]; exact unseen_eq seen es
    | false => simp only [List.filter_cons, hs, Bool.not_false, if_true, unseen_eq seen es]
theorem Rel.opNext {t : TypeId} {x : Value} {str : Bool} {nx : Nx} (R : Rel P w0 ρ h w) (ho : opNext h x str = some nx) :
    ∃ v h', nx = .val v h' ∧ Step P w0 ρ h w (do Pure.pure (.value (← Instr.next (ρ.v x) str t))) v h' := by
  unfold Run.opNext at ho
  split at ho
  · rename_i r sp
    split at ho
    · rename_i a s c hg
      cases ho
      obtain ⟨h1, h2, h3⟩ := R.obj _ _ hg
      simp only [RelO, Option.map_none] at h3
      refine ⟨_, _, rfl, ρ, w, .value _, ?_, .inl rfl, Rn.ext.refl _ _, Nat.le_refl _, R, by simp [bd, bds]⟩
      simp [Instr.next, Rn.v, Rn.vs, Rn.a, run_getIter h3]
    · rename_i m since seen last hg
      split at ho
      · rename_i es c hm
        obtain ⟨h1, h2, h3⟩ := R.obj _ _ hg
        obtain ⟨m1, m2, m3⟩ := R.obj _ _ hm
        simp only [RelO, Option.map_some] at h3 m3
        simp only [bdO] at m2
        unfold nextM at ho
        have hall : okNext seen.toList last es.toList = true → (!seen.isEmpty && !(⟨es.toList.map ρ.e⟩ : Array MapEntry).isEmpty && (⟨es.toList.map ρ.e⟩ : Array MapEntry).all (fun e => e.born ≥ last)) = false := by
          intro hk
          unfold okNext at hk
          obtain ⟨sl⟩ := seen
          obtain ⟨el⟩ := es
          cases sl with
          | nil => simp
          | cons q sl =>
            cases el with
            | nil => simp
            | cons e el =>
              simp only at hk
              obtain ⟨y, hy, hlt⟩ := List.any_eq_true.1 hk
              have hlt' := blt_true hlt
              have : ((⟨(e :: el).map ρ.e⟩ : Array MapEntry).all fun e => decide (e.born ≥ last)) = false := by
                rw [Bool.eq_false_iff]
                intro hh
                have := Array.all_eq_true_iff_forall_mem.1 hh (ρ.e y) (by simp only [List.mem_toArray]; exact List.mem_map_of_mem hy)
                simp [Rn.e] at this
                omega
              rw [this]
              simp
        have hfil : ((⟨es.toList.map ρ.e⟩ : Array MapEntry).filter fun e => !seen.contains e.born) = ⟨(unseen seen.toList es.toList).map ρ.e⟩ := by
          apply Array.ext'
          rw [Array.toList_filter, unseen_eq, List.filter_map]
          congr 1
          apply List.filter_congr
          intro e _
          have h1 : seen.contains e.born = seen.toList.contains e.born := by simp [Bool.eq_iff_iff]
          simp only [Function.comp, Rn.e, h1]
        split at ho
        · rename_i hk hun
          cases ho
          rw [hun] at hfil
          refine ⟨_, _, rfl, ρ, w, .value _, ?_, .inl rfl, Rn.ext.refl _ _, Nat.le_refl _, R, by simp [bd, bds]⟩
          simp only [Instr.next, Rn.v, Rn.vs, Rn.a, Sem.run_bind, run_getIter h3, Result.andThen_ok, MapKept.run_getObj_map m3, hall hk, Bool.false_eq_true, if_false, hfil]
          simp [Question.forced]
        · rename_i e hk hun
          cases hb : Nat.blt e.born since with
          | false => rw [hb] at ho; cases ho
          | true =>
            rw [hb] at ho
            cases ho
            rw [hun] at hfil
            have he : e ∈ es.toList := by
              have : e ∈ unseen seen.toList es.toList := by rw [hun]; simp
              rw [unseen_eq] at this
              exact (List.mem_filter.1 this).1
            have hlt := blt_true hb
            have R' : Rel P w0 ρ (h.put r (.mapIter (some m) since ⟨seen.toList ++ [e.born]⟩ c)) (w.putObj (ρ.b r) (.mapIter (some (ρ.b m)) since ⟨seen.toList ++ [e.born]⟩ c)) :=
              R.upd hg rfl h2 (Upd.putObj _ _ _) (by
                have := (R.lo _ _ hg rfl).2
                simp [RelO, World.putObj, this])
            have hkey := (m2 e he).1
            refine ⟨_, _, rfl, ρ, _, .value _, ?_, .inl rfl, Rn.ext.refl _ _, Nat.le_refl _, R', ?_⟩
            · simp only [Instr.next, Rn.v, Rn.vs, Rn.a, Sem.run_bind, run_getIter h3, Result.andThen_ok, MapKept.run_getObj_map m3, hall hk, Bool.false_eq_true, if_false, hfil]
              have hge : ¬ e.born ≥ since := by omega
              have hpush : seen.push e.born = ⟨seen.toList ++ [e.born]⟩ := by apply Array.ext'; simp
              simp [Question.forced, Rn.e, hlt, hge, run_setIter h3, hpush]
            · simp only [bd, bds, and_true, true_and]
              exact ⟨isKey_bd _ hkey, (m2 e he).2⟩
        · cases ho
      · cases ho
    · cases ho
  · cases ho
theorem Rel.opEntryI {x v : Value} (R : Rel P w0 ρ h w) (ho : opEntryI h x = some v) : (Instr.entry (ρ.v x)).run P w = .ok (ρ.v v) w ∧ bd h.n v := by
  unfold Run.opEntryI at ho
  split at ho
  · rename_i r sp
    split at ho
    · rename_i m since seen last hg
      split at ho
      · rename_i es c b hm hs
        split at ho
        · rename_i e hc hf
          cases ho
          obtain ⟨h1, h2, h3⟩ := R.obj _ _ hg
          obtain ⟨m1, m2, m3⟩ := R.obj _ _ hm
          simp only [RelO, Option.map_some] at h3 m3
          simp only [bdO] at m2
          have he := List.mem_of_find?_eq_some hf
          have hcl := beq_true' hc
          have hback : seen.back? = some b := by rw [← hs]; exact (Array.getLast?_toList seen).symm
          have hfind : (⟨es.toList.map ρ.e⟩ : Array MapEntry).find? (fun e => e.born == b) = some (ρ.e e) := by
            rw [← Array.find?_toList]
            show (es.toList.map ρ.e).find? _ = _
            rw [List.find?_map]
            have : ((fun x : MapEntry => x.born == b) ∘ ρ.e) = fun x : MapEntry => Nat.beq x.born b := by funext x; rw [Bool.eq_iff_iff]; simp [Rn.e, Nat.beq_eq]
            rw [this, hf]
            rfl
          refine ⟨?_, by simp only [bd, bds, and_true]; exact ⟨isKey_bd _ (m2 e he).1, (m2 e he).2⟩⟩
          simp only [Instr.entry, Rn.v, Rn.vs, Rn.a, Sem.run_bind, run_getIter h3, Result.andThen_ok, hback, MapKept.run_getObj_map m3, hcl, bne_self_eq_false, Bool.false_eq_true, if_false, hfind, Sem.run_pure]
          simp [Rn.e]
        · cases ho
      · cases ho
    · cases ho
  · cases ho
theorem toBytes_spec {w : World} {a : Addr} (ρ : Rn) : ∀ {cs : List Value} {bs : List UInt8}, toBytes cs = some bs → bs.length = cs.length ∧ ρ.vs cs = bs.map fun b => .int .u8 b.toNat
  | [], bs, h => by simp only [toBytes, Option.some.injEq] at h; subst h; simp [Rn.vs]
  | v :: cs, bs, h => by
    unfold toBytes at h
    split at h
    · rename_i heq; cases heq
    · rename_i n l heq
      split at h
      · rename_i r hn hr
        cases h
        simp only [List.cons.injEq] at heq
        obtain ⟨rfl, rfl⟩ := heq
        obtain ⟨h1, h2⟩ := toBytes_spec (w := w) (a := a) ρ hr
        have hlt := blt_true hn
        refine ⟨by simp [h1], ?_⟩
        simp only [Rn.vs, Rn.v, h2, List.map_cons, List.cons.injEq, and_true]
        rw [show (UInt8.ofNat n).toNat = n by simp; omega]
        rfl
      · cases h
    · cases h
theorem Upd.freeze (w : World) (a : Addr) (n : Nat) : Upd w (w.freeze a n) a.block := by
  unfold World.freeze
  split
  · exact Upd.refl _ _
  · exact ⟨rfl, rfl, rfl, by simp, fun k hk => by simp only [Array.getElem?_modify]; rw [if_neg (by omega)]⟩
theorem Rel.biSliceData {x v : Value} {ts : List TypeId} (R : Rel P w0 ρ h w) (ho : biSliceData P h ts x = some v) (hb : bd h.n x) (ty : TypeId) : (Builtin.unsafeSliceData_ ts.toArray ty #[ρ.v x]).run P w = .ok (ρ.v v) w ∧ bd h.n v := by
  unfold Run.biSliceData at ho
  split at ho
  · cases ho
    rw [slice_v]
    have e : ρ.v (.pointer none) = .pointer none := by simp [Rn.v]
    exact ⟨by rw [e]; exact Lib.run_unsafeSliceData_nil w _ _ _ _, by simp [bd]⟩
  · rename_i a n c
    cases hr : hasRoom P h ts (some a) c with
    | false => rw [hr] at ho; cases ho
    | true =>
      rw [hr] at ho
      cases ho
      unfold hasRoom at hr
      split at hr
      · split at hr
        · rename_i el hu
          split at hr
          · rename_i s hs
            obtain ⟨i, hi, his⟩ := sz_some hs
            have h1 : Run.lowCap h el (s + 1) (some a) c ≤ ρ.cap (some a) c := R.lowCap hi his hb
            have h2 := blt_true hr
            rw [slice_v]
            refine ⟨?_, by simpa [bd] using hb⟩
            have h3 : ρ.cap (some a) c ≠ 0 := by omega
            rw [Rn.v]
            exact Lib.run_unsafeSliceData_row w _ _ _ _ _ h3
          · cases hr
        · cases hr
      · cases hr
  · cases ho
theorem Rel.biString {ts : List TypeId} {p n : Value} {nx : Nx} (R : Rel P w0 ρ h w) (ho : biString P h ts p n = some nx) (hts : ts.length = 2) (hn : ∃ q, n = .int .i64 q) (ty : TypeId) :
    ∃ v h', nx = .val v h' ∧ Step P w0 ρ h w (do Pure.pure (.value (← Builtin.unsafeString_ ts.toArray ty #[ρ.v p, ρ.v n]))) v h' := by
  obtain ⟨t, u', rfl⟩ : ∃ t u, ts = [t, u] := by
    match ts, hts with
    | [t, u], _ => exact ⟨t, u, rfl⟩
  obtain ⟨q, rfl⟩ := hn
  have none_ : ∀ (pp : Option Addr) (m : Nat), m = 0 → (Builtin.unsafeString_ [t, u'].toArray ty #[.pointer pp, .int .i64 (m : Int)]).run P w = .ok (.string ⟨#[]⟩) w := fun pp m e => by
    subst e
    exact Lib.run_unsafeString_none w t u' ty pp
  unfold Run.biString at ho
  split at ho
  · rename_i a m u hm hu
    obtain ⟨k, hk⟩ := asN_int hm
    simp only [Value.int.injEq] at hk
    obtain ⟨rfl, rfl⟩ := hk
    split at ho
    · cases ho
      refine ⟨_, _, rfl, Step.pure R ?_ (by simp [bd])⟩
      have e1 : ρ.v (.int .i64 ((0 : Nat) : Int)) = .int .i64 ((0 : Nat) : Int) := by simp [Rn.v]
      have e2 : ρ.v (.string ⟨#[]⟩) = .string ⟨#[]⟩ := by simp [Rn.v]
      rw [e1, e2, Rn.v]
      exact none_ _ 0 rfl
    · rename_i o cs m' hg hc hble
      split at ho
      · rename_i t' bs hrt hbs
        cases hand : (Nat.beq t' u && Nat.beq a.off 0) with
        | false => rw [hand] at ho; cases ho
        | true =>
          rw [hand] at ho
          cases ho
          simp only [Bool.and_eq_true] at hand
          have ht := beq_true' hand.1
          have hoff := beq_true' hand.2
          subst ht
          obtain ⟨c1, c2, c3, c4, c5⟩ := R.cells hc
          obtain ⟨b1, b2⟩ := toBytes_spec (w := w) (a := a) ρ hbs
          simp only [isU8] at hu
          split at hu
          · rename_i uu hup
            split at hu
            · rename_i hk8 hs1
              cases hu
              obtain ⟨j, hj, hjs⟩ := sz_some hs1
              have hcell : P.cellsOf t' = 1 := by simp [Program.cellsOf, hj, hjs]
              have hrow : ∃ c, h.row a.block = some c := by
                unfold H.cells at hc
                cases hr : h.row a.block with
                | none => rw [c3, hr] at hc; cases hc
                | some c => exact ⟨c, rfl⟩
              obtain ⟨c, hr⟩ := hrow
              obtain ⟨o', z, t2, hg', -, hlive, -, -, hw, -⟩ := R.row hr
              rw [hg] at hg'
              cases hg'
              have ht2 : t2 = t' := by
                obtain ⟨-, -, h3⟩ := R.obj _ _ hg
                cases o <;> simp only [rowType, Option.some.injEq, reduceCtorEq] at hrt
                · subst hrt; simp only [RelO] at h3; rw [h3.2] at hw; simp only [Option.some.injEq, Obj.cells.injEq] at hw; exact hw.2.1.symm
                · subst hrt; simp only [RelO] at h3; obtain ⟨z', i', -, -, -, h4⟩ := h3; rw [h4] at hw; simp only [Option.some.injEq, Obj.cells.injEq] at hw; exact hw.2.1.symm
              subst ht2
              have hsh : w.shape? (ρ.b a.block) = some (t2, (ρ.vs c ++ z).length) := by simp [World.shape?, hw]
              have hlen : bs.length = m' + 1 := by rw [b1, c1]
              have hle : m' + 1 ≤ (ρ.vs c ++ z).length := by
                have : cut c a.off (m' + 1) = some cs := by unfold H.cells at hc; rw [c3, hr] at hc; exact hc
                have := cut_eq this
                have h5 : cs.length ≤ c.length := by rw [this.2]; simp; omega
                rw [List.length_append, Rn.vs_len]; omega
              have hmx := Nat.le_of_ble_eq_true hble
              have ha : ρ.a a = ⟨ρ.b a.block, 0, none⟩ := by unfold Rn.a; rw [c3, hoff]
              have hrun := Lib.run_unsafeString_row w t u' ty t2 hup hcell (ρ.b a.block) _ hsh bs (by intro e; rw [e] at hlen; simp at hlen) (by omega) (by omega) (fun j x hx => by
                rw [← ha]
                refine c5 j _ ?_
                rw [b2, List.getElem?_map, hx]; rfl)
              have R' := R.upd (o1 := .coro none) hg hlive trivial (Upd.freeze w ⟨ρ.b a.block, 0, none⟩ bs.length) trivial
              refine ⟨_, _, rfl, ρ, _, .value _, ?_, .inl rfl, Rn.ext.refl _ _, Nat.le_refl _, R', by simp [bd]⟩
              have e1 : ρ.v (.int .i64 ((m' + 1 : Nat) : Int)) = .int .i64 (bs.length : Int) := by simp only [Rn.v, hlen]
              rw [e1, Rn.v, ha]
              simp only [Sem.run_bind, Sem.run_pure]
              show (Result.andThen ((Builtin.unsafeString_ #[t, u'] ty #[.pointer (some ⟨ρ.b a.block, 0, none⟩), .int .i64 bs.length]).run P w) fun a w' => Result.ok (Next.value a) w') = _
              rw [hrun]
              simp [Rn.v]
            · cases hu
          · cases hu
      · cases ho
    · cases ho
  · rename_i u hm hu
    cases ho
    obtain ⟨k, hk⟩ := asN_int hm
    simp only [Value.int.injEq] at hk
    obtain ⟨rfl, rfl⟩ := hk
    refine ⟨_, _, rfl, Step.pure R ?_ (by simp [bd])⟩
    have e1 : ρ.v (.int .i64 ((0 : Nat) : Int)) = .int .i64 ((0 : Nat) : Int) := by simp [Rn.v]
    have e2 : ρ.v (.string ⟨#[]⟩) = .string ⟨#[]⟩ := by simp [Rn.v]
    have e3 : ρ.v (.pointer none) = .pointer none := by simp [Rn.v]
    rw [e1, e2, e3]
    exact none_ _ 0 rfl
  · cases ho
end
/-! max, min, copy, delete, clear -/
section
variable {P : Program} {w0 : Base} {w w' : World} {ρ : Rn} {h : H}
theorem loadCells_zero (a : Addr) : (loadCells a 0).run P w = .ok #[] w := by simp [loadCells, loadCellsFrom]
theorem biCopyC_cases {s k : Nat} {A B : Option Addr} {h2 : H} (hc : biCopyC h s A B k = some h2) : (k = 0 ∧ h2 = h) ∨ ∃ a b cs, A = some a ∧ B = some b ∧ h.cells b (k * s) = some cs ∧ ones cs = true ∧ h.store a cs = some h2 := by
  unfold biCopyC at hc
  split at hc
  · cases hc; exact .inl ⟨rfl, rfl⟩
  · rename_i k a b
    split at hc
    · rename_i cs hcs
      split at hc
      · rename_i ho; exact .inr ⟨a, b, cs, rfl, rfl, hcs, ho, hc⟩
      · cases hc
    · cases hc
  · cases hc
theorem Rel.biCopy {ts : List TypeId} {ty : TypeId} {d x : Value} {nx : Nx} (R : Rel P w0 ρ h w) (ho : biCopy P h ts d x = some nx) :
    ∃ v h', nx = .val v h' ∧ Step P w0 ρ h w (do Pure.pure (.value (← Builtin.copy_ ⟨ts⟩ ty #[ρ.v d, ρ.v x]))) v h' := by
  unfold Run.biCopy at ho
  split at ho
  · rename_i t ts A n c B m c'
    cases hu : P.underlying t with
    | none => rw [hu] at ho; cases ho
    | some dd =>
      cases dd <;> simp only [hu, reduceCtorEq] at ho
      rename_i el
      cases hS : sz P el with
      | none => rw [hS] at ho; cases ho
      | some s =>
        rw [hS] at ho
        simp only at ho
        cases hc : biCopyC h s A B (Nat.min m n) with
        | none => rw [hc] at ho; cases ho
        | some h2 =>
          rw [hc] at ho
          cases ho
          refine ⟨_, _, rfl, ?_⟩
          have ev : ρ.v (.int .i64 (Nat.min m n)) = .int .i64 (Nat.min m n) := by simp [Rn.v]
          rcases biCopyC_cases hc with ⟨hk, rfl⟩ | ⟨a, b, cs, rfl, rfl, hcs, hon, hst⟩
          ·
            refine ⟨ρ, w, .value (ρ.v (.int .i64 (Nat.min m n))), ?_, .inl rfl, Rn.ext.refl _ _, Nat.le_refl _, R, by simp [bd]⟩
            rw [ev, hk]
            have hB : (Builtin.firstCells s 0 (ρ.v (.slice B m c'))).run P w = .ok #[] w := by
              cases B with
              | none => simp [Rn.v, Builtin.firstCells]
              | some b => simp [Rn.v, Builtin.firstCells, loadCells_zero]
            have hl : (Builtin.lenOf (ρ.v (.slice B m c'))).run P w = .ok m w := by cases B <;> simp [Rn.v, Builtin.lenOf]
            have hk' : Nat.min m n = 0 := hk
            cases A with
            | none =>
              have e : ρ.v (.slice none n c) = .slice none n c := by simp [Rn.v]
              rw [e]
              simp [Builtin.copy_, und_run hu, hl, hk', run_size hS, hB, goInt]
            | some a =>
              obtain ⟨q, e⟩ : ∃ q, ρ.v (.slice (some a) n c) = .slice (some (ρ.a a)) n q := ⟨_, by simp only [Rn.v]; rfl⟩
              rw [e]
              simp [Builtin.copy_, und_run hu, hl, hk', run_size hS, hB, goInt, storeCells]
          · obtain ⟨w2, s1, s2, s3⟩ := R.store hst (R.cells hcs).2.1 (ones_v ρ hon)
            refine ⟨ρ, w2, .value (ρ.v (.int .i64 (Nat.min m n))), ?_, .inl rfl, Rn.ext.refl _ _, by omega, s2, by simp [bd]⟩
            rw [ev]
            obtain ⟨q, e⟩ : ∃ q, ρ.v (.slice (some a) n c) = .slice (some (ρ.a a)) n q := ⟨_, by simp only [Rn.v]; rfl⟩
            obtain ⟨q', e'⟩ : ∃ q, ρ.v (.slice (some b) m c') = .slice (some (ρ.a b)) m q := ⟨_, by simp only [Rn.v]; rfl⟩
            have hl := R.loadCells hcs
            rw [e, e']
            simp [Builtin.copy_, und_run hu, Builtin.lenOf, run_size hS, Builtin.firstCells, hl, goInt, s1]
  · cases ho
theorem Rel.biDelete {C : Cfg} (hK : ∀ kt, C.ks.contains kt = true → WideMaps.KeyLaw P kt) {ts : List TypeId} {ty : TypeId} {m k : Value} {nx : Nx} (R : Rel P w0 ρ h w) (ho : biDelete P C h ts m k = some nx) :
    ∃ v h', nx = .val v h' ∧ Step P w0 ρ h w (do Pure.pure (.value (← Builtin.delete_ ⟨ts⟩ ty #[ρ.v m, ρ.v k]))) v h' := by
  unfold Run.biDelete at ho
  split at ho
  · rename_i t ts r es c hm
    obtain ⟨rfl, ⟨a, hg, ha⟩, hr, hes, hw⟩ := mapAt_some R hm
    cases hu : P.underlying t with
    | none => rw [hu] at ho; cases ho
    | some dd =>
      cases dd <;> simp only [hu, reduceCtorEq] at ho
      rename_i kt el
      cases hf : findK P C.ks kt k es with
      | none => rw [hf] at ho; cases ho
      | some q =>
        rw [hf] at ho
        obtain ⟨hk, hc, hst, hfind⟩ := findK_sound hK ρ (fun e he => (hes e he).1) hf w
        have et : ρ.v (.tuple #[]) = .tuple #[] := by simp [Rn.v, Rn.vs]
        rcases hfind with ⟨rfl, h4⟩ | ⟨i, e, rfl, h2, h3, h4⟩
        · cases ho
          have R' := R.putMap (c' := c) (es := es) (es' := es) hg hes
          refine ⟨_, _, rfl, ρ, _, .value (ρ.v (.tuple #[])), ?_, .inl rfl, Rn.ext.refl _ _, Nat.le_refl _, R', by simp [bd, bds]⟩
          rw [isKey_v ρ hk, et]
          simp [Builtin.delete_, Rn.v, und_run hu, MapKept.run_getObj_map hw, hc, h4, MapKept.run_setObj_map _ hw, World.putObj]
        · cases ho
          have hdrop : dropE es i = es.eraseIdx i := by rw [dropE, List.eraseIdx_eq_take_drop_succ]
          have R' := R.putMap (c' := c) (es := es) (es' := dropE es i) hg (fun x hx => hes x (by rw [hdrop] at hx; exact List.mem_of_mem_eraseIdx hx))
          refine ⟨_, _, rfl, ρ, _, .value (ρ.v (.tuple #[])), ?_, .inl rfl, Rn.ext.refl _ _, Nat.le_refl _, R', by simp [bd, bds]⟩
          rw [isKey_v ρ hk, et]
          have hsub : (⟨es.map ρ.e⟩ : Array MapEntry).eraseIdxIfInBounds i = ⟨(dropE es i).map ρ.e⟩ := by
            have hlt : i < es.length := (List.getElem?_eq_some_iff.1 h2).1
            apply Array.ext'
            unfold Array.eraseIdxIfInBounds
            rw [dif_pos (by simpa using hlt), Array.toList_eraseIdx, hdrop]
            simp only [List.eraseIdx_eq_take_drop_succ, List.map_append, List.map_take, List.map_drop]
          simp only [Builtin.delete_, Rn.v, Sem.run_bind, und_run hu, Result.andThen_ok, MapKept.run_getObj_map hw, hc, h4, hsub, MapKept.run_setObj_map _ hw, Sem.run_pure, List.getElem?_toArray, List.getElem?_cons_zero, List.getElem?_cons_succ]
          rfl
  · cases ho
theorem Rel.biClear {ts : List TypeId} {ty : TypeId} {x : Value} {nx : Nx} (R : Rel P w0 ρ h w) (ho : biClear P h ts x = some nx) :
    ∃ v h', nx = .val v h' ∧ Step P w0 ρ h w (do Pure.pure (.value (← Builtin.clear_ ⟨ts⟩ ty #[ρ.v x]))) v h' := by
  have et : ρ.v (.tuple #[]) = .tuple #[] := by simp [Rn.v, Rn.vs]
  unfold Run.biClear at ho
  split at ho
  · rename_i t ts a n c
    cases hu : P.underlying t with
    | none => rw [hu] at ho; cases ho
    | some dd =>
      cases dd <;> simp only [hu, reduceCtorEq] at ho
      rename_i el
      cases hz : zcells P el with
      | none => rw [hz] at ho; cases ho
      | some z =>
        rw [hz] at ho
        simp only at ho
        split at ho
        · rename_i h2 hon hst
          cases ho
          obtain ⟨v, i, hi, hv, hcz, hp⟩ := zcells_some hz
          have hcells : v.cells = ⟨z⟩ := by rw [cells_eq, hcz]
          have hrep : ρ.vs (repz z ((n + 1) * z.length)) = repz z ((n + 1) * z.length) ∧ bds h.n (repz z ((n + 1) * z.length)) := by
            cases z with
            | nil => simp [repz, Rn.vs, bds]
            | cons y z => exact plains_repz ρ h.n hp (by simp) _
          obtain ⟨w2, s1, s2, s3⟩ := R.store hst hrep.2 (ones_v ρ hon)
          refine ⟨_, _, rfl, ρ, w2, .value (ρ.v (.tuple #[])), ?_, .inl rfl, Rn.ext.refl _ _, by omega, s2, by simp [bd, bds]⟩
          rw [et]
          obtain ⟨q, e⟩ : ∃ q, ρ.v (.slice (some a) (n + 1) c) = .slice (some (ρ.a a)) (n + 1) q := ⟨_, by simp only [Rn.v]; rfl⟩
          have hzv : (zeroValue el).run P w = .ok v w := by simp [zeroValue, typeInfo, hi, hv]
          have hzc : (Builtin.zeroCells v.cells (n + 1)).toList = repz z ((n + 1) * z.length) := by
            unfold Builtin.zeroCells
            cases z with
            | nil => rw [hcells]; simp [repz]
            | cons y z => rw [repz_eq hcells (by simp), hcells]; rfl
          rw [hrep.1] at s1
          rw [e]
          simp [Builtin.clear_, und_run hu, hzv, hzc, s1]
        · cases ho
  · rename_i t ts A c
    split at ho
    · rename_i d hu
      cases ho
      refine ⟨_, _, rfl, ρ, w, .value (ρ.v (.tuple #[])), ?_, .inl rfl, Rn.ext.refl _ _, Nat.le_refl _, R, by simp [bd, bds]⟩
      rw [et]
      cases A with
      | none => simp [Builtin.clear_, und_run hu, Rn.v]
      | some a => simp [Builtin.clear_, und_run hu, Rn.v]
    · cases ho
  · cases ho
end
/-! an operation -/
section
variable {P : Program} {w0 : Base} {w w' : World} {ρ : Rn} {h : H}
def ExtOk (P : Program) (f : FuncId) : Ext → Prop
  | .same => ∀ (v : Value) (w : World), (callFunc f #[v]).run P w = .ok (.value v) w
/-- The function, called without arguments, answers 'true' and leaves all that there was. -/
def KnOk (P : Program) (q : FuncId) : Prop := (∃ fn, P.funcs[q]? = some fn ∧ fn.body.isSome) ∧ ∀ w : World, ∃ w', Below w.heap.size w w' ∧
  ∀ cs, ∃ fr, fr.fn = q ∧ fr.leaving P w' (.returned (.bool true)) ∧ Steps P (lone (Frame.enter P q #[] .normal) cs w) (lone fr cs w')
theorem knows_spec {q : FuncId} {args : List Value} {l : List FuncId} (h : knows q args l = true) : args = [] ∧ l.contains q = true := by
  cases args with
  | cons => cases h
  | nil =>
    refine ⟨rfl, ?_⟩
    simp only [knows, List.any_eq_true] at h
    obtain ⟨x, hx, hq⟩ := h
    rw [beq_true' hq]
    exact List.contains_iff_mem.2 hx
structure CfgOk (P : Program) (C : Cfg) : Prop where
  key : ∀ kt, C.ks.contains kt = true → WideMaps.KeyLaw P kt
  ext : ∀ f x, exOf f C.ex = some x → ExtOk P f x
  kn : ∀ q, C.kn.contains q = true → KnOk P q
/-- The operands' values, as far as they are told. -/
def EvOk (ρ : Rn) (n : Nat) (E e : Operand → Value) : Prop := ∀ x, okOp x = true → E x = ρ.v (e x) ∧ bd n (e x)
theorem okL_spec {ρ : Rn} {n : Nat} {E e : Operand → Value} (hE : EvOk ρ n E e) : ∀ {l : List Operand}, okL l = true → l.map E = ρ.vs (l.map e) ∧ bds n (l.map e)
  | [], _ => ⟨by simp [Rn.vs], trivial⟩
  | x :: l, h => by
    unfold okL at h
    cases hx : okOp x with
    | false => rw [hx] at h; cases h
    | true =>
      rw [hx] at h
      obtain ⟨h1, h2⟩ := hE x hx
      obtain ⟨h3, h4⟩ := okL_spec hE h
      exact ⟨by simp only [List.map_cons, Rn.vs, h1, h3], ⟨h2, h4⟩⟩
theorem okL_mem {l : List Operand} (h : okL l = true) : ∀ x ∈ l, okOp x = true := by
  induction l with
  | nil => intro x hx; cases hx
  | cons y l ih =>
    unfold okL at h
    cases hy : okOp y with
    | false => rw [hy] at h; cases h
    | true =>
      rw [hy] at h
      intro x hx
      rcases List.mem_cons.1 hx with rfl | hx
      · exact hy
      · exact ih h x hx
theorem okP_spec {ρ : Rn} {n : Nat} {E e : Operand → Value} (hE : EvOk ρ n E e) : ∀ {l : List (Nat × Operand)}, okP l = true → (l.map fun p => (p.1, E p.2)) = ((l.map fun p => (p.1, e p.2)).map fun p => (p.1, ρ.v p.2)) ∧ ∀ p ∈ (l.map fun p => (p.1, e p.2)), bd n p.2
  | [], _ => ⟨rfl, fun p hp => by cases hp⟩
  | x :: l, h => by
    unfold okP at h
    cases hx : okOp x.2 with
    | false => rw [hx] at h; cases h
    | true =>
      rw [hx] at h
      obtain ⟨h1, h2⟩ := hE x.2 hx
      obtain ⟨h3, h4⟩ := okP_spec hE h
      refine ⟨by simp only [List.map_cons, h1, h3], fun p hp => ?_⟩
      simp only [List.map_cons, List.mem_cons] at hp
      rcases hp with rfl | hp
      · exact h2
      · exact h4 p hp
theorem okO_spec {ρ : Rn} {n : Nat} {E e : Operand → Value} (hE : EvOk ρ n E e) {x : Option Operand} (h : okO x = true) : x.map E = (x.map e).map ρ.v := by
  cases x with
  | none => rfl
  | some x => simp [(hE x h).1]
theorem vh_some {h : H} {x : Option Value} {nx : Nx} (ho : vh h x = some nx) : ∃ v, x = some v ∧ nx = .val v h := by
  cases x with
  | none => cases ho
  | some v => cases ho; exact ⟨v, rfl, rfl⟩
/-- What an operation hands on, in a world. -/
def NxOk (P : Program) (w0 : Base) (ρ : Rn) (h : H) (w : World) (s : Sem Next) : Nx → Prop
  | .val v h' => Step P w0 ρ h w s v h'
  | .enter f args h' => h' = h ∧ bds h.n args ∧ s.run P w = (callFunc f ⟨ρ.vs args⟩).run P w
  | .round l args h' => h' = h ∧ bds h.n args ∧ s.run P w = (Instr.yield (ρ.b l) ⟨ρ.vs args⟩).run P w
theorem callOf_sound {C : Cfg} (hC : CfgOk P C) (R : Rel P w0 ρ h w) {f : Value} {args : List Value} {nx : Nx} (ho : callOf C f args h = some nx) (hf : bd h.n f) (ha : bds h.n args) :
    NxOk P w0 ρ h w (do let d ← Deferred.ofValue (ρ.v f) ⟨ρ.vs args⟩; invoke d.target d.args) nx := by
  unfold callOf at ho
  split at ho
  · rename_i g a b
    obtain ⟨al⟩ := a
    obtain ⟨bl⟩ := b
    simp only [bd] at hf
    have hrun : (do let d ← Deferred.ofValue (ρ.v (.func (.func g) ⟨al⟩ ⟨bl⟩)) ⟨ρ.vs args⟩; invoke d.target d.args).run P w = (callFunc g ⟨ρ.vs (al ++ args ++ bl)⟩).run P w := by
      simp only [Rn.v, Rn.fn, Deferred.ofValue, Sem.run_bind, Sem.run_pure, Result.andThen_ok, invoke]
      congr 2
      apply Array.ext'
      simp [Rn.vs_app]
    split at ho
    · rename_i x hx
      obtain ⟨v, hv, rfl⟩ := vh_some ho
      unfold doExt at hv
      split at hv
      · rename_i v' heq
        cases hv
        have he := hC.ext _ _ hx
        simp only [ExtOk] at he
        have hb : bds h.n (al ++ args ++ bl) := bds_app.2 ⟨bds_app.2 ⟨hf.2.1, ha⟩, hf.2.2⟩
        simp only at heq
        rw [heq] at hb hrun
        refine ⟨ρ, w, .value (ρ.v v), ?_, .inl rfl, Rn.ext.refl _ _, Nat.le_refl _, R, hb.1⟩
        rw [hrun]
        exact he (ρ.v v) w
      · cases hv
    · cases ho
      exact ⟨rfl, bds_app.2 ⟨bds_app.2 ⟨hf.2.1, ha⟩, hf.2.2⟩, hrun⟩
  · rename_i l a b
    obtain ⟨al⟩ := a
    simp only [bd] at hf
    cases ho
    refine ⟨rfl, bds_app.2 ⟨hf.2.1, ha⟩, ?_⟩
    simp only [Rn.v, Rn.fn, Deferred.ofValue, Sem.run_bind, Sem.run_pure, Result.andThen_ok, invoke]
    congr 2
    apply Array.ext'
    simp [Rn.vs_app]
  · cases ho
theorem builtin_sound {C : Cfg} (hC : CfgOk P C) (R : Rel P w0 ρ h w) {b : Builtin} {ts : Array TypeId} {ty : TypeId} {cs : Array Bool} {vs : List Value} {nx : Nx} (ho : Run.builtin P C b ts.toList vs h = some nx) (hv : bds h.n vs) :
    NxOk P w0 ρ h w (Go.builtin b ts ty cs ⟨ρ.vs vs⟩) nx := by
  obtain ⟨tl⟩ := ts
  unfold Run.builtin at ho
  split at ho
  · rename_i x
    unfold biLenT at ho
    simp only at ho
    split at ho
    · rename_i t
      cases hu : P.underlying t with
      | none => rw [hu] at ho; cases ho
      | some d =>
        rw [hu] at ho
        simp only at ho
        cases hf : lenFits d x with
        | false => rw [hf] at ho; cases ho
        | true =>
          rw [hf] at ho
          obtain ⟨v, hv', rfl⟩ := vh_some ho
          obtain ⟨h1, h2⟩ := R.biLen (ty := ty) hu hv' hf
          exact Step.pure R h1 h2
    · cases ho
  · rename_i d x
    obtain ⟨v, h', rfl, hs⟩ := R.biAppend ho hv.1 hv.2.1 ty
    exact hs
  · rename_i x
    obtain ⟨v, hv', rfl⟩ := vh_some ho
    obtain ⟨h1, h2⟩ := R.biSliceData hv' hv.1 ty
    exact Step.pure R h1 h2
  · rename_i j a k b
    cases ho
    refine Step.pure R ?_ (by simp [bd])
    simp [Go.builtin, Builtin.max_, Builtin.max2, Rn.v, Rn.vs]
  · rename_i j a k b
    cases ho
    refine Step.pure R ?_ (by simp [bd])
    simp [Go.builtin, Builtin.min_, Builtin.min2, Rn.v, Rn.vs]
  · rename_i d x
    obtain ⟨v, h', rfl, hs⟩ := R.biCopy (ty := ty) ho
    exact hs
  · rename_i m k
    obtain ⟨v, h', rfl, hs⟩ := R.biDelete (ty := ty) hC.key ho
    exact hs
  · rename_i x
    obtain ⟨v, h', rfl, hs⟩ := R.biClear (ty := ty) ho
    exact hs
  · rename_i p n
    simp only at ho
    cases hl : Nat.beq tl.length 2 with
    | false => rw [hl] at ho; cases ho
    | true =>
      rw [hl] at ho
      obtain ⟨v, h', rfl, hs⟩ := R.biString ho (beq_true' hl) ⟨n, rfl⟩ ty
      exact hs
  · cases ho
theorem guard_run {op : BinOp} {t : TypeId} {xo yo : Operand} {a b : Value} (h1 : ¬ (a = .nilIface ∧ b = .nilIface)) (h2 : ∀ cs, a = .agg cs → P.eqGuardType P.depth t = false) (w : World) : (eqGuard op t xo yo a b).run P w = .ok () w := by
  unfold eqGuard
  split
  all_goals first
    | (simp only [Bool.not_true, Bool.false_eq_true, if_false]
       split
       · exact absurd ⟨rfl, rfl⟩ h1
       · rename_i c d _ _
         simp [h2 _ rfl]
       · rfl)
    | (simp; done)
theorem veqT_nil {h : H} {d : Nat} {t : TypeId} {a b : Value} {r : Bool} (ho : Run.veqT P h d t a b = some r) : ¬ (a = .nilIface ∧ b = .nilIface) := by
  rintro ⟨rfl, rfl⟩
  cases d with
  | zero => simp [Run.veqT] at ho
  | succ d =>
    unfold Run.veqT at ho
    split at ho <;> simp_all
theorem Rel.opBinX {op : BinOp} {t : TypeId} {a b v : Value} (R : Rel P w0 ρ h w) (ho : opBinX P h op t a b = some v) (ba : bd h.n a) (bb : bd h.n b) (hi : ∀ j x k y, ¬ (a = .int j x ∧ b = .int k y)) (hs : ∀ x y, ¬ (a = .string x ∧ b = .string y)) (xo yo : Operand) :
    (do eqGuard op t xo yo (ρ.v a) (ρ.v b); binOp op t (ρ.v a) (ρ.v b)).run P w = .ok (ρ.v v) w ∧ bd h.n v := by
  unfold Run.opBinX at ho
  have key : ∀ (r : Bool), guardOk P t a = true → Run.veqT P h 40 t a b = some r → (eqGuard op t xo yo (ρ.v a) (ρ.v b)).run P w = .ok () w ∧ (Op.equal t (ρ.v a) (ρ.v b)).run P w = .ok r w := by
    intro r hg hv
    refine ⟨guard_run ?_ ?_ w, R.veqT 40 10000 t a b r h.n (by omega) hv ba bb⟩
    · rintro ⟨e1, e2⟩
      refine veqT_nil hv ⟨?_, ?_⟩
      · cases a <;> first | rfl | (rename_i q; rcases chan_v ρ q with ⟨s, e⟩ | ⟨z, e⟩ | e <;> rw [e] at e1 <;> cases e1) | (rename_i q; cases q <;> simp [Rn.v] at e1; done) | simp [Rn.v] at e1 | (rename_i q _ _; cases q <;> simp [Rn.v] at e1) | (rename_i f p q; cases p; cases q; simp [Rn.v] at e1)
      · cases b <;> first | rfl | (rename_i q; rcases chan_v ρ q with ⟨s, e⟩ | ⟨z, e⟩ | e <;> rw [e] at e2 <;> cases e2) | (rename_i q; cases q <;> simp [Rn.v] at e2; done) | simp [Rn.v] at e2 | (rename_i q _ _; cases q <;> simp [Rn.v] at e2) | (rename_i f p q; cases p; cases q; simp [Rn.v] at e2)
    · intro cs e1
      cases a <;> first | (rename_i q; rcases chan_v ρ q with ⟨s, e⟩ | ⟨z, e⟩ | e <;> rw [e] at e1 <;> cases e1) | (simp [Rn.v] at e1; done) | (rename_i q; cases q <;> simp [Rn.v] at e1; done) | (rename_i q _ _; cases q <;> simp [Rn.v] at e1; done) | (rename_i f p q; cases p; cases q; simp [Rn.v] at e1; done) | simpa [guardOk] using hg
  have bin : ∀ (o' : BinOp) (r : Bool), (o' = .eql ∨ o' = .neq) → Run.veqT P h 40 t a b = some r → (binOp o' t (ρ.v a) (ρ.v b)).run P w = ((Op.equal t (ρ.v a) (ρ.v b)).run P w).andThen fun r w' => .ok (.bool (if o' = .eql then r else !r)) w' := by
    intro o' r ho' hv
    rw [show (40 : Nat) = 39 + 1 from rfl] at hv
    unfold Run.veqT at hv
    split at hv
    · rcases ho' with rfl | rfl <;> simp [binOp, Rn.v]
    · exact absurd ⟨rfl, rfl⟩ (hi _ _ _ _)
    · exact absurd ⟨rfl, rfl⟩ (hs _ _)
    · rename_i q _; cases q <;> rcases ho' with rfl | rfl <;> simp [binOp, Rn.v]
    · rcases ho' with rfl | rfl <;> simp [binOp, Rn.v]
    · rcases ho' with rfl | rfl <;> simp [binOp, Rn.v]
    · rcases ho' with rfl | rfl <;> simp [binOp, Rn.v]
    · rcases ho' with rfl | rfl <;> simp [binOp, Rn.v]
    · rename_i x y _; cases x; cases y; rcases ho' with rfl | rfl <;> simp [binOp, Rn.v]
    · rename_i q _ _ _; cases q <;> rcases ho' with rfl | rfl <;> simp [binOp, Rn.v]
    · rcases ho' with rfl | rfl <;> simp [binOp, Rn.v]
    · rename_i q _; cases q <;> rcases ho' with rfl | rfl <;> simp [binOp, Rn.v]
    · rcases ho' with rfl | rfl <;> simp [binOp, Rn.v]
    · rcases ho' with rfl | rfl <;> simp [binOp, Rn.v]
    · rename_i f x y _; cases x; cases y; rcases ho' with rfl | rfl <;> simp [binOp, Rn.v]
    · rename_i f x y _; cases x; cases y; rcases ho' with rfl | rfl <;> simp [binOp, Rn.v]
    · cases hv
  split at ho
  · rename_i r hg hv
    cases ho
    obtain ⟨k1, k2⟩ := key _ hg hv
    refine ⟨?_, by simp [bd]⟩
    simp only [Sem.run_bind, k1, Result.andThen_ok, bin .eql r (.inl rfl) hv, k2, if_true, Rn.v]
  · rename_i r hg hv
    cases ho
    obtain ⟨k1, k2⟩ := key _ hg hv
    refine ⟨?_, by simp [bd]⟩
    simp only [Sem.run_bind, k1, Result.andThen_ok, bin .neq r (.inr rfl) hv, k2, if_false, Rn.v, reduceCtorEq]
  · cases ho
theorem Rel.opBin {op : BinOp} {t : TypeId} {a b v : Value} (R : Rel P w0 ρ h w) (ho : opBin P h op t a b = some v) (ba : bd h.n a) (bb : bd h.n b) (xo yo : Operand) :
    (do eqGuard op t xo yo (ρ.v a) (ρ.v b); binOp op t (ρ.v a) (ρ.v b)).run P w = .ok (ρ.v v) w ∧ bd h.n v := by
  unfold Run.opBin at ho
  split at ho
  · rename_i j x k y
    obtain ⟨h1, h2⟩ := opBinI_sound (P := P) (w := w) ρ h.n ho t
    refine ⟨?_, h2⟩
    rw [Sem.run_bind, guard_run (by simp [Rn.v]) (by intro cs e; simp [Rn.v] at e) w]
    simpa [Rn.v] using h1
  · rename_i x y
    obtain ⟨h1, h2⟩ := binS_sound (P := P) (w := w) ρ h.n ho t
    refine ⟨?_, h2⟩
    rw [Sem.run_bind, guard_run (by simp [Rn.v]) (by intro cs e; simp [Rn.v] at e) w]
    simpa [Rn.v] using h1
  · rename_i q1 q2
    exact R.opBinX ho ba bb (fun j x k y e => q1 _ _ _ _ e.1 e.2) (fun x y e => q2 _ _ e.1 e.2) xo yo
theorem op_sound {C : Cfg} (hC : CfgOk P C) (R : Rel P w0 ρ h w) {E e : Operand → Value} (hE : EvOk ρ h.n E e) {o : Oper} {nx : Nx} (ho : opK P C e o.op h = some nx) : NxOk P w0 ρ h w (execOp E o) nx := by
  unfold opK at ho
  cases hok : okOps o.op with
  | false => rw [hok] at ho; cases ho
  | true =>
    rw [hok] at ho
    simp only at ho
    unfold execOp
    cases hop : o.op with
    | move x =>
      rw [hop] at ho hok
      cases ho
      obtain ⟨h1, h2⟩ := hE x hok
      exact ⟨ρ, w, .value (ρ.v (e x)), by simp [h1], .inl rfl, Rn.ext.refl _ _, Nat.le_refl _, R, h2⟩
    | assign x =>
      rw [hop] at ho hok
      cases ho
      obtain ⟨h1, h2⟩ := hE x hok
      exact ⟨ρ, w, .value (ρ.v (e x)), by simp [h1], .inl rfl, Rn.ext.refl _ _, Nat.le_refl _, R, h2⟩
    | pick c a b =>
      rw [hop] at ho hok
      obtain ⟨v, hv, rfl⟩ := vh_some ho
      have m := okL_mem hok
      obtain ⟨c1, c2⟩ := hE c (m c (by simp))
      obtain ⟨a1, a2⟩ := hE a (m a (by simp))
      obtain ⟨b1, b2⟩ := hE b (m b (by simp))
      obtain ⟨h1, h2⟩ := opPick_sound (w := w) (P := P) ρ h.n hv a2 b2
      refine ⟨ρ, w, .value (ρ.v v), ?_, .inl rfl, Rn.ext.refl _ _, Nat.le_refl _, R, h2⟩
      simp only [c1, a1, b1]
      simp only [Sem.run_bind, Sem.run_pure] at h1 ⊢
      generalize (asBool (ρ.v (e c))).run P w = q at h1 ⊢
      cases q with
      | ok x w' => simp only [Result.andThen_ok, Result.ok.injEq] at h1 ⊢; exact ⟨by rw [h1.1], h1.2⟩
      | halt x w' => simp [Result.andThen] at h1
    | alloc t =>
      rw [hop] at ho hok
      simp only [op, opAlloc] at ho
      cases hz : zr P t with
      | none => rw [hz] at ho; cases ho
      | some z =>
        rw [hz] at ho
        simp only at ho
        cases hp : plains (cellsOf z) with
        | false => rw [hp] at ho; cases ho
        | true =>
          rw [hp] at ho
          have hzz := zplain_v ρ h.n (show zplain P t = some z by unfold zplain; rw [hz]; simp only [hp])
          obtain ⟨v, h', rfl, hs⟩ := R.opNew ho hzz.2.2
          obtain ⟨σ, w', x, r1, r2, r3, r4, r5, r6⟩ := hs
          refine ⟨σ, w', x, ?_, r2, r3, r4, r5, r6⟩
          rw [← r1, hzz.2.1]
          simp [Instr.alloc, run_zr hz]
    | box t x =>
      rw [hop] at ho hok
      obtain ⟨h1, h2⟩ := hE x hok
      obtain ⟨v, h', rfl, hs⟩ := R.opNew ho h2
      obtain ⟨σ, w', x', r1, r2, r3, r4, r5, r6⟩ := hs
      refine ⟨σ, w', x', ?_, r2, r3, r4, r5, r6⟩
      show (do Pure.pure (Next.value (← Instr.box t (E x))) : Sem Next).run P w = _
      rw [← r1, h1]
      simp [Instr.box]
    | build t ps =>
      rw [hop] at ho hok
      obtain ⟨v, hv, rfl⟩ := vh_some ho
      obtain ⟨h1, h2⟩ := okP_spec hE hok
      obtain ⟨h3, h4⟩ := opBuild_sound (P := P) (w := w) ρ hv h2
      refine Step.pure R ?_ h4
      have : (ps.map fun x => (x.1, E x.2)) = ((evs e ps).map fun p => (p.1, ρ.v p.2)).toArray := by
        apply Array.ext'
        simp only [Array.toList_map, List.toList_toArray, evs]
        exact h1
      rw [← h3, ← this]
    | buildSlice t n ps =>
      rw [hop] at ho hok
      obtain ⟨h1, h2⟩ := okP_spec hE hok
      obtain ⟨v, h', rfl, hs⟩ := R.opBuildSlice ho h2
      have : (ps.map fun x => (x.1, E x.2)) = ((evs e ps).map fun p => (p.1, ρ.v p.2)).toArray := by
        apply Array.ext'
        simp only [Array.toList_map, List.toList_toArray, evs]
        exact h1
      rw [← this] at hs
      exact hs
    | load t a =>
      rw [hop] at ho hok
      obtain ⟨v, hv, rfl⟩ := vh_some ho
      obtain ⟨h1, h2⟩ := hE a hok
      obtain ⟨h3, h4⟩ := R.opLoad hv
      exact Step.pure R (by rw [h1]; exact h3) h4
    | store t a x =>
      rw [hop] at ho hok
      have m := okL_mem hok
      obtain ⟨a1, a2⟩ := hE a (m a (by simp))
      obtain ⟨b1, b2⟩ := hE x (m x (by simp))
      obtain ⟨h', rfl, hs⟩ := R.opStore ho b2
      rw [← a1, ← b1] at hs
      exact hs
    | nilCheck x =>
      rw [hop] at ho hok
      obtain ⟨v, hv, rfl⟩ := vh_some ho
      obtain ⟨a1, a2⟩ := hE x hok
      obtain ⟨h1, h2⟩ := opNil_sound ρ hv
      subst h1
      refine ⟨ρ, w, .value (ρ.v (e x)), ?_, .inl rfl, Rn.ext.refl _ _, Nat.le_refl _, R, a2⟩
      simp only [a1]
      exact (congrArg (fun s : Sem Next => s.run P w) h2).trans rfl
    | binOp b t x y yt =>
      rw [hop] at ho hok
      obtain ⟨v, hv, rfl⟩ := vh_some ho
      have m := okL_mem hok
      obtain ⟨a1, a2⟩ := hE x (m x (by simp))
      obtain ⟨b1, b2⟩ := hE y (m y (by simp))
      obtain ⟨h1, h2⟩ := R.opBin hv a2 b2 x y
      exact Step.pure R (by rw [a1, b1]; exact h1) h2
    | unOp u t x =>
      rw [hop] at ho hok
      obtain ⟨v, hv, rfl⟩ := vh_some ho
      obtain ⟨a1, a2⟩ := hE x hok
      obtain ⟨h1, h2⟩ := opUn_sound (P := P) (w := w) ρ h.n hv
      exact Step.pure R (by rw [a1]; exact h1) h2
    | convert s d x =>
      rw [hop] at ho hok
      obtain ⟨v, hv, rfl⟩ := vh_some ho
      obtain ⟨a1, a2⟩ := hE x hok
      obtain ⟨h1, h2⟩ := R.opConv hv a2
      exact Step.pure R (by rw [a1]; exact h1) h2
    | makeFunc fn a b =>
      rw [hop] at ho hok
      cases fn <;> simp only [op, reduceCtorEq] at ho
      rename_i f
      cases ho
      obtain ⟨al⟩ := a
      obtain ⟨bl⟩ := b
      obtain ⟨h1, h2⟩ := okL_spec hE hok
      simp only [List.map_append, Rn.vs_app] at h1 h2
      have hl : al.map E = ρ.vs (al.map e) ∧ bl.map E = ρ.vs (bl.map e) := by
        have hlen : (al.map E).length = (ρ.vs (al.map e)).length := by simp [Rn.vs_len]
        exact List.append_inj h1 hlen
      refine Step.pure R ?_ ?_
      · simp [Instr.makeFunc, Rn.v, Rn.fn, hl.1, hl.2]
      · simp only [bd]; exact ⟨fun l hl' => by (cases hl'), (bds_app.1 h2).1, (bds_app.1 h2).2⟩
    | makeMap t r =>
      rw [hop] at ho hok
      cases r with
      | some x => simp [op] at ho
      | none =>
        obtain ⟨v, h', rfl, hs⟩ := R.opMap ho t
        exact hs
    | slice t x lo hi mx =>
      rw [hop] at ho hok
      obtain ⟨v, hv, rfl⟩ := vh_some ho
      simp only [okOps, Bool.and_eq_true] at hok
      obtain ⟨a1, a2⟩ := hE x hok.1.1.1
      obtain ⟨h1, h2⟩ := R.opSlice hv a2
      exact Step.pure R (by rw [a1, okO_spec hE hok.1.1.2, okO_spec hE hok.1.2, okO_spec hE hok.2]; exact h1) h2
    | fieldAddr t x f =>
      rw [hop] at ho hok
      obtain ⟨v, hv, rfl⟩ := vh_some ho
      obtain ⟨a1, a2⟩ := hE x hok
      obtain ⟨h1, h2⟩ := opFieldA_sound (P := P) (w := w) ρ hv a2
      exact Step.pure R (by rw [a1]; exact h1) h2
    | field t x f =>
      rw [hop] at ho hok
      obtain ⟨v, hv, rfl⟩ := vh_some ho
      obtain ⟨a1, a2⟩ := hE x hok
      obtain ⟨h1, h2⟩ := opField_sound (P := P) (w := w) ρ hv a2
      exact Step.pure R (by rw [a1]; exact h1) h2
    | indexAddr t x i =>
      rw [hop] at ho hok
      obtain ⟨v, hv, rfl⟩ := vh_some ho
      have m := okL_mem hok
      obtain ⟨a1, a2⟩ := hE x (m x (by simp))
      obtain ⟨b1, b2⟩ := hE i (m i (by simp))
      obtain ⟨h1, h2⟩ := opIndexA_sound (P := P) (w := w) ρ hv a2
      exact Step.pure R (by rw [a1, b1]; exact h1) h2
    | index t x i =>
      rw [hop] at ho hok
      obtain ⟨v, hv, rfl⟩ := vh_some ho
      have m := okL_mem hok
      obtain ⟨a1, a2⟩ := hE x (m x (by simp))
      obtain ⟨b1, b2⟩ := hE i (m i (by simp))
      obtain ⟨h1, h2⟩ := opIndexT_sound (P := P) (w := w) ρ hv a2
      exact Step.pure R (by rw [a1, b1]; exact h1) h2
    | lookup t x k ok =>
      rw [hop] at ho hok
      obtain ⟨v, hv, rfl⟩ := vh_some ho
      have m := okL_mem hok
      obtain ⟨a1, a2⟩ := hE x (m x (by simp))
      obtain ⟨b1, b2⟩ := hE k (m k (by simp))
      obtain ⟨h1, h2⟩ := R.opLookup hC.key hv
      exact Step.pure R (by rw [a1, b1]; exact h1) h2
    | mapEntry t m k =>
      rw [hop] at ho hok
      have mm := okL_mem hok
      obtain ⟨a1, a2⟩ := hE m (mm m (by simp))
      obtain ⟨b1, b2⟩ := hE k (mm k (by simp))
      obtain ⟨v, h', rfl, hs⟩ := R.opEntry hC.key ho
      rw [← a1, ← b1] at hs
      exact hs
    | entryStore t m s x =>
      rw [hop] at ho hok
      have mm := okL_mem hok
      obtain ⟨a1, a2⟩ := hE m (mm m (by simp))
      obtain ⟨b1, b2⟩ := hE s (mm s (by simp))
      obtain ⟨c1, c2⟩ := hE x (mm x (by simp))
      obtain ⟨h', rfl, hs⟩ := R.opEntryS (t := t) ho c2
      rw [← a1, ← b1, ← c1] at hs
      exact hs
    | mapUpdate t m k x =>
      rw [hop] at ho hok
      have mm := okL_mem hok
      obtain ⟨a1, a2⟩ := hE m (mm m (by simp))
      obtain ⟨b1, b2⟩ := hE k (mm k (by simp))
      obtain ⟨c1, c2⟩ := hE x (mm x (by simp))
      obtain ⟨h', rfl, hs⟩ := R.opUpdate hC.key ho c2
      rw [← a1, ← b1, ← c1] at hs
      exact hs
    | insert t m k x =>
      rw [hop] at ho hok
      have mm := okL_mem hok
      obtain ⟨a1, a2⟩ := hE m (mm m (by simp))
      obtain ⟨b1, b2⟩ := hE k (mm k (by simp))
      obtain ⟨c1, c2⟩ := hE x (mm x (by simp))
      obtain ⟨h', rfl, hs⟩ := R.opUpdate hC.key ho c2
      rw [← a1, ← b1, ← c1] at hs
      exact hs
    | makeSlice t l c =>
      rw [hop] at ho hok
      have mm := okL_mem hok
      obtain ⟨a1, a2⟩ := hE l (mm l (by simp))
      obtain ⟨b1, b2⟩ := hE c (mm c (by simp))
      obtain ⟨v, h', rfl, hs⟩ := R.opMakeSlice ho
      rw [← a1, ← b1] at hs
      exact hs
    | range t x =>
      rw [hop] at ho hok
      obtain ⟨a1, a2⟩ := hE x hok
      obtain ⟨v, h', rfl, hs⟩ := R.opRange ho
      rw [← a1] at hs
      exact hs
    | next x s =>
      rw [hop] at ho hok
      obtain ⟨a1, a2⟩ := hE x hok
      obtain ⟨v, h', rfl, hs⟩ := R.opNext (t := o.type) ho
      rw [← a1] at hs
      exact hs
    | entry x =>
      rw [hop] at ho hok
      obtain ⟨v, hv, rfl⟩ := vh_some ho
      obtain ⟨a1, a2⟩ := hE x hok
      obtain ⟨h1, h2⟩ := R.opEntryI hv
      exact Step.pure R (by rw [a1]; exact h1) h2
    | makeInterface t x =>
      rw [hop] at ho hok
      obtain ⟨v, hv, rfl⟩ := vh_some ho
      obtain ⟨a1, a2⟩ := hE x hok
      unfold opIface at hv
      split at hv
      · cases hv
      · rename_i d hni hu
        cases hv
        refine Step.pure R ?_ (by simpa [bd] using a2)
        rw [a1]
        simp only [Instr.makeInterface, Sem.run_bind, und_run hu, Result.andThen_ok]
        cases d <;> first | (exact absurd hu (hni _)) | simp [Rn.v]
      · cases hv
    | extract t i =>
      rw [hop] at ho hok
      obtain ⟨v, hv, rfl⟩ := vh_some ho
      obtain ⟨a1, a2⟩ := hE t hok
      obtain ⟨h1, h2⟩ := opExtract_sound (P := P) (w := w) ρ hv a2
      exact Step.pure R (by rw [a1]; exact h1) h2
    | call c =>
      rw [hop] at ho hok
      simp only [op, opCall] at ho
      simp only [okOps] at hok
      cases hcl : c.callee with
      | value f =>
        rw [hcl] at ho hok
        simp only at ho hok
        obtain ⟨h1, h2⟩ := okL_spec hE hok
        simp only [List.map_cons, Rn.vs, List.cons.injEq] at h1
        have hargs : c.args.map E = ⟨ρ.vs (c.args.toList.map e)⟩ := by
          apply Array.ext'
          rw [Array.toList_map, h1.2]
        have := callOf_sound hC R ho h2.1 h2.2
        simp only [resolve, hcl, h1.1, hargs]
        exact this
      | builtin b =>
        rw [hcl] at ho hok
        simp only at ho hok
        obtain ⟨h1, h2⟩ := okL_spec hE hok
        have hargs : c.args.map E = ⟨ρ.vs (c.args.toList.map e)⟩ := by
          apply Array.ext'
          rw [Array.toList_map, h1]
        have := builtin_sound hC R (ty := o.type) (cs := c.args.map fun | .const _ => true | _ => false) ho h2
        simp only [resolve, hcl, hargs]
        exact this
      | invoke a b => rw [hcl] at ho; cases ho
    | _ => rw [hop] at hok; cases hok
end
end Go.Run
