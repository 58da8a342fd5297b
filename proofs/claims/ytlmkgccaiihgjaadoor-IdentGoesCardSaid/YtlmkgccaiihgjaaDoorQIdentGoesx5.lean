-- Own text of this seat, laid by the session's program ownprint.py (wip/tools). Lean checks it.
import Derived.Test.YtlmkgccaiihgjaaDoorQIdentGoesx0
import Derived.Test.YtlmkgccaiihgjaaDoorQIdentGoesx1
import Derived.Test.YtlmkgccaiihgjaaDoorQIdentGoesx2
import Derived.Test.YtlmkgccaiihgjaaDoorQIdentGoesx3
import Derived.Test.YtlmkgccaiihgjaaDoorQIdentGoesx4
namespace Go.Proofs.YtlmkgccaiihgjaaDoor.QIdentGoes
open Go.RowKit Go.Proofs.YtlmkgccaiihgjaaDoorW.PrintWords Go.Proofs.YtlmkgccaiihgjaaDoorW.PrintLast Go.Proofs.YtlmkgccaiihgjaaDoorW.PrintMore
attribute [local go_sem] max2_int min2_int max_two min_two max_three min_three max_four min_four   -- for this text's walks alone
set_option linter.unusedVariables false
set_option linter.unusedSimpArgs false

/-! ### topiarylaw01_IdentGoes: function 10 (by hand) -/
section
open Go.Sort Go.Shelf
attribute [local go_sem high] eqA23
attribute [local go_sem] Oper.semAt_some
theorem eql_func_nil (f : Fn) (a b : Array Value) (w : World) : (binOp .eql 41 (.func f a b) .nilFunc).run Tryd.prog w = .ok (.bool false) w := by kernel_rfl
theorem pre_snoc {pre r : List S23} {x : S23} (h : pre <+: r) (hlt : pre.length < r.length) (hx : rd_T23 r (pre.length : Int) = x) : pre ++ [x] <+: r := by
  have e := List.prefix_iff_eq_take.1 h
  have e2 : r.take (pre.length + 1) = r.take pre.length ++ [r[pre.length]] := List.take_succ_eq_append_getElem hlt
  have e3 : r[pre.length] = x := by rw [← hx]; simp [rd_T23, List.getD_eq_getElem?_getD, hlt]
  rw [e3, ← e] at e2
  rw [← e2]
  exact List.take_prefix _ _
theorem pre_last {pre r : List S23} {x : S23} (h : pre ++ [x] <+: r) : rd_T23 r (pre.length : Int) = x := by
  obtain ⟨t, rfl⟩ := h
  simp [rd_T23, List.getD_eq_getElem?_getD]
theorem keeps_drewN (W : World) (m : Nat) : KeepsOthers W (W.drewN m) := ⟨Nat.le_refl _, fun _ _ h _ => h⟩
theorem heap_set_far (W : World) {b k : Nat} {v : Value} (h : k ≠ b) : (W.setCell ⟨b, 0, none⟩ v).heap[k]? = W.heap[k]? := Below.heap_setCell W ⟨b, 0, none⟩ v k h
theorem grown_set {W0 W : World} {b : Nat} (hg : W0.grownBy W (some b)) (j : Nat) (v : Value) : W0.grownBy (W.setCell ⟨b, j, none⟩ v) (some b) :=
  ⟨hg.os, hg.tape, hg.output, by simp; exact hg.size, fun k hk hne => (Below.heap_setCell W ⟨b, j, none⟩ v k (fun e => hne (by rw [e]))).trans (hg.block k hk hne)⟩
/-- What the law's own variables hold: stop, the answer, the wanted list, how many have come (and one number more). -/
structure HeldG (b3 b4 b8 b9 bn bs g bg : Nat) (vs : Value) (stop : Int) (vw : Value) (want : List S23) (n nn : Int) (W : World) : Prop where
  e3 : W.heap[b3]? = some (.cells #[.int .i64 stop] 3 (0, 0))
  e4 : W.heap[b4]? = some (.cells #[.bool false] 4 (0, 0))
  e8 : W.heap[b8]? = some (.cells #[vw] 39 (0, 0))
  e9 : W.heap[b9]? = some (.cells #[.int .i64 n] 3 (0, 0))
  en : W.heap[bn]? = some (.cells #[.int .i64 nn] 3 (0, 0))
  row : Kd.R k23 23 W bs (fun _ => True) vw want
  eg : W.heap[g]? = some (.cells #[vs] 39 (0, 0))
  rowg : Kd.R k23 23 W bg (fun k => k ≠ g) vs want
section
variable {b3 b4 b8 b9 bn bs g bg : Nat} {vs : Value} {stop : Int} {vw : Value} {want : List S23} {n nn : Int} {W : World}
theorem HeldG.noncells {W' : World} {row : Option Nat} (h : HeldG b3 b4 b8 b9 bn bs g bg vs stop vw want n nn W) (hg : W.grownBy W' row) (hr : ∀ r, row = some r → ∃ o : Obj, W.heap[r]? = some o ∧ o.isCells = false) : HeldG b3 b4 b8 b9 bn bs g bg vs stop vw want n nn W' :=
  ⟨blk_noncells h.e3 hg hr, blk_noncells h.e4 hg hr, blk_noncells h.e8 hg hr, blk_noncells h.e9 hg hr, blk_noncells h.en hg hr, R_noncells h.row hg hr, blk_noncells h.eg hg hr, R_noncells h.rowg hg hr⟩
theorem HeldG.alloc (h : HeldG b3 b4 b8 b9 bn bs g bg vs stop vw want n nn W) (o : Obj) : HeldG b3 b4 b8 b9 bn bs g bg vs stop vw want n nn (W.alloc o) :=
  ⟨blk_alloc h.e3 _, blk_alloc h.e4 _, blk_alloc h.e8 _, blk_alloc h.e9 _, blk_alloc h.en _, Kd.R_alloc h.row _, blk_alloc h.eg _, Kd.R_alloc h.rowg _⟩
theorem HeldG.drewN (h : HeldG b3 b4 b8 b9 bn bs g bg vs stop vw want n nn W) (m : Nat) : HeldG b3 b4 b8 b9 bn bs g bg vs stop vw want n nn (W.drewN m) :=
  ⟨blk_drewN h.e3 _, blk_drewN h.e4 _, blk_drewN h.e8 _, blk_drewN h.e9 _, blk_drewN h.en _, Kd.R_drewN h.row _, blk_drewN h.eg _, Kd.R_drewN h.rowg _⟩
theorem HeldG.put (h : HeldG b3 b4 b8 b9 bn bs g bg vs stop vw want n nn W) (h3 : b3 ≠ b9) (h4 : b4 ≠ b9) (h8 : b8 ≠ b9) (hn : bn ≠ b9) (hg : g ≠ b9) (m : Int) : HeldG b3 b4 b8 b9 bn bs g bg vs stop vw want m nn (W.setCell ⟨b9, 0, none⟩ (.int .i64 m)) :=
  ⟨(Below.heap_setCell W ⟨b9, 0, none⟩ _ b3 h3).trans h.e3, (Below.heap_setCell W ⟨b9, 0, none⟩ _ b4 h4).trans h.e4, (Below.heap_setCell W ⟨b9, 0, none⟩ _ b8 h8).trans h.e8, blk_put (cs' := #[.int .i64 m]) h.e9 0 _ rfl, (Below.heap_setCell W ⟨b9, 0, none⟩ _ bn hn).trans h.en,
    Kd.R_mono (Kd.R_far (p := ⟨b9, 0, none⟩) (Kd.R_types h.row h.e9 (by decide)) (fun _ hk => hk.2) _) (fun _ _ => trivial), (Below.heap_setCell W ⟨b9, 0, none⟩ _ g hg).trans h.eg, Kd.R_mono (Kd.R_far (p := ⟨b9, 0, none⟩) (Kd.R_types h.rowg h.e9 (by decide)) (fun _ hk => hk.2) _) (fun _ hk => hk.1)⟩
end
theorem row_empty2 (W : World) (base : Nat) (ok : Nat → Prop) (hb : base ≤ W.heap.size) (hok : ok W.heap.size) : Kd.R k23 23 (W.alloc (.cells #[] 23)) base ok (.slice (some ⟨W.heap.size, 0, none⟩) 0 0) [] :=
  row_of_cells (cap := 0) (cur := #[]) (ys := []) (blk_new W _) (Nat.le_refl _) (by unfold maxLen; omega) rfl hb hok (fun j p h => by simp at h)
set_option maxHeartbeats 4000000 in
set_option maxRecDepth 100000 in
theorem idgoes_calls (k : Nat) (A0 : Option Addr) (c0 : Nat) (l0 : List S23) (stop : Int) (w : World) (hr0 : Kd.C k23 w A0 l0.length l0) (hc0 : l0.length ≤ c0) (htab : TabW_ w) (hl : l0.length < 8796093022207) (hS : topiaryref01_Sort.f k l0 = some (srtS l0)) (hA : topiarylaw01_awake.f k = some true) :
    Calls Tryd.prog 10 #[.slice A0 l0.length c0, .int .i64 stop] w fun e w' => e = .returned (.bool true) ∧ Below w.heap.size w w' := by
  have HR0 := Aside0.mk hr0
  have HC0 := Aside0.mk hc0
  have HT := Aside0.mk htab
  have HS := Aside0.mk hS
  have HA := Aside0.mk hA
  have hls : (srtS l0).length < 8796093022207 := by have := length_srtS l0; omega
  generalize hr : srtS l0 = r at hls HS
  have HRS := Aside0.mk hr
  clear hr
  clear hr0 hc0 htab hS hA
  refine (callsIn_wide (n := 6)).1 ?_
  refine callsIn_of_wp_marks Tryd.func10 rfl trivial ?_ rfl
  simp only [Tryd.ntmps10, List.size_toArray, List.length_cons, List.length_nil, Nat.reduceAdd, Nat.reduceSub, Array.replicate_succ, Array.replicate_zero, List.push_toArray, List.append_toArray, List.nil_append, List.cons_append]
  refine wpIn_wide.2 ?_
  go_wp2_with ((with_reducible refine gate_builtin (b := .append) (xs := #[.tmp 13, .tmp 14]) rfl ?_); at_builtin; refine Kd.R_append_rows k23 (w0 := w) w.heap.size rfl (.tmp 13) (.tmp 14) 39 23 (.agg #[.int .i64 0, .int .i64 0]) 16 rfl Tryd.underlying39 info23 rfl (by decide) (by omega) (.slice (some ⟨w.heap.size + 2, 0, none⟩) 0 0) [] l0 _ _ _ (fun k_ => k_ ≠ w.heap.size ∧ k_ ≠ w.heap.size + 1) (fun _ => False) rfl rfl (by have h_ := row_empty2 ((w.alloc (.cells #[.int .i64 stop] 3)).alloc (.cells #[.bool false] 4)) w.heap.size (fun k_ => k_ ≠ w.heap.size ∧ k_ ≠ w.heap.size + 1) (by simp; omega) (by simp; omega); simpa using h_) (Kd.C_alloc (Kd.C_alloc (Kd.C_alloc HR0.out _) _) _) (fun _ _ h => h) (fun _ h => h.elim) (fun k_ hk => by simp at hk; exact ⟨by omega, by omega⟩) (below_alloc (below_alloc (below_alloc (Below.refl _ _) _) _) _) (by simp; omega) (by simp; omega) ?_; intro v1 w1 hR1 hB1 hg1 hat1; rw [List.nil_append] at hR1; obtain ⟨b1, hb1⟩ : ∃ b, v1.ownBlock = some b := hat1.elim (fun h => ⟨_, h⟩) (fun ⟨b, h, _⟩ => ⟨b, h⟩); obtain ⟨cap1, rfl⟩ := row_some hR1 hb1; clear hat1 hb1)
  obtain ⟨_, hh1, _, hc1, _, _, hge1, hok1, _⟩ := row_cells hR1
  have hlt1 : b1 < w1.heap.size := blk_lt hh1
  clear hh1
  have B3 := blk_grown (blk_alloc (blk_alloc (blk_new w (.cells #[.int .i64 stop] 3)) (.cells #[.bool false] 4)) (.cells #[] 23)) hg1 (by simp [Value.ownBlock])
  have B4 := blk_grown (blk_alloc (blk_new (w.alloc (.cells #[.int .i64 stop] 3)) (.cells #[.bool false] 4)) (.cells #[] 23)) hg1 (by simp [Value.ownBlock])
  rw [World.size_alloc] at B4
  obtain ⟨_, _, hC1⟩ := Kd.R_reads' hR1
  refine (rising_calls (some ⟨b1, 0, none⟩) cap1 l0 w1 hC1 hc1 (by omega)).mono ?_
  rintro e w2 ⟨vs, g, rfl, hrow, hbox, hge, hbel⟩
  rw [HRS.out] at hrow
  have hR2 := Kd.R_below hR1 hbel
  have B3' := blk_below B3 hbel
  have B4' := blk_below B4 hbel
  have hB2 : Below w.heap.size w w2 := hB1.trans (hbel.mono hB1.size)
  obtain ⟨cur, hh2, _, hc2, _, hcs2, _, _, _⟩ := row_cells hR2
  have hsz12 : w1.heap.size ≤ w2.heap.size := hbel.size
  have hw1 : w.heap.size + 2 ≤ w1.heap.size := by have := hg1.size; simp at this; omega
  have hgl2 := blk_lt hbox
  have hrl2 := Kd.R_lt hrow
  have hrb2 := Kd.R_base hrow
  have P2 := Aside0.mk (And.intro hrow (And.intro hbox (And.intro B3' (And.intro B4' hB2))))
  have Hh2 := Aside0.mk hh2
  have Hcs := Aside0.mk hcs2
  clear hrow hbox B3 B4 B3' B4' hB2 hR1 hR2 hC1 hbel hB1 hg1 hh2 hcs2
  have hnil := eql_func_nil (.func 41) #[] #[.pointer (some ⟨g, 0, none⟩)] w2
  go_wp2
  go_loopw [7] (fun i wr => ∃ (i_ : Nat) (cu : Array Value), i = .int .i64 (i_ : Int) ∧ i_ ≤ l0.length ∧ Aside0 (wr.heap[b1]? = some (.cells cu 23 (0, 0))) ∧ Aside0 (cu.size = cap1 * 2) ∧ Aside0 (w2.grownBy wr (some b1))) (fun i _ => l0.length - (intOf i).toNat)
  case atStart => exact ⟨0, cur, rfl, Nat.zero_le _, Hh2, Hcs, ⟨World.grownBy.refl _ _⟩⟩
  case round =>
    obtain ⟨i, cu, rfl, hi, hb, hcs, hg⟩ := hrel
    by_cases hlt : i < l0.length
    · obtain ⟨x0, e0⟩ : ∃ v, cu[i * 2]? = some v := ⟨_, Array.getElem?_eq_getElem (by have := hcs.out; omega)⟩
      obtain ⟨x1, e1⟩ : ∃ v, cu[i * 2 + 1]? = some v := ⟨_, Array.getElem?_eq_getElem (by have := hcs.out; omega)⟩
      have q0 : wr.cell? ⟨b1, i * 2, none⟩ = some x0 := (blk_cell hb.out (i * 2)).trans e0
      have q1 : wr.cell? ⟨b1, i * 2 + 1, none⟩ = some x1 := (blk_cell hb.out (i * 2 + 1)).trans e1
      have f0 := blk_frozen hb.out (i * 2)
      have f1 := blk_frozen hb.out (i * 2 + 1)
      clear e0 e1
      go_wp2
      go_roundw
      case rel => exact ⟨i + 1, (cu.setIfInBounds (i * 2) (.int .i64 (-7))).setIfInBounds (i * 2 + 1) (.int .i64 0), by go_num, by omega, ⟨blk_put (cs' := (cu.setIfInBounds (i * 2) (.int .i64 (-7))).setIfInBounds (i * 2 + 1) (.int .i64 0)) (blk_put (cs' := cu.setIfInBounds (i * 2) (.int .i64 (-7))) hb.out (i * 2) _ rfl) (i * 2 + 1) _ rfl⟩, ⟨by simpa using hcs.out⟩, ⟨grown_set (grown_set hg.out _ _) _ _⟩⟩
      case measure => simp [intOf]; omega
    · obtain rfl : i = l0.length := by omega
      obtain ⟨hrow, hbox, B3, B4, hB⟩ := P2.out
      have hg3 := hg.out
      have hB3 : Below w.heap.size w wr := hB.grown hg3 hB.size (fun k e => by cases e; exact hge1)
      have hrow3 := Kd.R_grown2 hrow rfl hg3 (fun k e => by cases e; intro e'; have := hrb2 b1 e'.symm; omega)
      have hbox3 := blk_grown hbox hg3 (fun e => by simp only [Option.some.injEq] at e; omega)
      have B33 := blk_grown B3 hg3 (fun e => by simp only [Option.some.injEq] at e; exact hok1.1 e.symm)
      have B43 := blk_grown B4 hg3 (fun e => by simp only [Option.some.injEq] at e; exact hok1.2 e.symm)
      have hsz23 : w2.heap.size ≤ wr.heap.size := hg3.size
      have hC3 := Kd.C_below HR0.out hB3
      have HP := Aside0.mk (And.intro hrow3 (And.intro hbox3 (And.intro B33 (And.intro B43 hB3))))
      clear hrow hbox B3 B4 hB hg3 hrow3 hbox3 B33 B43 hB3 P2 Hh2 Hcs hb hcs hg hnil
      go_wp2_with (go_at_call 29; refine (topiaryref01_Sort.calls k A0 c0 l0 r wr hC3 HC0.out HS.out).mono ?_; rintro e w4 ⟨vw, rfl, hRw, hb4⟩; obtain ⟨Aw, cw, rfl⟩ := Kd.R_slice hRw; have HRW := Aside0.mk hRw; have HB4 := Aside0.mk hb4; clear hRw hb4; have q1 := blk_cell (blk_new w4 (.cells #[.slice none 0 0] 39)) 0; have q2 := blk_frozen (blk_new w4 (.cells #[.slice none 0 0] 39)) 0)
      obtain ⟨hrow3, hbox3, B33, B43, hB3⟩ := HP.out
      have hrow4 := Kd.R_below hrow3 HB4.out
      have hbox4 := blk_below hbox3 HB4.out
      have B34 := blk_below B33 HB4.out
      have B44 := blk_below B43 HB4.out
      have hB4 : Below w.heap.size w w4 := hB3.trans (HB4.out.mono hB3.size)
      have hsz34 : wr.heap.size ≤ w4.heap.size := HB4.out.size
      have e8 := blk_alloc (blk_new w4 (.cells #[.slice Aw r.length cw] 39)) (.cells #[.int .i64 0] 3)
      have e9 := blk_new (w4.alloc (.cells #[.slice Aw r.length cw] 39)) (.cells #[.int .i64 0] 3)
      rw [World.size_alloc] at e9
      have H0 : HeldG w.heap.size (w.heap.size + 1) w4.heap.size (w4.heap.size + 1) w.heap.size wr.heap.size g w1.heap.size vs stop (.slice Aw r.length cw) r 0 stop ((w4.alloc (.cells #[.slice Aw r.length cw] 39)).alloc (.cells #[.int .i64 0] 3)) :=
        ⟨blk_alloc (blk_alloc B34 _) _, blk_alloc (blk_alloc B44 _) _, e8, e9, blk_alloc (blk_alloc B34 _) _, Kd.R_alloc (Kd.R_alloc HRW.out _) _, blk_alloc (blk_alloc hbox4 _) _, Kd.R_alloc (Kd.R_alloc hrow4 _) _⟩
      have hrow5 := Kd.R_alloc (Kd.R_alloc hrow4 (.cells #[.slice Aw r.length cw] 39)) (.cells #[.int .i64 0] 3)
      have hbox5 := blk_alloc (blk_alloc hbox4 (.cells #[.slice Aw r.length cw] 39)) (.cells #[.int .i64 0] 3)
      have hB5 : Below w.heap.size w ((w4.alloc (.cells #[.slice Aw r.length cw] 39)).alloc (.cells #[.int .i64 0] 3)) := (hB4.alloc hB4.size _).alloc (by simp; have := hB4.size; omega) _
      have hsz5 : ((w4.alloc (.cells #[.slice Aw r.length cw] 39)).alloc (.cells #[.int .i64 0] 3)).heap.size = w4.heap.size + 2 := by simp
      have hgl4 : g < w4.heap.size := by omega
      have hrl4 : ∀ b, (vs : Value).ownBlock = some b → b < w4.heap.size := fun b e => by have := hrl2 b e; omega
      generalize (w4.alloc (.cells #[.slice Aw r.length cw] 39)).alloc (.cells #[.int .i64 0] 3) = W5 at H0 hrow5 hbox5 hB5 hsz5 ⊢
      have HH := Aside0.mk H0
      have HROW := Aside0.mk hrow5
      have HBOX := Aside0.mk hbox5
      have HB5 := Aside0.mk hB5
      clear hrow3 hbox3 B33 B43 hB3 hrow4 hbox4 B34 B44 hB4 e8 e9 HP HRW HB4 q1 q2 hC3 H0 hrow5 hbox5 hB5
      have hw4 : w.heap.size + 2 ≤ w4.heap.size := by omega
      rename_i K_ hK_
      have REST : ∀ (D n : Nat) (W6 : World), (n = r.length ∨ (n : Int) = stop) → HeldG w.heap.size (w.heap.size + 1) w4.heap.size (w4.heap.size + 1) w.heap.size wr.heap.size g w1.heap.size vs stop (.slice Aw r.length cw) r (n : Int) stop W6 → W5.heap.size ≤ W6.heap.size → Below w.heap.size w W6 → W6.heap[D]? = some (.deferred (some [])) → W5.heap.size ≤ D → K_ { tmps := #[.slice A0 l0.length c0, .int .i64 stop, undef, .pointer (some ⟨w.heap.size, 0, none⟩), .pointer (some ⟨w.heap.size + 1, 0, none⟩), .slice (some ⟨b1, 0, none⟩) l0.length cap1, .func (.func 41) #[] #[.pointer (some ⟨g, 0, none⟩)], .int .i64 (l0.length : Int), .pointer (some ⟨w4.heap.size, 0, none⟩), .pointer (some ⟨w4.heap.size + 1, 0, none⟩), undef, undef, undef, .slice (some ⟨w.heap.size + 1 + 1, 0, none⟩) 0 0, .slice A0 l0.length c0, .slice (some ⟨b1, 0, none⟩) l0.length cap1, .slice (some ⟨b1, 0, none⟩) l0.length cap1, .func (.func 41) #[] #[.pointer (some ⟨g, 0, none⟩)], .func (.func 41) #[] #[.pointer (some ⟨g, 0, none⟩)], .bool false, .int .i64 (l0.length : Int), .slice (some ⟨b1, 0, none⟩) l0.length cap1, .int .i64 (l0.length : Int), .bool false, u24, u25, u26, u27, u28, u29, .slice A0 l0.length c0, .slice Aw r.length cw, .func (.func 41) #[] #[.pointer (some ⟨g, 0, none⟩)], undef, undef, undef, undef, undef, undef, undef, undef, undef, undef, undef, undef, undef, undef, undef, undef, undef, undef, undef, undef, undef, undef, undef, undef, undef, undef, undef, undef, undef, undef, undef, undef, undef, undef, undef, undef, undef, undef, undef, undef, undef, undef, undef, undef, undef, undef, undef, undef, undef, undef, undef, undef], defers := [{ target := .collected D, args := #[] }] } W6 := by
        intro D n W6 hn H hsz6 hB6 hD hleD
        refine hK_ _ _ ?_
        have HN := Aside0.mk hn
        have H6 := Aside0.mk H
        have HD := Aside0.mk hD
        have HB6 := Aside0.mk hB6
        clear hn H hD hB6
        go_wp2_with fail
        have H7 : HeldG w.heap.size (w.heap.size + 1) w4.heap.size W6.heap.size (w4.heap.size + 1) wr.heap.size g w1.heap.size vs stop (.slice Aw r.length cw) r 0 (n : Int) (W6.alloc (.cells #[.int .i64 0] 3)) := ⟨blk_alloc H6.out.e3 _, blk_alloc H6.out.e4 _, blk_alloc H6.out.e8 _, blk_new W6 _, blk_alloc H6.out.e9 _, Kd.R_alloc H6.out.row _, blk_alloc H6.out.eg _, Kd.R_alloc H6.out.rowg _⟩
        have hDlt : D < W6.heap.size := (Array.getElem?_eq_some_iff.1 HD.out).1
        have hD7 := (Below.heap_alloc W6 (.cells #[.int .i64 0] 3) D hDlt).trans HD.out
        have hB7 := HB6.out.alloc HB6.out.size (.cells #[.int .i64 0] 3)
        have hsz7 : (W6.alloc (.cells #[.int .i64 0] 3)).heap.size = W6.heap.size + 1 := by simp
        generalize W6.alloc (.cells #[.int .i64 0] 3) = W7 at H7 hD7 hB7 hsz7 ⊢
        have HH7 := Aside0.mk H7
        have HD7 := Aside0.mk hD7
        have HB7 := Aside0.mk hB7
        clear H7 hD7 hB7 HD HB6
        have hw6 : w.heap.size + 2 ≤ W6.heap.size := by omega
        have hg6 : g < W6.heap.size := by omega
        have hrl6 : ∀ b, (vs : Value).ownBlock = some b → b < W6.heap.size := fun b e => by have := hrl4 b e; omega
        refine wpIn_wide.1 (wpIn_rangeFunc_ownH (n := 6) rfl (by omega) (gf := 41) (lb := #[.pointer (some ⟨g, 0, none⟩)]) rfl trivial (enters_of Tryd.func41 (by kernel_rfl) rfl)
          (goes_stops (6 - 1) (by omega) g _ vs r (by omega) W7 HH7.out.eg HH7.out.rowg) (fun h k => SeqKeeps.trans h k) (fun W l o o' hl h _ _ => ⟨by simp, World.putObj_heap_other (by omega), fun b e => World.putObj_heap_other (by have := hrl6 b e; omega)⟩) (Below.refl _ _) (fun _ => rfl)
          (fun pre W => HeldG w.heap.size (w.heap.size + 1) w4.heap.size W6.heap.size (w4.heap.size + 1) wr.heap.size g w1.heap.size vs stop (.slice Aw r.length cw) r (pre.length : Int) (n : Int) W ∧ pre <+: r ∧ W7.heap.size ≤ W.heap.size ∧ Below w.heap.size w W ∧ W.heap[D]? = some (.deferred (some [])))
          (fun c pre W => c = .ret ∧ ¬ pre <+: r)
          (fun s A B row hs hg hr => ⟨hs.1.noncells hg (fun r e => (hr r e).2), hs.2.1, Nat.le_trans hs.2.2.1 hg.size, hs.2.2.2.1.grown hg (by omega) (fun k e => by have := (hr k e).1; omega), (hg.block D (Array.getElem?_eq_some_iff.1 hs.2.2.2.2).1 (fun e => by have := (hr D e.symm).1; omega)).trans hs.2.2.2.2⟩)
          (fun c s A B row hs hg hr => hs)
          ⟨HH7.out, List.nil_prefix, Nat.le_refl _, HB7.out, HD7.out⟩
          (fun x a' W => ∃ Bx, W7.heap.size ≤ Bx ∧ W.heap[Bx]? = some (.cells #[.int .i64 x.f0, .int .i64 x.f1] 23 (0, 0)) ∧ a' = { tmps := #[.slice A0 l0.length c0, .int .i64 stop, undef, .pointer (some ⟨w.heap.size, 0, none⟩), .pointer (some ⟨w.heap.size + 1, 0, none⟩), .slice (some ⟨b1, 0, none⟩) l0.length cap1, .func (.func 41) #[] #[.pointer (some ⟨g, 0, none⟩)], .int .i64 (l0.length : Int), .pointer (some ⟨w4.heap.size, 0, none⟩), .pointer (some ⟨w4.heap.size + 1, 0, none⟩), undef, .pointer (some ⟨W6.heap.size, 0, none⟩), .pointer (some ⟨Bx, 0, none⟩), .slice (some ⟨w.heap.size + 1 + 1, 0, none⟩) 0 0, .slice A0 l0.length c0, .slice (some ⟨b1, 0, none⟩) l0.length cap1, .slice (some ⟨b1, 0, none⟩) l0.length cap1, .func (.func 41) #[] #[.pointer (some ⟨g, 0, none⟩)], .func (.func 41) #[] #[.pointer (some ⟨g, 0, none⟩)], .bool false, .int .i64 (l0.length : Int), .slice (some ⟨b1, 0, none⟩) l0.length cap1, .int .i64 (l0.length : Int), .bool false, u24, u25, u26, u27, u28, u29, .slice A0 l0.length c0, .slice Aw r.length cw, .func (.func 41) #[] #[.pointer (some ⟨g, 0, none⟩)], undef, undef, undef, undef, undef, undef, undef, undef, undef, undef, undef, undef, undef, undef, undef, undef, undef, undef, .func (.func 41) #[] #[.pointer (some ⟨g, 0, none⟩)], .agg #[.int .i64 x.f0, .int .i64 x.f1], undef, undef, undef, undef, undef, undef, undef, undef, undef, undef, undef, undef, undef, undef, undef, undef, undef, undef, undef, undef, undef, undef, undef, undef, undef, undef, undef, undef, undef, undef, undef, undef], defers := [] })
          (fun x a' _ A B row hs hg hr => by obtain ⟨Bx, h1, h2, h3⟩ := hs; exact ⟨Bx, h1, blk_noncells h2 hg (fun r e => (hr r e).2), h3⟩)
          ?assign ?body ?done ?stop)
        case assign =>
          rintro l pre x W K ⟨H, hp, hsz, hB, hDD⟩ hK
          gi_wp2
          exact hK _ _ ((KeepsOthers.alloc _ _).from _) (SeqKeeps.alloc (by omega) (fun b e => by have := hrl6 b e; omega) _) ⟨H.alloc _, hp, by simp; omega, hB.alloc hB.size _, (Below.heap_alloc W _ D (by omega)).trans hDD⟩ ⟨W.heap.size, hsz, blk_new _ _, rfl⟩
        case body =>
          rintro l pre x a' W hl ⟨rr, hrr⟩ ⟨H, hp, hsz, hB, hDD⟩ ⟨Bx, hBx, bX, rfl⟩ hlt
          have q0 := blk_cell bX 0
          have q1 := blk_cell bX 1
          have qn := blk_cell H.e9 0
          have qs := blk_cell H.e3 0
          have qw := blk_cell H.e8 0
          have q4 := blk_cell H.e4 0
          have f4 := blk_frozen H.e4 0
          have fn := blk_frozen H.e9 0
          obtain ⟨_, hcw, hCw⟩ := Kd.R_reads' H.row
          obtain ⟨ad, hA, y0, y1⟩ := at_T23 hCw (pre.length : Int) (by omega) (by omega)
          subst hA
          simp only [Int.toNat_natCast] at y0 y1
          have mixed : Tryd.prog.follows Departure.mixedOrders = true := by kernel_rfl
          have hge : decide (r.length ≤ pre.length) = false := by simp; omega
          have hin : decide (pre.length < r.length) = true := by simp; omega
          have h0n : (0 : Int) ≤ (pre.length : Int) := by omega
          have hng : g ≠ W6.heap.size := by omega
          generalize hy : rd_T23 r (pre.length : Int) = y at y0 y1
          have HY := Aside0.mk hy
          have HH5 := Aside0.mk H
          have HCW := Aside0.mk hCw
          clear hy H hCw
          obtain ⟨xa, xb⟩ := x
          obtain ⟨ya, yb⟩ := y
          simp only at q0 q1 y0 y1
          by_cases hxy : xa = ya ∧ xb = yb
          · obtain ⟨rfl, rfl⟩ := hxy
            gi_wp2
            gi_cut [64] from 85 (fun s64 wx => s64 = .bool false ∧ ∃ nq, wx = W.drewN nq)
            case first =>
              rename_i J_ K_ hJ_ hK_
              clear HR0 HC0 HT HA HS HRS HH HROW HBOX HB5 HH5 HCW HY hp hsz hB hrr bX q4 f4 fn qs hrl2 hrb2 hrl4
              (repeat (rename_i h_; clear h_))
              gi_region_o
              all_goals
                show K_ _ _
                refine hK_ _ _ (Met.intro (hJ_ _ _ ?_))
                (repeat apply Exists.intro)
                refine ⟨?_, rfl⟩
                exact ⟨rfl, _, rfl⟩
            case rest =>
              obtain ⟨rfl, nq, rfl⟩ := hcut
              gi_wp2
              refine ⟨((keeps_drewN W nq).trans (KeepsOthers.setCell _ _ _)).from _, ⟨by simp, Below.heap_setCell (W.drewN nq) ⟨W6.heap.size, 0, none⟩ _ g (by simp; omega), fun b e => Below.heap_setCell (W.drewN nq) ⟨W6.heap.size, 0, none⟩ _ b (by have := hrl4 b e; simp; omega)⟩, ?_, pre_snoc hp hlt HY.out, by simp; omega, ?_, (heap_set_far (W.drewN nq) (by omega)).trans hDD⟩
              · rw [show ((pre ++ [(⟨xa, xb⟩ : S23)]).length : Int) = (pre.length : Int) + 1 from by simp]
                exact (HH5.out.drewN nq).put (by omega) (by omega) (by omega) (by omega) (by omega) _
              · exact (pw_below_drewN hB nq).setCell (p := ⟨W6.heap.size, 0, none⟩) (by simp; omega) _
          · have hxy' : (!(xa == ya) || !(xb == yb)) = true := by
              by_cases a : xa = ya
              · have b : xb ≠ yb := fun b => hxy ⟨a, b⟩
                simp [b]
              · simp [a]
            have HXY := Aside0.mk hxy
            clear hxy
            gi_wp2
            gi_cut [64] from 85 (fun s64 wx => s64 = .bool true ∧ ∃ nq, wx = W.drewN nq)
            case first =>
              rename_i J_ K_ hJ_ hK_
              clear HR0 HC0 HT HA HS HRS HH HROW HBOX HB5 HH5 HCW HY hp hsz hB hrr bX q4 f4 fn qs hrl2 hrb2 hrl4
              (repeat (rename_i h_; clear h_))
              gi_region_o
              all_goals
                show K_ _ _
                refine hK_ _ _ (Met.intro (hJ_ _ _ ?_))
                (repeat apply Exists.intro)
                refine ⟨?_, rfl⟩
                exact ⟨rfl, _, rfl⟩
            case rest =>
              obtain ⟨rfl, nq, rfl⟩ := hcut
              gi_wp2
              refine ⟨?_, rfl, (fun hpx => HXY.out (by have e := (HY.out).symm.trans (pre_last hpx); simp only [S23.mk.injEq] at e; exact ⟨e.1.symm, e.2.symm⟩))⟩
              exact ((keeps_drewN W nq).trans (KeepsOthers.setCell _ _ _)).from _
        case done =>
          rintro D2 ys W hD2 hys ⟨H, hp, hsz, hB, hDD⟩ hK2
          subst hys
          have qk := blk_cell H.e9 0
          have qn := blk_cell H.en 0
          have qw := blk_cell H.e8 0
          have qs := blk_cell H.e3 0
          have HF := Aside0.mk H
          have HBF := Aside0.mk hB
          have HDF := Aside0.mk hDD
          have HKF := Aside0.mk hK2
          clear H hB hDD hK2
          have hend : ∀ (w8 : World), Below W.heap.size W w8 → w8.heap[w.heap.size + 1]? = some (.cells #[.bool false] 4 (0, 0)) → ∀ a : Act, a.defers = [{ target := .collected D2, args := #[] }, { target := .collected D, args := #[] }] → a.tmps[4]? = some (.pointer (some ⟨w.heap.size + 1, 0, none⟩)) → bodyPostM Fence.wide 6 Tryd.prog Tryd.f10 (fun e w' => e = Ending.returned (Value.bool true) ∧ Below w.heap.size w w') Exit.ret a (w8.setCell ⟨w.heap.size + 1, 0, none⟩ (.bool true)) := by
            intro w8 hb8 e48 a ha ht
            have hlt1 := (Array.getElem?_eq_some_iff.1 HDF.out).1
            have hlt2 := (Array.getElem?_eq_some_iff.1 HKF.out).1
            have d2 : (w8.setCell ⟨w.heap.size + 1, 0, none⟩ (.bool true)).heap[D2]? = some (.deferred (some [])) := (heap_set_far w8 (by omega)).trans ((hb8.block D2 hlt2).trans HKF.out)
            have d1 : (w8.setCell ⟨w.heap.size + 1, 0, none⟩ (.bool true)).heap[D]? = some (.deferred (some [])) := (heap_set_far w8 (by omega)).trans ((hb8.block D hlt1).trans HDF.out)
            have d1' : ((w8.setCell ⟨w.heap.size + 1, 0, none⟩ (.bool true)).putObj D2 (.deferred none)).heap[D]? = some (.deferred (some [])) := (World.putObj_heap_other (by omega)).trans d1
            have d4 := blk_put (cs' := #[.bool true]) e48 0 (.bool true) rfl
            have d4' : (((w8.setCell ⟨w.heap.size + 1, 0, none⟩ (.bool true)).putObj D2 (.deferred none)).putObj D (.deferred none)).heap[w.heap.size + 1]? = some (.cells #[.bool true] 4 (0, 0)) := (World.putObj_heap_other (by omega)).trans ((World.putObj_heap_other (by omega)).trans d4)
            have c4 := blk_cell d4' 0
            have hB8 : Below w.heap.size w (w8.setCell ⟨w.heap.size + 1, 0, none⟩ (.bool true)) := (HBF.out.trans (hb8.mono HBF.out.size)).setCell (p := ⟨w.heap.size + 1, 0, none⟩) (by simp) _
            have hB9 := hB8.grown (grownBy_putObj' _ D2 (.deferred none)) hB8.size (fun k e => by cases e; omega)
            have hB10 := hB9.grown (grownBy_putObj' _ D (.deferred none)) hB9.size (fun k e => by cases e; omega)
            show LeavesInM Fence.wide 6 Tryd.prog Tryd.f10 a.tmps _ a.defers .returning _
            rw [ha]
            refine ⟨by simp, .inl ⟨_, _, rfl, run_takeDeferred d2, ?_⟩⟩
            refine ⟨by simp, .inl ⟨_, _, rfl, run_takeDeferred d1', ?_⟩⟩
            refine ⟨.bool true, ?_, rfl, hB10⟩
            simp [results, Tryd.f10, go_sem, ht, c4]
          have HEND := Aside0.mk hend
          clear hend
          by_cases h1 : (n : Int) = (ys.length : Int)
          · have e1 : ((n : Int) == (ys.length : Int)) = true := beq_iff_eq.mpr h1
            clear h1
            go_wp2_with (go_at_call 16; refine (topiarylaw01_awake.calls k true _ (tabW_below_ HT.out (by repeat (first | exact HBF.out | apply below_alloc | apply pw_below_drewN | apply below_drew1))) HA.out).mono ?_; rintro e w8 ⟨rfl, hb8⟩; have e48 := blk_below (by (with_reducible repeat (first | refine blk_drewN ?_ _ | refine blk_drew ?_ | refine blk_alloc ?_ _)); exact HF.out.e4) hb8; have q48 := blk_cell e48 0; have f48 := blk_frozen e48 0)
            exact HEND.out w8 hb8 e48 _ rfl rfl
          · have e1 : ((n : Int) == (ys.length : Int)) = false := by simpa using h1
            have e2 : ((n : Int) == stop) = true := by
              rcases HN.out with h | h
              · exact absurd (by rw [h]) h1
              · rw [← h]; simp
            clear h1
            go_wp2_with (go_at_call 16; refine (topiarylaw01_awake.calls k true _ (tabW_below_ HT.out (by repeat (first | exact HBF.out | apply below_alloc | apply pw_below_drewN | apply below_drew1))) HA.out).mono ?_; rintro e w8 ⟨rfl, hb8⟩; have e48 := blk_below (by (with_reducible repeat (first | refine blk_drewN ?_ _ | refine blk_drew ?_ | refine blk_alloc ?_ _)); exact HF.out.e4) hb8; have q48 := blk_cell e48 0; have f48 := blk_frozen e48 0)
            exact HEND.out w8 hb8 e48 _ rfl rfl
        case stop =>
          rintro D2 c pre W hD2 hSp ⟨_, hno⟩ _
          exact absurd hSp hno
      clear hK_
      refine wpIn_wide.1 (wpIn_rangeFunc_ownH (n := 6) rfl (by omega) (gf := 41) (lb := #[.pointer (some ⟨g, 0, none⟩)]) rfl trivial (enters_of Tryd.func41 (by kernel_rfl) rfl)
        (goes_stops (6 - 1) (by omega) g _ vs r (by omega) W5 HBOX.out HROW.out) (fun h k => SeqKeeps.trans h k) (fun W l o o' hl h _ _ => ⟨by simp, World.putObj_heap_other (by omega), fun b e => World.putObj_heap_other (by have := hrl4 b e; omega)⟩) (Below.refl _ _) (fun _ => rfl)
        (fun pre W => HeldG w.heap.size (w.heap.size + 1) w4.heap.size (w4.heap.size + 1) w.heap.size wr.heap.size g w1.heap.size vs stop (.slice Aw r.length cw) r (pre.length : Int) stop W ∧ (pre <+: r ∧ ∀ j : Nat, j < pre.length → (j : Int) ≠ stop) ∧ W5.heap.size ≤ W.heap.size ∧ Below w.heap.size w W)
        (fun c pre W => (c = .ret → ¬ pre <+: r) ∧ (c ≠ .ret → c = .exit 2 ∧ ∃ n : Nat, (n : Int) = stop ∧ HeldG w.heap.size (w.heap.size + 1) w4.heap.size (w4.heap.size + 1) w.heap.size wr.heap.size g w1.heap.size vs stop (.slice Aw r.length cw) r (n : Int) stop W ∧ W5.heap.size ≤ W.heap.size ∧ Below w.heap.size w W))
        (fun s A B row hs hg hr => ⟨hs.1.noncells hg (fun r e => (hr r e).2), hs.2.1, Nat.le_trans hs.2.2.1 hg.size, hs.2.2.2.grown hg (by omega) (fun k e => by have := (hr k e).1; omega)⟩)
        (fun c s A B row hs hg hr => ⟨hs.1, fun hc => by obtain ⟨h1, n_, h2, h3, h4, h5⟩ := hs.2 hc; exact ⟨h1, n_, h2, h3.noncells hg (fun r e => (hr r e).2), Nat.le_trans h4 hg.size, h5.grown hg (by omega) (fun k e => by have := (hr k e).1; omega)⟩⟩)
        ⟨HH.out, ⟨List.nil_prefix, fun j h => absurd h (Nat.not_lt_zero j)⟩, Nat.le_refl _, HB5.out⟩
        (fun x a' W => ∃ Bx, W5.heap.size ≤ Bx ∧ W.heap[Bx]? = some (.cells #[.int .i64 x.f0, .int .i64 x.f1] 23 (0, 0)) ∧ a' = { tmps := #[.slice A0 l0.length c0, .int .i64 stop, undef, .pointer (some ⟨w.heap.size, 0, none⟩), .pointer (some ⟨w.heap.size + 1, 0, none⟩), .slice (some ⟨b1, 0, none⟩) l0.length cap1, .func (.func 41) #[] #[.pointer (some ⟨g, 0, none⟩)], .int .i64 (l0.length : Int), .pointer (some ⟨w4.heap.size, 0, none⟩), .pointer (some ⟨w4.heap.size + 1, 0, none⟩), .pointer (some ⟨Bx, 0, none⟩), undef, undef, .slice (some ⟨w.heap.size + 1 + 1, 0, none⟩) 0 0, .slice A0 l0.length c0, .slice (some ⟨b1, 0, none⟩) l0.length cap1, .slice (some ⟨b1, 0, none⟩) l0.length cap1, .func (.func 41) #[] #[.pointer (some ⟨g, 0, none⟩)], .func (.func 41) #[] #[.pointer (some ⟨g, 0, none⟩)], .bool false, .int .i64 (l0.length : Int), .slice (some ⟨b1, 0, none⟩) l0.length cap1, .int .i64 (l0.length : Int), .bool false, u24, u25, u26, u27, u28, u29, .slice A0 l0.length c0, .slice Aw r.length cw, .func (.func 41) #[] #[.pointer (some ⟨g, 0, none⟩)], .agg #[.int .i64 x.f0, .int .i64 x.f1], undef, undef, undef, undef, undef, undef, undef, undef, undef, undef, undef, undef, undef, undef, undef, undef, undef, undef, undef, undef, undef, undef, undef, undef, undef, undef, undef, undef, undef, undef, undef, undef, undef, undef, undef, undef, undef, undef, undef, undef, undef, undef, undef, undef, undef, undef, undef, undef, undef, undef, undef], defers := [] })
        (fun x a' _ A B row hs hg hr => by obtain ⟨Bx, h1, h2, h3⟩ := hs; exact ⟨Bx, h1, blk_noncells h2 hg (fun r e => (hr r e).2), h3⟩)
        ?assign ?body ?done ?stop)
      case assign =>
        rintro l pre x W K ⟨H, hp, hsz, hB⟩ hK
        gi_wp2
        exact hK _ _ ((KeepsOthers.alloc _ _).from _) (SeqKeeps.alloc (by omega) (fun b e => by have := hrl4 b e; omega) _) ⟨H.alloc _, hp, by simp; omega, hB.alloc hB.size _⟩ ⟨W.heap.size, hsz, blk_new _ _, rfl⟩
      case body =>
        rintro l pre x a' W hl ⟨rr, hrr⟩ ⟨H, hp, hsz, hB⟩ ⟨Bx, hBx, bX, rfl⟩ hlt
        have q0 := blk_cell bX 0
        have q1 := blk_cell bX 1
        have qn := blk_cell H.e9 0
        have qs := blk_cell H.e3 0
        have qw := blk_cell H.e8 0
        have q4 := blk_cell H.e4 0
        have f4 := blk_frozen H.e4 0
        have fn := blk_frozen H.e9 0
        by_cases hs : (pre.length : Int) = stop
        · have hs' : ((pre.length : Int) == stop) = true := beq_iff_eq.mpr hs
          have HS_ := Aside0.mk hs
          clear hs
          gi_wp2
          exact ⟨KeepsFrom.refl _ _, (fun h => by cases h), (fun _ => ⟨rfl, _, HS_.out, H, by omega, hB⟩)⟩
        · have hs' : ((pre.length : Int) == stop) = false := by simpa using hs
          have HS_ := Aside0.mk hs
          clear hs
          obtain ⟨_, hcw, hCw⟩ := Kd.R_reads' H.row
          obtain ⟨ad, hA, y0, y1⟩ := at_T23 hCw (pre.length : Int) (by omega) (by omega)
          subst hA
          simp only [Int.toNat_natCast] at y0 y1
          have mixed : Tryd.prog.follows Departure.mixedOrders = true := by kernel_rfl
          have hge : decide (r.length ≤ pre.length) = false := by simp; omega
          have hin : decide (pre.length < r.length) = true := by simp; omega
          have h0n : (0 : Int) ≤ (pre.length : Int) := by omega
          have hng : g ≠ w4.heap.size + 1 := by omega
          generalize hy : rd_T23 r (pre.length : Int) = y at y0 y1
          have HY := Aside0.mk hy
          have HH5 := Aside0.mk H
          have HCW := Aside0.mk hCw
          clear hy H hCw
          obtain ⟨xa, xb⟩ := x
          obtain ⟨ya, yb⟩ := y
          simp only at q0 q1 y0 y1
          by_cases hxy : xa = ya ∧ xb = yb
          · obtain ⟨rfl, rfl⟩ := hxy
            gi_wp2
            gi_cut [48] from 85 (fun s48 wx => s48 = .bool false ∧ ∃ nq, wx = W.drewN nq)
            case first =>
              rename_i J_ K_ hJ_ hK_
              clear HR0 HC0 HT HA HS HRS HH HROW HBOX HB5 HH5 HCW HY HS_ hp hsz hB hrr bX q4 f4 fn qs hrl2 hrb2 hrl4
              (repeat (rename_i h_; clear h_))
              gi_region_o
              all_goals
                show K_ _ _
                refine hK_ _ _ (Met.intro (hJ_ _ _ ?_))
                (repeat apply Exists.intro)
                refine ⟨?_, rfl⟩
                exact ⟨rfl, _, rfl⟩
            case rest =>
              obtain ⟨rfl, nq, rfl⟩ := hcut
              gi_wp2
              refine ⟨((keeps_drewN W nq).trans (KeepsOthers.setCell _ _ _)).from _, ⟨by simp, Below.heap_setCell (W.drewN nq) ⟨w4.heap.size + 1, 0, none⟩ _ g (by simp; omega), fun b e => Below.heap_setCell (W.drewN nq) ⟨w4.heap.size + 1, 0, none⟩ _ b (by have := hrl4 b e; simp; omega)⟩, ?_, ⟨pre_snoc hp.1 hlt HY.out, fun j hj => ?_⟩, by simp; omega, ?_⟩
              · rw [show ((pre ++ [(⟨xa, xb⟩ : S23)]).length : Int) = (pre.length : Int) + 1 from by simp]
                exact (HH5.out.drewN nq).put (by omega) (by omega) (by omega) (by omega) (by omega) _
              · by_cases e : j = pre.length
                · subst e; exact HS_.out
                · exact hp.2 j (by simp at hj; omega)
              · exact (pw_below_drewN hB nq).setCell (p := ⟨w4.heap.size + 1, 0, none⟩) (by simp; omega) _
          · have hxy' : (!(xa == ya) || !(xb == yb)) = true := by
              by_cases a : xa = ya
              · have b : xb ≠ yb := fun b => hxy ⟨a, b⟩
                simp [b]
              · simp [a]
            have HXY := Aside0.mk hxy
            clear hxy
            gi_wp2
            gi_cut [48] from 85 (fun s48 wx => s48 = .bool true ∧ ∃ nq, wx = W.drewN nq)
            case first =>
              rename_i J_ K_ hJ_ hK_
              clear HR0 HC0 HT HA HS HRS HH HROW HBOX HB5 HH5 HCW HY HS_ hp hsz hB hrr bX q4 f4 fn qs hrl2 hrb2 hrl4
              (repeat (rename_i h_; clear h_))
              gi_region_o
              all_goals
                show K_ _ _
                refine hK_ _ _ (Met.intro (hJ_ _ _ ?_))
                (repeat apply Exists.intro)
                refine ⟨?_, rfl⟩
                exact ⟨rfl, _, rfl⟩
            case rest =>
              obtain ⟨rfl, nq, rfl⟩ := hcut
              gi_wp2
              refine ⟨?_, (fun _ hpx => HXY.out (by have e := (HY.out).symm.trans (pre_last hpx); simp only [S23.mk.injEq] at e; exact ⟨e.1.symm, e.2.symm⟩)), (fun h => absurd rfl h)⟩
              exact ((keeps_drewN W nq).trans (KeepsOthers.setCell _ _ _)).from _
      case done =>
        rintro D ys W hD rfl ⟨H, hp, hsz, hB⟩ hK
        exact REST D ys.length W (.inl rfl) H hsz hB hK hD
      case stop =>
        rintro D c pre W hD hSp ⟨h1, h2⟩ hK
        by_cases hc : c = .ret
        · exact absurd hSp (h1 hc)
        · obtain ⟨rfl, n, hn, H, hsz, hB⟩ := h2 hc
          refine wpIn_wide.2 ?_
          go_wp2
          exact REST D n W (.inr hn) H hsz hB hK hD
end
def topiarylaw01_IdentGoes.f (k : Nat) (l0 : List S23) (_ : Int) : Option Bool := if l0.length < 8796093022207 ∧ topiaryref01_Sort.f k l0 = some (srtS l0) ∧ topiarylaw01_awake.f k = some true then some true else none
theorem topiarylaw01_IdentGoes.calls (k : Nat) (A0 : Option Addr) (c0 : Nat) (l0 : List S23) (a1 : Int) (r : Bool) (w : World) (hr0 : Kd.C k23 w A0 l0.length l0) (hc0 : l0.length ≤ c0) (htab : TabW_ w) (h : topiarylaw01_IdentGoes.f k l0 a1 = some r) :
    Calls Tryd.prog 10 #[.slice A0 l0.length c0, .int .i64 a1] w fun e w' => e = .returned (.bool r) ∧ Below w.heap.size w w' := by
  unfold topiarylaw01_IdentGoes.f at h
  split at h
  · rename_i hh
    obtain rfl := Option.some.inj h
    exact idgoes_calls k A0 c0 l0 a1 w hr0 hc0 htab hh.1 hh.2.1 hh.2.2
  · cases h


end Go.Proofs.YtlmkgccaiihgjaaDoor.QIdentGoes
