-- Own text of this seat, laid by the session's program ownprint.py (wip/tools). Lean checks it.
import Derived.Test.YtbnhjkcpecilbaaQClockGoesx0
import Derived.Test.YtbnhjkcpecilbaaQClockGoesx1
import Derived.Test.YtbnhjkcpecilbaaQClockGoesx2
import Derived.Test.YtbnhjkcpecilbaaQClockGoesx3
namespace Go.Proofs.Ytbnhjkcpecilbaa.QClockGoes
open Go.RowKit Go.Proofs.YtbnhjkcpecilbaaW.PrintWords Go.Proofs.YtbnhjkcpecilbaaW.PrintLast Go.Proofs.YtbnhjkcpecilbaaW.PrintMore
attribute [local go_sem] max2_int min2_int max_two min_two max_three min_three max_four min_four   -- for this text's walks alone
set_option linter.unusedVariables false
set_option linter.unusedSimpArgs false

/-! ### topiarylaw02_ClockGoes: function 7 (by hand) -/
section
open Go.Shelf
attribute [local go_sem] Oper.semAt_some
set_option maxHeartbeats 2000000 in
set_option maxRecDepth 100000 in
theorem each1_in (n : Nat) (hn : 1 ≤ n) (l g base : Nat) (v : Value) (xs : List S41) (hlen : xs.length ≤ 5864062014805) (J Jx : List S41 → World → Prop)
    (hY : ∀ pre x W, J pre W → pre.length < xs.length → YieldAt Fence.wide (n - 1) Try.prog l #[.agg #[.int .i64 x.f0, .int .i64 x.f1, .int .i64 x.f2]] W fun e W' =>
      (e = .returned (.bool true) ∧ J (pre ++ [x]) W' ∧ SeqKeeps g v W W') ∨ (e = .returned (.bool false) ∧ Jx (pre ++ [x]) W'))
    (W : World) (hJ : AbidesFrom W.heap.size J) (hbox : W.heap[g]? = some (.cells #[v] 37 (0, 0))) (hrow : Kd.R k41 41 W base (fun k => k ≠ g) v xs) (h0 : J [] W) :
    CallsIn Fence.wide n Try.prog 31 #[.func (.yield l) #[] #[], .pointer (some ⟨g, 0, none⟩)] W fun e W' => (∃ v, e = .returned v) ∧
      ((∃ ys, ys = xs ∧ J ys W') ∨ (∃ pre, pre <+: xs ∧ Jx pre W')) := by
  refine callsIn_of_wp Try.func31 rfl trivial ?_ rfl
  simp only [Try.ntmps31, List.size_toArray, List.length_cons, List.length_nil, Nat.reduceAdd, Nat.reduceSub, Array.replicate_succ, Array.replicate_zero, List.push_toArray, List.append_toArray, List.nil_append, List.cons_append]
  obtain ⟨A, c, hv, hc, hC⟩ := Kd.R_reads hrow
  subst hv
  have hb0 := blk_cell hbox 0
  gi_wp2
  gi_loopw [7] (fun i wr => ∃ k : Nat, k ≤ xs.length ∧ i = .int .i64 (k : Int) ∧ J (xs.take k) wr ∧ SeqKeeps g (.slice A xs.length c) W wr) (fun i _ => xs.length - (intOf i).toNat)
  case atStart => exact ⟨0, Nat.zero_le _, rfl, h0, SeqKeeps.refl _ _ _⟩
  case round =>
    obtain ⟨k, hk, rfl, hJk, hK⟩ := hrel
    by_cases hlt : k < xs.length
    · obtain ⟨gb, cp, he, _⟩ := Kd.R_form hrow (by omega)
      have hg1 : xs.take (k + 1) = xs.take k ++ [rd_T41 xs (k : Int)] := by
        rw [List.take_succ_eq_append_getElem hlt]; simp [rd_T41, List.getD_eq_getElem?_getD, hlt]
      obtain ⟨ad, hA, x0, x1, x2⟩ := at_T41 hC (k : Int) (by omega) (by omega)
      subst hA
      simp only [Value.slice.injEq, Option.some.injEq] at he
      obtain ⟨rfl, _, rfl⟩ := he
      have hrb : wr.heap[gb]? = W.heap[gb]? := hK.2.2 gb rfl
      have hkk : ((⟨gb, 0, none⟩ : Addr).add ((k : Int).toNat * 3)) = ⟨gb, k * 3, none⟩ := by rw [add_plain, Int.toNat_natCast]
      rw [hkk] at x0 x1 x2
      simp only at x1 x2
      have y0 := (cell_of_heap hrb).trans x0
      have y1 := (cell_of_heap hrb).trans x1
      have y2 := (cell_of_heap hrb).trans x2
      have hgl : g < wr.heap.size := blk_lt (hK.2.1.trans hbox)
      have hbl : ∀ b, (Value.slice (some ⟨gb, 0, none⟩) xs.length c).ownBlock = some b → b < wr.heap.size := fun b e => by
        have hlt' := Kd.R_lt hrow b e
        exact Nat.lt_of_lt_of_le hlt' hK.1
      have hJ1 := hJ (xs.take k) wr (wr.alloc (.cells #[.int .i64 (rd_T41 xs (k : Int)).f0, .int .i64 (rd_T41 xs (k : Int)).f1, .int .i64 (rd_T41 xs (k : Int)).f2] 41)) none hJk (World.grownBy_alloc _ _ _) (fun r e => by cases e)
      obtain ⟨fn, tmps, assign, body, hy, hR⟩ := hY (xs.take k) (rd_T41 xs (k : Int)) _ hJ1 (by rw [List.length_take]; omega)
      have hKa := SeqKeeps.alloc hgl hbl (.cells #[.int .i64 (rd_T41 xs (k : Int)).f0, .int .i64 (rd_T41 xs (k : Int)).f1, .int .i64 (rd_T41 xs (k : Int)).f2] 41)
      clear x0 x1 x2 hb0 hC
      gi_wp2
      refine hR.mono ?_
      rintro e W3 (⟨rfl, hJ3, hk3⟩ | ⟨rfl, hJx3⟩)
      · gi_wp2
        go_roundw
        case rel => exact ⟨k + 1, by omega, by simp, by rw [hg1]; exact hJ3, (hK.trans hKa).trans hk3⟩
        case measure => simp [intOf]; omega
      · gi_wp2
        refine bodyPost_ret (results_none rfl _ _ _) rfl ?_
        exact ⟨⟨_, rfl⟩, .inr ⟨_, by rw [← hg1]; exact List.take_prefix _ _, hJx3⟩⟩
    · obtain rfl : k = xs.length := by omega
      gi_wp2
      go_end0
      exact ⟨⟨_, rfl⟩, .inl ⟨_, rfl, by rw [List.take_length] at hJk; exact hJk⟩⟩

theorem each_stops (n : Nat) (hn : 1 ≤ n) (g base : Nat) (v : Value) (xs : List S41) (hlen : xs.length ≤ 5864062014805) (w : World) (hbox : w.heap[g]? = some (.cells #[v] 37 (0, 0))) (hrow : Kd.R k41 41 w base (fun k => k ≠ g) v xs) :
    SeqStopsK Fence.wide n Try.prog 31 #[.pointer (some ⟨g, 0, none⟩)] (fun x : S41 => #[.agg #[.int .i64 x.f0, .int .i64 x.f1, .int .i64 x.f2]]) (SeqKeeps g v) (fun ys => ys = xs) (fun pre => pre <+: xs) xs.length w := fun l J Jx W hW hJ _ hY h0 =>
  each1_in n hn l g base v xs hlen J Jx hY W hJ (blk_below hbox hW) (Kd.R_below hrow hW) h0
theorem eqA41 (d : Nat) (w : World) (x0 y0 : Int) (x1 y1 : Int) (x2 y2 : Int) :
    (Op.equalIn (d + 2) 41 (.agg #[.int .i64 x0, .int .i64 x1, .int .i64 x2]) (.agg #[.int .i64 y0, .int .i64 y1, .int .i64 y2])).run Try.prog w = .ok (x0 == y0 && (x1 == y1 && (x2 == y2))) w := by
  refine eqA_of Try.underlying41 (by kernel_rfl) ?_
  refine eqf_cons (by rfl) (by go_simp; rfl) (by go_simp; rfl) (by go_simp) ?_
  refine eqf_cons (by rfl) (by go_simp; rfl) (by go_simp; rfl) (by go_simp) ?_
  exact eqf_last (by rfl) (by go_simp; rfl) (by go_simp; rfl) (by go_simp)
attribute [local go_sem high] eqA41
theorem eql_func_nil (f : Fn) (a b : Array Value) (w : World) : (binOp .eql 35 (.func f a b) .nilFunc).run Try.prog w = .ok (.bool false) w := by kernel_rfl
theorem pre_snoc {pre r : List S41} {x : S41} (h : pre <+: r) (hlt : pre.length < r.length) (hx : rd_T41 r (pre.length : Int) = x) : pre ++ [x] <+: r := by
  have e := List.prefix_iff_eq_take.1 h
  have e2 : r.take (pre.length + 1) = r.take pre.length ++ [r[pre.length]] := List.take_succ_eq_append_getElem hlt
  have e3 : r[pre.length] = x := by rw [← hx]; simp [rd_T41, List.getD_eq_getElem?_getD, hlt]
  rw [e3, ← e] at e2
  rw [← e2]
  exact List.take_prefix _ _
theorem pre_last {pre r : List S41} {x : S41} (h : pre ++ [x] <+: r) : rd_T41 r (pre.length : Int) = x := by
  obtain ⟨t, rfl⟩ := h
  simp [rd_T41, List.getD_eq_getElem?_getD]
theorem keeps_drewN (W : World) (m : Nat) : KeepsOthers W (W.drewN m) := ⟨Nat.le_refl _, fun _ _ h _ => h⟩
theorem heap_set_far (W : World) {b k : Nat} {v : Value} (h : k ≠ b) : (W.setCell ⟨b, 0, none⟩ v).heap[k]? = W.heap[k]? := Below.heap_setCell W ⟨b, 0, none⟩ v k h
theorem grown_set {W0 W : World} {b : Nat} (hg : W0.grownBy W (some b)) (j : Nat) (v : Value) : W0.grownBy (W.setCell ⟨b, j, none⟩ v) (some b) :=
  ⟨hg.os, hg.tape, hg.output, by simp; exact hg.size, fun k hk hne => (Below.heap_setCell W ⟨b, j, none⟩ v k (fun e => hne (by rw [e]))).trans (hg.block k hk hne)⟩
/-- What the law's own variables hold: stop, the answer, the wanted list, how many have come (and one number more). -/
structure HeldG (b3 b4 b8 b9 bn bs g bg : Nat) (vs : Value) (stop : Int) (vw : Value) (want : List S41) (n nn : Int) (W : World) : Prop where
  e3 : W.heap[b3]? = some (.cells #[.int .i64 stop] 3 (0, 0))
  e4 : W.heap[b4]? = some (.cells #[.bool false] 4 (0, 0))
  e8 : W.heap[b8]? = some (.cells #[vw] 37 (0, 0))
  e9 : W.heap[b9]? = some (.cells #[.int .i64 n] 3 (0, 0))
  en : W.heap[bn]? = some (.cells #[.int .i64 nn] 3 (0, 0))
  row : Kd.R k41 41 W bs (fun _ => True) vw want
  eg : W.heap[g]? = some (.cells #[vs] 37 (0, 0))
  rowg : Kd.R k41 41 W bg (fun k => k ≠ g) vs want
section
variable {b3 b4 b8 b9 bn bs g bg : Nat} {vs : Value} {stop : Int} {vw : Value} {want : List S41} {n nn : Int} {W : World}
theorem HeldG.noncells {W' : World} {row : Option Nat} (h : HeldG b3 b4 b8 b9 bn bs g bg vs stop vw want n nn W) (hg : W.grownBy W' row) (hr : ∀ r, row = some r → ∃ o : Obj, W.heap[r]? = some o ∧ o.isCells = false) : HeldG b3 b4 b8 b9 bn bs g bg vs stop vw want n nn W' :=
  ⟨blk_noncells h.e3 hg hr, blk_noncells h.e4 hg hr, blk_noncells h.e8 hg hr, blk_noncells h.e9 hg hr, blk_noncells h.en hg hr, R_noncells h.row hg hr, blk_noncells h.eg hg hr, R_noncells h.rowg hg hr⟩
theorem HeldG.alloc (h : HeldG b3 b4 b8 b9 bn bs g bg vs stop vw want n nn W) (o : Obj) : HeldG b3 b4 b8 b9 bn bs g bg vs stop vw want n nn (W.alloc o) :=
  ⟨blk_alloc h.e3 _, blk_alloc h.e4 _, blk_alloc h.e8 _, blk_alloc h.e9 _, blk_alloc h.en _, Kd.R_alloc h.row _, blk_alloc h.eg _, Kd.R_alloc h.rowg _⟩
theorem HeldG.drewN (h : HeldG b3 b4 b8 b9 bn bs g bg vs stop vw want n nn W) (m : Nat) : HeldG b3 b4 b8 b9 bn bs g bg vs stop vw want n nn (W.drewN m) :=
  ⟨blk_drewN h.e3 _, blk_drewN h.e4 _, blk_drewN h.e8 _, blk_drewN h.e9 _, blk_drewN h.en _, Kd.R_drewN h.row _, blk_drewN h.eg _, Kd.R_drewN h.rowg _⟩
theorem HeldG.put (h : HeldG b3 b4 b8 b9 bn bs g bg vs stop vw want n nn W) (h3 : b3 ≠ b9) (h4 : b4 ≠ b9) (h8 : b8 ≠ b9) (hn : bn ≠ b9) (hg : g ≠ b9) (m : Int) : HeldG b3 b4 b8 b9 bn bs g bg vs stop vw want m nn (W.setCell ⟨b9, 0, none⟩ (.int .i64 m)) :=
  ⟨(Below.heap_setCell W ⟨b9, 0, none⟩ _ b3 h3).trans h.e3, (Below.heap_setCell W ⟨b9, 0, none⟩ _ b4 h4).trans h.e4, (Below.heap_setCell W ⟨b9, 0, none⟩ _ b8 h8).trans h.e8, blk_put (cs' := #[.int .i64 m]) h.e9 0 _ rfl, (Below.heap_setCell W ⟨b9, 0, none⟩ _ bn hn).trans h.en,
    Kd.R_mono (Kd.R_far (p := ⟨b9, 0, none⟩) (Kd.R_types h.row h.e9 (by decide)) (fun _ hk => hk.2) _) (fun _ _ => trivial), (Below.heap_setCell W ⟨b9, 0, none⟩ _ g hg).trans h.eg, Kd.R_mono (Kd.R_far (p := ⟨b9, 0, none⟩) (Kd.R_types h.rowg h.e9 (by decide)) (fun _ hk => hk.2) _) (fun _ hk => hk.1)⟩
end
theorem rowI_cells {W : World} {base g n cap : Nat} {ok : Nat → Prop} {xs : List Int} (h : Kd.R (Kd.int .i64) 3 W base ok (.slice (some ⟨g, 0, none⟩) n cap) xs) :
    ∃ cur, W.heap[g]? = some (.cells cur 3 (0, 0)) ∧ n = xs.length ∧ n ≤ cap ∧ cap ≤ maxLen ∧ cur.size = cap * 1 ∧ base ≤ g ∧ ok g := by
  obtain ⟨h0, inner, ⟨hlen, hr⟩, hrep⟩ := h
  rcases hr with ⟨e, _⟩ | ⟨g', cap', cur, e, hg, hh, hnc, hcm, hcs, htk⟩
  · simp at e
  · simp only [Value.slice.injEq, Option.some.injEq, Addr.mk.injEq] at e
    obtain ⟨⟨rfl, _⟩, hn, rfl⟩ := e
    exact ⟨cur, hh, hn, by omega, hcm, hcs, hg, h0 g (by simp [Value.ownBlock])⟩
theorem rowI_some {W : World} {base : Nat} {ok : Nat → Prop} {v : Value} {xs : List Int} (h : Kd.R (Kd.int .i64) 3 W base ok v xs) {b : Nat} (hv : v.ownBlock = some b) : ∃ cap, v = .slice (some ⟨b, 0, none⟩) xs.length cap := by
  obtain ⟨inner, ho⟩ := Kd.R_own h
  rcases ho.2 with ⟨rfl, _⟩ | ⟨g, cap, cur, rfl, _⟩
  · simp [Value.ownBlock] at hv
  · have : g = b := by simpa [Value.ownBlock] using hv
    subst this
    exact ⟨cap, rfl⟩
theorem rowI_empty (W : World) (base : Nat) (ok : Nat → Prop) (hb : base ≤ W.heap.size) (hok : ok W.heap.size) : Kd.R (Kd.int .i64) 3 (W.alloc (.cells #[] 3)) base ok (.slice (some ⟨W.heap.size, 0, none⟩) 0 0) [] := by
  refine ⟨fun k hk => ?_, [], ⟨rfl, .inr ⟨W.heap.size, 0, #[], rfl, hb, blk_new W _, Nat.le_refl _, by unfold maxLen; omega, rfl, rfl⟩⟩, rfl, fun j p hj => by simp at hj⟩
  have : W.heap.size = k := by simpa [Value.ownBlock] using hk
  subst this; exact hok
instance decS41 : DecidableEq S41 := fun x y => if h : x.f0 = y.f0 ∧ x.f1 = y.f1 ∧ x.f2 = y.f2 then isTrue (by obtain ⟨_, _, _⟩ := x; obtain ⟨_, _, _⟩ := y; obtain ⟨rfl, rfl, rfl⟩ := h; rfl) else isFalse (fun e => h (by rw [e]; exact ⟨rfl, rfl, rfl⟩))
set_option maxHeartbeats 32000000 in
set_option maxRecDepth 100000 in
theorem clgoes_calls (k : Nat) (A0 : Option Addr) (c0 : Nat) (l0 : List Int) (A1 : Option Addr) (c1 : Nat) (l1 : List Int) (stop : Int) (r : List S41) (rc : Int) (w : World) (hr0 : Kd.C (Kd.int .i64) w A0 l0.length l0) (hc0 : l0.length ≤ c0) (hr1 : Kd.C (Kd.int .i64) w A1 l1.length l1) (hc1 : l1.length ≤ c1) (hl0 : l0.length * 8 ≤ 140737488351232) (hl1 : l1.length * 8 ≤ 140737488351232) (hls : r.length ≤ 5864062014000) (hE : clock_Each.f k l0 l1 = some r) (hS : topiaryref02_Gaps.f k l0 l1 = some (r, rc)) (hA : topiarylaw02_awake.f k = some true) :
    Calls Try.prog 7 #[.slice A0 l0.length c0, .slice A1 l1.length c1, .int .i64 stop] w fun e w' => e = .returned (.bool true) ∧ Below w.heap.size w w' := by
  have HR0 := Aside0.mk hr0
  have HC0 := Aside0.mk hc0
  have HR1 := Aside0.mk hr1
  have HC1 := Aside0.mk hc1
  have HE := Aside0.mk hE
  have HS := Aside0.mk hS
  have HA := Aside0.mk hA
  clear hr0 hc0 hr1 hc1 hE hS hA
  refine (callsIn_wide (n := 6)).1 ?_
  refine callsIn_of_wp_marks Try.func7 rfl trivial ?_ rfl
  simp only [Try.ntmps7, List.size_toArray, List.length_cons, List.length_nil, Nat.reduceAdd, Nat.reduceSub, Array.replicate_succ, Array.replicate_zero, List.push_toArray, List.append_toArray, List.nil_append, List.cons_append]
  refine wpIn_wide.2 ?_
  go_wp2_with (first | ((with_reducible refine gate_builtin (b := .append) (xs := #[.tmp 18, .tmp 19]) rfl ?_); at_builtin; refine Kd.R_append_rows (Kd.int .i64) (w0 := w) w.heap.size rfl (.tmp 18) (.tmp 19) 22 3 (.int .i64 0) 8 rfl Try.underlying22 info3 rfl (by decide) (by omega) (.slice (some ⟨w.heap.size + 2, 0, none⟩) 0 0) [] l0 _ _ _ (fun k_ => k_ ≠ w.heap.size ∧ k_ ≠ w.heap.size + 1) (fun _ => False) rfl rfl (by have h_ := rowI_empty ((w.alloc (.cells #[.int .i64 stop] 3)).alloc (.cells #[.bool false] 4)) w.heap.size (fun k_ => k_ ≠ w.heap.size ∧ k_ ≠ w.heap.size + 1) (by simp; omega) (by simp; omega); simpa using h_) (Kd.C_alloc (Kd.C_alloc (Kd.C_alloc HR0.out _) _) _) (fun _ _ h => h) (fun _ h => h.elim) (fun k_ hk => by simp at hk; exact ⟨by omega, by omega⟩) (below_alloc (below_alloc (below_alloc (Below.refl _ _) _) _) _) (by simp; omega) (by simp; omega) ?_; intro v1 w1 hR1 hB1 hg1 hat1; rw [List.nil_append] at hR1; obtain ⟨b1, hb1⟩ : ∃ b, v1.ownBlock = some b := hat1.elim (fun h => ⟨_, h⟩) (fun ⟨b, h, _⟩ => ⟨b, h⟩); obtain ⟨cap1, rfl⟩ := rowI_some hR1 hb1; clear hat1 hb1) | ((with_reducible refine gate_builtin (b := .append) (xs := #[.tmp 21, .tmp 22]) rfl ?_); at_builtin; refine Kd.R_append_rows (Kd.int .i64) (w0 := w1) w1.heap.size rfl (.tmp 21) (.tmp 22) 22 3 (.int .i64 0) 8 rfl Try.underlying22 info3 rfl (by decide) (by omega) (.slice (some ⟨w1.heap.size, 0, none⟩) 0 0) [] l1 _ _ _ (fun _ => True) (fun _ => False) rfl rfl (rowI_empty w1 w1.heap.size (fun _ => True) (Nat.le_refl _) trivial) (Kd.C_alloc (Kd.C_below HR1.out hB1) _) (fun _ _ h => h) (fun _ h => h.elim) (fun _ _ => trivial) (below_alloc (Below.refl _ _) _) (by simp) (by simp; omega) ?_; intro v2 w2 hR2 hB2 hg2 hat2; rw [List.nil_append] at hR2; obtain ⟨b2, hb2⟩ : ∃ b, v2.ownBlock = some b := hat2.elim (fun h => ⟨_, h⟩) (fun ⟨b, h, _⟩ => ⟨b, h⟩); obtain ⟨cap2, rfl⟩ := rowI_some hR2 hb2; clear hat2 hb2) | (go_at_call 23; have hr1 := (Kd.R_reads' (Kd.R_below hR1 hB2)); obtain ⟨_, hc1_, hC1⟩ := hr1; obtain ⟨_, hc2_, hC2⟩ := Kd.R_reads' hR2; refine (clock_Each.calls k (some ⟨b1, 0, none⟩) cap1 l0 (some ⟨b2, 0, none⟩) cap2 l1 r w2 hC1 hc1_ hC2 hc2_ HE.out).mono ?_; rintro e w3 ⟨vs, g, rfl, hrow, hbox, hge, hbel⟩; have hnil := eql_func_nil (.func 31) #[] #[.pointer (some ⟨g, 0, none⟩)] w3))
  have hR1b := Kd.R_below (Kd.R_below hR1 hB2) hbel
  have hR2b := Kd.R_below hR2 hbel
  obtain ⟨cur1, hh1, _, hcc1, _, hcs1, hge1, hok1⟩ := rowI_cells hR1b
  obtain ⟨cur2, hh2, _, hcc2, _, hcs2, hge2, _⟩ := rowI_cells hR2b
  obtain ⟨_, hh1', _⟩ := rowI_cells hR1
  obtain ⟨_, hh2', _⟩ := rowI_cells hR2
  have hlt1 : b1 < w1.heap.size := blk_lt hh1'
  have hlt2 : b2 < w2.heap.size := blk_lt hh2'
  have B3 := blk_below (blk_below (blk_grown (blk_alloc (blk_alloc (blk_new w (.cells #[.int .i64 stop] 3)) (.cells #[.bool false] 4)) (.cells #[] 3)) hg1 (by simp [Value.ownBlock])) hB2) hbel
  have B4 := blk_below (blk_below (blk_grown (blk_alloc (blk_new (w.alloc (.cells #[.int .i64 stop] 3)) (.cells #[.bool false] 4)) (.cells #[] 3)) hg1 (by simp [Value.ownBlock])) hB2) hbel
  rw [World.size_alloc] at B4
  have hB3 : Below w.heap.size w w3 := (hB1.trans (hB2.mono hB1.size)).trans (hbel.mono (Nat.le_trans hB1.size hB2.size))
  have hsz12 : w1.heap.size ≤ w2.heap.size := hB2.size
  have hsz23 : w2.heap.size ≤ w3.heap.size := hbel.size
  have hw1 : w.heap.size + 2 ≤ w1.heap.size := by have := hg1.size; simp at this; omega
  have hgl2 := blk_lt hbox
  have hrl2 := Kd.R_lt hrow
  have hrb2 := Kd.R_base hrow
  have P3 := Aside0.mk (And.intro hrow (And.intro hbox (And.intro B3 (And.intro B4 hB3))))
  have Hh1 := Aside0.mk hh1
  have Hcs1 := Aside0.mk hcs1
  have Hh2 := Aside0.mk hh2
  have Hcs2 := Aside0.mk hcs2
  clear hrow hbox B3 B4 hB3 hR1 hR2 hR1b hR2b hC1 hC2 hbel hB1 hB2 hg1 hg2 hh1 hh2 hcs1 hcs2 hh1' hh2' hc1_ hc2_ hnil
  go_loopw [10] (fun i wr => ∃ (i_ : Nat) (cu : Array Value), i = .int .i64 (i_ : Int) ∧ i_ ≤ l0.length ∧ Aside0 (wr.heap[b1]? = some (.cells cu 3 (0, 0))) ∧ Aside0 (cu.size = cap1 * 1) ∧ Aside0 (w3.grownBy wr (some b1))) (fun i _ => l0.length - (intOf i).toNat)
  case atStart => exact ⟨0, cur1, rfl, Nat.zero_le _, Hh1, Hcs1, ⟨World.grownBy.refl _ _⟩⟩
  case round =>
    obtain ⟨i, cu, rfl, hi, hb, hcs, hg⟩ := hrel
    by_cases hlt : i < l0.length
    · obtain ⟨x0, e0⟩ : ∃ v, cu[i]? = some v := ⟨_, Array.getElem?_eq_getElem (by have := hcs.out; omega)⟩
      have q0 : wr.cell? ⟨b1, i, none⟩ = some x0 := (blk_cell hb.out i).trans e0
      have f0 := blk_frozen hb.out i
      clear e0
      go_wp2
      go_roundw
      case rel => exact ⟨i + 1, cu.setIfInBounds i (.int .i64 99), by go_num, by omega, ⟨blk_put (cs' := cu.setIfInBounds i (.int .i64 99)) hb.out i _ rfl⟩, ⟨by simpa using hcs.out⟩, ⟨grown_set hg.out _ _⟩⟩
      case measure => simp [intOf]; omega
    · obtain rfl : i = l0.length := by omega
      have hgA := hg.out
      have hb2' := blk_grown Hh2.out hgA (fun e => by simp only [Option.some.injEq] at e; omega)
      have Hb2 := Aside0.mk hb2'
      have HgA := Aside0.mk hgA
      clear hgA hb2' hg hb hcs Hh1 Hcs1 Hh2
      obtain ⟨wa, hwa_⟩ : ∃ wa, wa = wr := ⟨_, rfl⟩
      subst hwa_
      go_wp2
      go_loopw [11] (fun i wr => ∃ (i_ : Nat) (cu : Array Value), i = .int .i64 (i_ : Int) ∧ i_ ≤ l1.length ∧ Aside0 (wr.heap[b2]? = some (.cells cu 3 (0, 0))) ∧ Aside0 (cu.size = cap2 * 1) ∧ Aside0 (wa.grownBy wr (some b2))) (fun i _ => l1.length - (intOf i).toNat)
      case atStart => exact ⟨0, cur2, rfl, Nat.zero_le _, Hb2, Hcs2, ⟨World.grownBy.refl _ _⟩⟩
      case round =>
        obtain ⟨i, cu, rfl, hi, hb, hcs, hg⟩ := hrel
        by_cases hlt : i < l1.length
        · obtain ⟨x0, e0⟩ : ∃ v, cu[i]? = some v := ⟨_, Array.getElem?_eq_getElem (by have := hcs.out; omega)⟩
          have q0 : wr.cell? ⟨b2, i, none⟩ = some x0 := (blk_cell hb.out i).trans e0
          have f0 := blk_frozen hb.out i
          clear e0
          go_wp2
          go_roundw
          case rel => exact ⟨i + 1, cu.setIfInBounds i (.int .i64 98), by go_num, by omega, ⟨blk_put (cs' := cu.setIfInBounds i (.int .i64 98)) hb.out i _ rfl⟩, ⟨by simpa using hcs.out⟩, ⟨grown_set hg.out _ _⟩⟩
          case measure => simp [intOf]; omega
        · obtain rfl : i = l1.length := by omega
          obtain ⟨hrow, hbox, B3, B4, hB⟩ := P3.out
          have hgA := HgA.out
          have hg3 := hg.out
          have hsz3a : w3.heap.size ≤ wa.heap.size := hgA.size
          have hsza : wa.heap.size ≤ wr.heap.size := hg3.size
          have hB3 : Below w.heap.size w wr := (hB.grown hgA hB.size (fun k e => by cases e; exact hge1)).grown hg3 (Nat.le_trans hB.size hsz3a) (fun k e => by cases e; omega)
          have hrow3 := Kd.R_grown2 (Kd.R_grown2 hrow rfl hgA (fun k e => by cases e; intro e'; have := hrb2 b1 e'.symm; omega)) rfl hg3 (fun k e => by cases e; intro e'; have := hrb2 b2 e'.symm; omega)
          have hbox3 := blk_grown (blk_grown hbox hgA (fun e => by simp only [Option.some.injEq] at e; omega)) hg3 (fun e => by simp only [Option.some.injEq] at e; omega)
          have B33 := blk_grown (blk_grown B3 hgA (fun e => by simp only [Option.some.injEq] at e; exact hok1.1 e.symm)) hg3 (fun e => by simp only [Option.some.injEq] at e; omega)
          have B43 := blk_grown (blk_grown B4 hgA (fun e => by simp only [Option.some.injEq] at e; exact hok1.2 e.symm)) hg3 (fun e => by simp only [Option.some.injEq] at e; omega)
          have hsz3r : w3.heap.size ≤ wr.heap.size := by omega
          have hC3 := Kd.C_below HR0.out hB3
          have hD3 := Kd.C_below HR1.out hB3
          have HP := Aside0.mk (And.intro hrow3 (And.intro hbox3 (And.intro B33 (And.intro B43 hB3))))
          clear hrow hbox B3 B4 hB hg3 hgA hrow3 hbox3 B33 B43 hB3 P3 Hb2 Hcs2 hb hcs hg HgA
          go_wp2_with (go_at_call 24; refine (topiaryref02_Gaps.calls k A0 c0 l0 A1 c1 l1 r rc wr hC3 HC0.out hD3 HC1.out HS.out).mono ?_; rintro e w4 ⟨vw, rfl, hRw, hb4⟩; obtain ⟨Aw, cw, rfl⟩ := Kd.R_slice hRw; have HRW := Aside0.mk hRw; have HB4 := Aside0.mk hb4; clear hRw hb4; have q1 := blk_cell (blk_new w4 (.cells #[.slice none 0 0] 37)) 0; have q2 := blk_frozen (blk_new w4 (.cells #[.slice none 0 0] 37)) 0)
          obtain ⟨hrow3, hbox3, B33, B43, hB3⟩ := HP.out
          have hrow4 := Kd.R_below hrow3 HB4.out
          have hbox4 := blk_below hbox3 HB4.out
          have B34 := blk_below B33 HB4.out
          have B44 := blk_below B43 HB4.out
          have hB4 : Below w.heap.size w w4 := hB3.trans (HB4.out.mono hB3.size)
          have hsz34 : wr.heap.size ≤ w4.heap.size := HB4.out.size
          have e8 := blk_alloc (blk_new w4 (.cells #[.slice Aw r.length cw] 37)) (.cells #[.int .i64 0] 3)
          have e9 := blk_new (w4.alloc (.cells #[.slice Aw r.length cw] 37)) (.cells #[.int .i64 0] 3)
          rw [World.size_alloc] at e9
          have H0 : HeldG w.heap.size (w.heap.size + 1) w4.heap.size (w4.heap.size + 1) w.heap.size wr.heap.size g w2.heap.size vs stop (.slice Aw r.length cw) r 0 stop ((w4.alloc (.cells #[.slice Aw r.length cw] 37)).alloc (.cells #[.int .i64 0] 3)) :=
            ⟨blk_alloc (blk_alloc B34 _) _, blk_alloc (blk_alloc B44 _) _, e8, e9, blk_alloc (blk_alloc B34 _) _, Kd.R_alloc (Kd.R_alloc HRW.out _) _, blk_alloc (blk_alloc hbox4 _) _, Kd.R_alloc (Kd.R_alloc hrow4 _) _⟩
          have hrow5 := Kd.R_alloc (Kd.R_alloc hrow4 (.cells #[.slice Aw r.length cw] 37)) (.cells #[.int .i64 0] 3)
          have hbox5 := blk_alloc (blk_alloc hbox4 (.cells #[.slice Aw r.length cw] 37)) (.cells #[.int .i64 0] 3)
          have hB5 : Below w.heap.size w ((w4.alloc (.cells #[.slice Aw r.length cw] 37)).alloc (.cells #[.int .i64 0] 3)) := (hB4.alloc hB4.size _).alloc (by simp; have := hB4.size; omega) _
          have hsz5 : ((w4.alloc (.cells #[.slice Aw r.length cw] 37)).alloc (.cells #[.int .i64 0] 3)).heap.size = w4.heap.size + 2 := by simp
          have hgl4 : g < w4.heap.size := by omega
          have hrl4 : ∀ b, (vs : Value).ownBlock = some b → b < w4.heap.size := fun b e => by have := hrl2 b e; omega
          generalize (w4.alloc (.cells #[.slice Aw r.length cw] 37)).alloc (.cells #[.int .i64 0] 3) = W5 at H0 hrow5 hbox5 hB5 hsz5 ⊢
          have HH := Aside0.mk H0
          have HROW := Aside0.mk hrow5
          have HBOX := Aside0.mk hbox5
          have HB5 := Aside0.mk hB5
          clear hrow3 hbox3 B33 B43 hB3 hrow4 hbox4 B34 B44 hB4 e8 e9 HP HRW HB4 q1 q2 hC3 hD3 H0 hrow5 hbox5 hB5
          have hw4 : w.heap.size + 2 ≤ w4.heap.size := by omega
          rename_i K_ hK_
          have REST : ∀ (D n : Nat) (W6 : World), (n = r.length ∨ (n : Int) = stop) → HeldG w.heap.size (w.heap.size + 1) w4.heap.size (w4.heap.size + 1) w.heap.size wr.heap.size g w2.heap.size vs stop (.slice Aw r.length cw) r (n : Int) stop W6 → W5.heap.size ≤ W6.heap.size → Below w.heap.size w W6 → W6.heap[D]? = some (.deferred (some [])) → W5.heap.size ≤ D → K_ { tmps := #[.slice A0 l0.length c0, .slice A1 l1.length c1, .int .i64 stop, undef, undef, .pointer (some ⟨w.heap.size, 0, none⟩), .pointer (some ⟨w.heap.size + 1, 0, none⟩), .slice (some ⟨b1, 0, none⟩) l0.length cap1, .slice (some ⟨b2, 0, none⟩) l1.length cap2, .func (.func 31) #[] #[.pointer (some ⟨g, 0, none⟩)], .int .i64 (l0.length : Int), .int .i64 (l1.length : Int), .pointer (some ⟨w4.heap.size, 0, none⟩), .int .i64 rc, .pointer (some ⟨w4.heap.size + 1, 0, none⟩), undef, undef, undef, .slice (some ⟨w.heap.size + 1 + 1, 0, none⟩) 0 0, .slice A0 l0.length c0, .slice (some ⟨b1, 0, none⟩) l0.length cap1, .slice (some ⟨w1.heap.size, 0, none⟩) 0 0, .slice A1 l1.length c1, .slice (some ⟨b2, 0, none⟩) l1.length cap2, .slice (some ⟨b1, 0, none⟩) l0.length cap1, .slice (some ⟨b2, 0, none⟩) l1.length cap2, .func (.func 31) #[] #[.pointer (some ⟨g, 0, none⟩)], .func (.func 31) #[] #[.pointer (some ⟨g, 0, none⟩)], .bool false, .int .i64 (l0.length : Int), .slice (some ⟨b1, 0, none⟩) l0.length cap1, .int .i64 (l0.length : Int), .bool false, u33, u34, u35, u36, u37, .int .i64 (l1.length : Int), .slice (some ⟨b2, 0, none⟩) l1.length cap2, .int .i64 (l1.length : Int), .bool false, u42, u43, u44, u45, u46, .tuple #[.slice Aw r.length cw, .int .i64 rc], .slice A0 l0.length c0, .slice A1 l1.length c1, .tuple #[.slice Aw r.length cw, .int .i64 rc], .slice Aw r.length cw, .int .i64 rc, .func (.func 31) #[] #[.pointer (some ⟨g, 0, none⟩)], undef, undef, undef, undef, undef, undef, undef, undef, undef, undef, undef, undef, undef, undef, undef, undef, undef, undef, undef, undef, undef, undef, undef, undef, undef, undef, undef, undef, undef, undef, undef, undef, undef, undef, undef, undef, undef, undef, undef, undef, undef, undef, undef, undef, undef, undef, undef, undef, undef, undef, undef, undef], defers := [{ target := .collected D, args := #[] }] } W6 := by
            intro D n W6 hn H hsz6 hB6 hD hleD
            refine hK_ _ _ ?_
            have HN := Aside0.mk hn
            have H6 := Aside0.mk H
            have HD := Aside0.mk hD
            have HB6 := Aside0.mk hB6
            clear hn H hD hB6
            go_wp2_with fail
            have H7 : HeldG w.heap.size (w.heap.size + 1) w4.heap.size W6.heap.size (w4.heap.size + 1) wr.heap.size g w2.heap.size vs stop (.slice Aw r.length cw) r 0 (n : Int) (W6.alloc (.cells #[.int .i64 0] 3)) := ⟨blk_alloc H6.out.e3 _, blk_alloc H6.out.e4 _, blk_alloc H6.out.e8 _, blk_new W6 _, blk_alloc H6.out.e9 _, Kd.R_alloc H6.out.row _, blk_alloc H6.out.eg _, Kd.R_alloc H6.out.rowg _⟩
            have hDlt : D < W6.heap.size := (Array.getElem?_eq_some_iff.1 HD.out).1
            have hD7 := (Below.heap_alloc W6 (.cells #[.int .i64 0] 3) D hDlt).trans HD.out
            have hB7 := HB6.out.alloc HB6.out.size (.cells #[.int .i64 0] 3)
            have hsz7 : (W6.alloc (.cells #[.int .i64 0] 3)).heap.size = W6.heap.size + 1 := by simp
            generalize W6.alloc (.cells #[.int .i64 0] 3) = W7 at H7 hD7 hB7 hsz7 ⊢
            have HH7 := Aside0.mk H7
            have HD7 := Aside0.mk hD7
            have HB7 := Aside0.mk hB7
            clear H7 hD7 hB7 HD HB6
            have hw6 : w.heap.size + 2 ≤ W6.heap.size := by omega
            have hg6 : g < W6.heap.size := by omega
            have hrl6 : ∀ b, (vs : Value).ownBlock = some b → b < W6.heap.size := fun b e => by have := hrl4 b e; omega
            refine wpIn_wide.1 (wpIn_rangeFunc_ownH (n := 6) rfl (by omega) (gf := 31) (lb := #[.pointer (some ⟨g, 0, none⟩)]) rfl trivial (enters_of Try.func31 (by kernel_rfl) rfl)
              (each_stops (6 - 1) (by omega) g _ vs r (by omega) W7 HH7.out.eg HH7.out.rowg) (fun h k => SeqKeeps.trans h k) (fun W l o o' hl h _ _ => ⟨by simp, World.putObj_heap_other (by omega), fun b e => World.putObj_heap_other (by have := hrl6 b e; omega)⟩) (Below.refl _ _) (fun _ => rfl)
              (fun pre W => HeldG w.heap.size (w.heap.size + 1) w4.heap.size W6.heap.size (w4.heap.size + 1) wr.heap.size g w2.heap.size vs stop (.slice Aw r.length cw) r (pre.length : Int) (n : Int) W ∧ pre <+: r ∧ W7.heap.size ≤ W.heap.size ∧ Below w.heap.size w W ∧ W.heap[D]? = some (.deferred (some [])))
              (fun c pre W => c = .ret ∧ ¬ pre <+: r)
              (fun s A B row hs hg hr => ⟨hs.1.noncells hg (fun r e => (hr r e).2), hs.2.1, Nat.le_trans hs.2.2.1 hg.size, hs.2.2.2.1.grown hg (by omega) (fun k e => by have := (hr k e).1; omega), (hg.block D (Array.getElem?_eq_some_iff.1 hs.2.2.2.2).1 (fun e => by have := (hr D e.symm).1; omega)).trans hs.2.2.2.2⟩)
              (fun c s A B row hs hg hr => hs)
              ⟨HH7.out, List.nil_prefix, Nat.le_refl _, HB7.out, HD7.out⟩
              (fun x a' W => ∃ Bx, W7.heap.size ≤ Bx ∧ W.heap[Bx]? = some (.cells #[.int .i64 x.f0, .int .i64 x.f1, .int .i64 x.f2] 41 (0, 0)) ∧ a' = { tmps := #[.slice A0 l0.length c0, .slice A1 l1.length c1, .int .i64 stop, undef, undef, .pointer (some ⟨w.heap.size, 0, none⟩), .pointer (some ⟨w.heap.size + 1, 0, none⟩), .slice (some ⟨b1, 0, none⟩) l0.length cap1, .slice (some ⟨b2, 0, none⟩) l1.length cap2, .func (.func 31) #[] #[.pointer (some ⟨g, 0, none⟩)], .int .i64 (l0.length : Int), .int .i64 (l1.length : Int), .pointer (some ⟨w4.heap.size, 0, none⟩), .int .i64 rc, .pointer (some ⟨w4.heap.size + 1, 0, none⟩), undef, .pointer (some ⟨W6.heap.size, 0, none⟩), .pointer (some ⟨Bx, 0, none⟩), .slice (some ⟨w.heap.size + 1 + 1, 0, none⟩) 0 0, .slice A0 l0.length c0, .slice (some ⟨b1, 0, none⟩) l0.length cap1, .slice (some ⟨w1.heap.size, 0, none⟩) 0 0, .slice A1 l1.length c1, .slice (some ⟨b2, 0, none⟩) l1.length cap2, .slice (some ⟨b1, 0, none⟩) l0.length cap1, .slice (some ⟨b2, 0, none⟩) l1.length cap2, .func (.func 31) #[] #[.pointer (some ⟨g, 0, none⟩)], .func (.func 31) #[] #[.pointer (some ⟨g, 0, none⟩)], .bool false, .int .i64 (l0.length : Int), .slice (some ⟨b1, 0, none⟩) l0.length cap1, .int .i64 (l0.length : Int), .bool false, u33, u34, u35, u36, u37, .int .i64 (l1.length : Int), .slice (some ⟨b2, 0, none⟩) l1.length cap2, .int .i64 (l1.length : Int), .bool false, u42, u43, u44, u45, u46, .tuple #[.slice Aw r.length cw, .int .i64 rc], .slice A0 l0.length c0, .slice A1 l1.length c1, .tuple #[.slice Aw r.length cw, .int .i64 rc], .slice Aw r.length cw, .int .i64 rc, .func (.func 31) #[] #[.pointer (some ⟨g, 0, none⟩)], undef, undef, undef, undef, undef, undef, undef, undef, undef, undef, undef, undef, undef, undef, undef, undef, undef, undef, .func (.func 31) #[] #[.pointer (some ⟨g, 0, none⟩)], .agg #[.int .i64 x.f0, .int .i64 x.f1, .int .i64 x.f2], undef, undef, undef, undef, undef, undef, undef, undef, undef, undef, undef, undef, undef, undef, undef, undef, undef, undef, undef, undef, undef, undef, undef, undef, undef, undef, undef, undef, undef, undef, undef, undef], defers := [] })
              (fun x a' _ A B row hs hg hr => by obtain ⟨Bx, h1, h2, h3⟩ := hs; exact ⟨Bx, h1, blk_noncells h2 hg (fun r e => (hr r e).2), h3⟩)
              ?assign ?body ?done ?stop)
            case assign =>
              rintro l pre x W K ⟨H, hp, hsz, hB, hDD⟩ hK
              gi_wp2
              exact hK _ _ ((KeepsOthers.alloc _ _).from _) (SeqKeeps.alloc (by omega) (fun b e => by have := hrl6 b e; omega) _) ⟨H.alloc _, hp, by simp; omega, hB.alloc hB.size _, (Below.heap_alloc W _ D (by omega)).trans hDD⟩ ⟨W.heap.size, hsz, blk_new _ _, rfl⟩
            case body =>
              rintro l pre x a' W hl ⟨rr, hrr⟩ ⟨H, hp, hsz, hB, hDD⟩ ⟨Bx, hBx, bX, rfl⟩ hlt
              have q0 := blk_cell bX 0
              have q1 := blk_cell bX 1
              have q2 := blk_cell bX 2
              have qn := blk_cell H.e9 0
              have qs := blk_cell H.e3 0
              have qw := blk_cell H.e8 0
              have q4 := blk_cell H.e4 0
              have f4 := blk_frozen H.e4 0
              have fn := blk_frozen H.e9 0
              obtain ⟨_, hcw, hCw⟩ := Kd.R_reads' H.row
              obtain ⟨ad, hA, y0, y1, y2⟩ := at_T41 hCw (pre.length : Int) (by omega) (by omega)
              subst hA
              simp only [Int.toNat_natCast] at y0 y1 y2
              have mixed : Try.prog.follows Departure.mixedOrders = true := by kernel_rfl
              have hge : decide (r.length ≤ pre.length) = false := by simp; omega
              have hin : decide (pre.length < r.length) = true := by simp; omega
              have h0n : (0 : Int) ≤ (pre.length : Int) := by omega
              have hng : g ≠ W6.heap.size := by omega
              generalize hy : rd_T41 r (pre.length : Int) = y at y0 y1 y2
              have HY := Aside0.mk hy
              have HH5 := Aside0.mk H
              have HCW := Aside0.mk hCw
              clear hy H hCw
              obtain ⟨xa, xb, xc⟩ := x
              obtain ⟨ya, yb, yc⟩ := y
              simp only at q0 q1 q2 y0 y1 y2
              by_cases hxy : xa = ya ∧ xb = yb ∧ xc = yc
              · obtain ⟨rfl, rfl, rfl⟩ := hxy
                gi_wp2
                gi_cut [85] from 106 (fun s64 wx => s64 = .bool false ∧ ∃ nq, wx = W.drewN nq)
                case first =>
                  rename_i J_ K_ hJ_ hK_
                  clear HR0 HC0 HR1 HC1 HE HA HS HH HROW HBOX HB5 HH5 HCW HY hp hsz hB hrr bX q4 f4 fn qs hrl2 hrb2 hrl4
                  (repeat (rename_i h_; clear h_))
                  gi_region_o
                  all_goals
                    show K_ _ _
                    refine hK_ _ _ (Met.intro (hJ_ _ _ ?_))
                    (repeat apply Exists.intro)
                    refine ⟨?_, rfl⟩
                    exact ⟨rfl, _, rfl⟩
                case rest =>
                  obtain ⟨rfl, nq, rfl⟩ := hcut
                  gi_wp2
                  refine ⟨((keeps_drewN W nq).trans (KeepsOthers.setCell _ _ _)).from _, ⟨by simp, Below.heap_setCell (W.drewN nq) ⟨W6.heap.size, 0, none⟩ _ g (by simp; omega), fun b e => Below.heap_setCell (W.drewN nq) ⟨W6.heap.size, 0, none⟩ _ b (by have := hrl4 b e; simp; omega)⟩, ?_, pre_snoc hp hlt HY.out, by simp; omega, ?_, (heap_set_far (W.drewN nq) (by omega)).trans hDD⟩
                  · rw [show ((pre ++ [(⟨xa, xb, xc⟩ : S41)]).length : Int) = (pre.length : Int) + 1 from by simp]
                    exact (HH5.out.drewN nq).put (by omega) (by omega) (by omega) (by omega) (by omega) _
                  · exact (pw_below_drewN hB nq).setCell (p := ⟨W6.heap.size, 0, none⟩) (by simp; omega) _
              · have hxy' : (!(xa == ya) || (!(xb == yb) || !(xc == yc))) = true := by
                  by_cases a : xa = ya
                  · by_cases b : xb = yb
                    · have c : xc ≠ yc := fun c => hxy ⟨a, b, c⟩
                      simp [c]
                    · simp [b]
                  · simp [a]
                have HXY := Aside0.mk hxy
                clear hxy
                gi_wp2
                gi_cut [85] from 106 (fun s64 wx => s64 = .bool true ∧ ∃ nq, wx = W.drewN nq)
                case first =>
                  rename_i J_ K_ hJ_ hK_
                  clear HR0 HC0 HR1 HC1 HE HA HS HH HROW HBOX HB5 HH5 HCW HY hp hsz hB hrr bX q4 f4 fn qs hrl2 hrb2 hrl4
                  (repeat (rename_i h_; clear h_))
                  gi_region_o
                  all_goals
                    show K_ _ _
                    refine hK_ _ _ (Met.intro (hJ_ _ _ ?_))
                    (repeat apply Exists.intro)
                    refine ⟨?_, rfl⟩
                    exact ⟨rfl, _, rfl⟩
                case rest =>
                  obtain ⟨rfl, nq, rfl⟩ := hcut
                  gi_wp2
                  refine ⟨?_, rfl, (fun hpx => HXY.out (by have e := (HY.out).symm.trans (pre_last hpx); simp only [S41.mk.injEq] at e; exact ⟨e.1.symm, e.2.1.symm, e.2.2.symm⟩))⟩
                  exact ((keeps_drewN W nq).trans (KeepsOthers.setCell _ _ _)).from _
            case done =>
              rintro D2 ys W hD2 hys ⟨H, hp, hsz, hB, hDD⟩ hK2
              subst hys
              have qk := blk_cell H.e9 0
              have qn := blk_cell H.en 0
              have qw := blk_cell H.e8 0
              have qs := blk_cell H.e3 0
              have HF := Aside0.mk H
              have HBF := Aside0.mk hB
              have HDF := Aside0.mk hDD
              have HKF := Aside0.mk hK2
              clear H hB hDD hK2
              have hend : ∀ (w8 : World), Below W.heap.size W w8 → w8.heap[w.heap.size + 1]? = some (.cells #[.bool false] 4 (0, 0)) → ∀ a : Act, a.defers = [{ target := .collected D2, args := #[] }, { target := .collected D, args := #[] }] → a.tmps[6]? = some (.pointer (some ⟨w.heap.size + 1, 0, none⟩)) → bodyPostM Fence.wide 6 Try.prog Try.f7 (fun e w' => e = Ending.returned (Value.bool true) ∧ Below w.heap.size w w') Exit.ret a (w8.setCell ⟨w.heap.size + 1, 0, none⟩ (.bool true)) := by
                intro w8 hb8 e48 a ha ht
                have hlt1 := (Array.getElem?_eq_some_iff.1 HDF.out).1
                have hlt2 := (Array.getElem?_eq_some_iff.1 HKF.out).1
                have d2 : (w8.setCell ⟨w.heap.size + 1, 0, none⟩ (.bool true)).heap[D2]? = some (.deferred (some [])) := (heap_set_far w8 (by omega)).trans ((hb8.block D2 hlt2).trans HKF.out)
                have d1 : (w8.setCell ⟨w.heap.size + 1, 0, none⟩ (.bool true)).heap[D]? = some (.deferred (some [])) := (heap_set_far w8 (by omega)).trans ((hb8.block D hlt1).trans HDF.out)
                have d1' : ((w8.setCell ⟨w.heap.size + 1, 0, none⟩ (.bool true)).putObj D2 (.deferred none)).heap[D]? = some (.deferred (some [])) := (World.putObj_heap_other (by omega)).trans d1
                have d4 := blk_put (cs' := #[.bool true]) e48 0 (.bool true) rfl
                have d4' : (((w8.setCell ⟨w.heap.size + 1, 0, none⟩ (.bool true)).putObj D2 (.deferred none)).putObj D (.deferred none)).heap[w.heap.size + 1]? = some (.cells #[.bool true] 4 (0, 0)) := (World.putObj_heap_other (by omega)).trans ((World.putObj_heap_other (by omega)).trans d4)
                have c4 := blk_cell d4' 0
                have hB8 : Below w.heap.size w (w8.setCell ⟨w.heap.size + 1, 0, none⟩ (.bool true)) := (HBF.out.trans (hb8.mono HBF.out.size)).setCell (p := ⟨w.heap.size + 1, 0, none⟩) (by simp) _
                have hB9 := hB8.grown (grownBy_putObj' _ D2 (.deferred none)) hB8.size (fun k e => by cases e; omega)
                have hB10 := hB9.grown (grownBy_putObj' _ D (.deferred none)) hB9.size (fun k e => by cases e; omega)
                show LeavesInM Fence.wide 6 Try.prog Try.f7 a.tmps _ a.defers .returning _
                rw [ha]
                refine ⟨by simp, .inl ⟨_, _, rfl, run_takeDeferred d2, ?_⟩⟩
                refine ⟨by simp, .inl ⟨_, _, rfl, run_takeDeferred d1', ?_⟩⟩
                refine ⟨.bool true, ?_, rfl, hB10⟩
                simp [results, Try.f7, go_sem, ht, c4]
              have HEND := Aside0.mk hend
              clear hend
              by_cases h1 : (n : Int) = (ys.length : Int)
              · have e1 : ((n : Int) == (ys.length : Int)) = true := beq_iff_eq.mpr h1
                clear h1
                go_wp2_with (go_at_call 17; refine (topiarylaw02_awake.calls k true _ HA.out).mono ?_; rintro e w8 ⟨rfl, hb8⟩; have e48 := blk_below (by (with_reducible repeat (first | refine blk_drewN ?_ _ | refine blk_drew ?_ | refine blk_alloc ?_ _)); exact HF.out.e4) hb8; have q48 := blk_cell e48 0; have f48 := blk_frozen e48 0)
                exact HEND.out w8 hb8 e48 _ rfl rfl
              · have e1 : ((n : Int) == (ys.length : Int)) = false := by simpa using h1
                have e2 : ((n : Int) == stop) = true := by
                  rcases HN.out with h | h
                  · exact absurd (by rw [h]) h1
                  · rw [← h]; simp
                clear h1
                go_wp2_with (go_at_call 17; refine (topiarylaw02_awake.calls k true _ HA.out).mono ?_; rintro e w8 ⟨rfl, hb8⟩; have e48 := blk_below (by (with_reducible repeat (first | refine blk_drewN ?_ _ | refine blk_drew ?_ | refine blk_alloc ?_ _)); exact HF.out.e4) hb8; have q48 := blk_cell e48 0; have f48 := blk_frozen e48 0)
                exact HEND.out w8 hb8 e48 _ rfl rfl
            case stop =>
              rintro D2 c pre W hD2 hSp ⟨_, hno⟩ _
              exact absurd hSp hno
          clear hK_
          refine wpIn_wide.1 (wpIn_rangeFunc_ownH (n := 6) rfl (by omega) (gf := 31) (lb := #[.pointer (some ⟨g, 0, none⟩)]) rfl trivial (enters_of Try.func31 (by kernel_rfl) rfl)
            (each_stops (6 - 1) (by omega) g _ vs r (by omega) W5 HBOX.out HROW.out) (fun h k => SeqKeeps.trans h k) (fun W l o o' hl h _ _ => ⟨by simp, World.putObj_heap_other (by omega), fun b e => World.putObj_heap_other (by have := hrl4 b e; omega)⟩) (Below.refl _ _) (fun _ => rfl)
            (fun pre W => HeldG w.heap.size (w.heap.size + 1) w4.heap.size (w4.heap.size + 1) w.heap.size wr.heap.size g w2.heap.size vs stop (.slice Aw r.length cw) r (pre.length : Int) stop W ∧ (pre <+: r ∧ ∀ j : Nat, j < pre.length → (j : Int) ≠ stop) ∧ W5.heap.size ≤ W.heap.size ∧ Below w.heap.size w W)
            (fun c pre W => (c = .ret → ¬ pre <+: r) ∧ (c ≠ .ret → c = .exit 4 ∧ ∃ n : Nat, (n : Int) = stop ∧ HeldG w.heap.size (w.heap.size + 1) w4.heap.size (w4.heap.size + 1) w.heap.size wr.heap.size g w2.heap.size vs stop (.slice Aw r.length cw) r (n : Int) stop W ∧ W5.heap.size ≤ W.heap.size ∧ Below w.heap.size w W))
            (fun s A B row hs hg hr => ⟨hs.1.noncells hg (fun r e => (hr r e).2), hs.2.1, Nat.le_trans hs.2.2.1 hg.size, hs.2.2.2.grown hg (by omega) (fun k e => by have := (hr k e).1; omega)⟩)
            (fun c s A B row hs hg hr => ⟨hs.1, fun hc => by obtain ⟨h1, n_, h2, h3, h4, h5⟩ := hs.2 hc; exact ⟨h1, n_, h2, h3.noncells hg (fun r e => (hr r e).2), Nat.le_trans h4 hg.size, h5.grown hg (by omega) (fun k e => by have := (hr k e).1; omega)⟩⟩)
            ⟨HH.out, ⟨List.nil_prefix, fun j h => absurd h (Nat.not_lt_zero j)⟩, Nat.le_refl _, HB5.out⟩
            (fun x a' W => ∃ Bx, W5.heap.size ≤ Bx ∧ W.heap[Bx]? = some (.cells #[.int .i64 x.f0, .int .i64 x.f1, .int .i64 x.f2] 41 (0, 0)) ∧ a' = { tmps := #[.slice A0 l0.length c0, .slice A1 l1.length c1, .int .i64 stop, undef, undef, .pointer (some ⟨w.heap.size, 0, none⟩), .pointer (some ⟨w.heap.size + 1, 0, none⟩), .slice (some ⟨b1, 0, none⟩) l0.length cap1, .slice (some ⟨b2, 0, none⟩) l1.length cap2, .func (.func 31) #[] #[.pointer (some ⟨g, 0, none⟩)], .int .i64 (l0.length : Int), .int .i64 (l1.length : Int), .pointer (some ⟨w4.heap.size, 0, none⟩), .int .i64 rc, .pointer (some ⟨w4.heap.size + 1, 0, none⟩), .pointer (some ⟨Bx, 0, none⟩), undef, undef, .slice (some ⟨w.heap.size + 1 + 1, 0, none⟩) 0 0, .slice A0 l0.length c0, .slice (some ⟨b1, 0, none⟩) l0.length cap1, .slice (some ⟨w1.heap.size, 0, none⟩) 0 0, .slice A1 l1.length c1, .slice (some ⟨b2, 0, none⟩) l1.length cap2, .slice (some ⟨b1, 0, none⟩) l0.length cap1, .slice (some ⟨b2, 0, none⟩) l1.length cap2, .func (.func 31) #[] #[.pointer (some ⟨g, 0, none⟩)], .func (.func 31) #[] #[.pointer (some ⟨g, 0, none⟩)], .bool false, .int .i64 (l0.length : Int), .slice (some ⟨b1, 0, none⟩) l0.length cap1, .int .i64 (l0.length : Int), .bool false, u33, u34, u35, u36, u37, .int .i64 (l1.length : Int), .slice (some ⟨b2, 0, none⟩) l1.length cap2, .int .i64 (l1.length : Int), .bool false, u42, u43, u44, u45, u46, .tuple #[.slice Aw r.length cw, .int .i64 rc], .slice A0 l0.length c0, .slice A1 l1.length c1, .tuple #[.slice Aw r.length cw, .int .i64 rc], .slice Aw r.length cw, .int .i64 rc, .func (.func 31) #[] #[.pointer (some ⟨g, 0, none⟩)], .agg #[.int .i64 x.f0, .int .i64 x.f1, .int .i64 x.f2], undef, undef, undef, undef, undef, undef, undef, undef, undef, undef, undef, undef, undef, undef, undef, undef, undef, undef, undef, undef, undef, undef, undef, undef, undef, undef, undef, undef, undef, undef, undef, undef, undef, undef, undef, undef, undef, undef, undef, undef, undef, undef, undef, undef, undef, undef, undef, undef, undef, undef, undef], defers := [] })
            (fun x a' _ A B row hs hg hr => by obtain ⟨Bx, h1, h2, h3⟩ := hs; exact ⟨Bx, h1, blk_noncells h2 hg (fun r e => (hr r e).2), h3⟩)
            ?assign ?body ?done ?stop)
          case assign =>
            rintro l pre x W K ⟨H, hp, hsz, hB⟩ hK
            gi_wp2
            exact hK _ _ ((KeepsOthers.alloc _ _).from _) (SeqKeeps.alloc (by omega) (fun b e => by have := hrl4 b e; omega) _) ⟨H.alloc _, hp, by simp; omega, hB.alloc hB.size _⟩ ⟨W.heap.size, hsz, blk_new _ _, rfl⟩
          case body =>
            rintro l pre x a' W hl ⟨rr, hrr⟩ ⟨H, hp, hsz, hB⟩ ⟨Bx, hBx, bX, rfl⟩ hlt
            have q0 := blk_cell bX 0
            have q1 := blk_cell bX 1
            have q2 := blk_cell bX 2
            have qn := blk_cell H.e9 0
            have qs := blk_cell H.e3 0
            have qw := blk_cell H.e8 0
            have q4 := blk_cell H.e4 0
            have f4 := blk_frozen H.e4 0
            have fn := blk_frozen H.e9 0
            by_cases hs : (pre.length : Int) = stop
            · have hs' : ((pre.length : Int) == stop) = true := beq_iff_eq.mpr hs
              have HS_ := Aside0.mk hs
              clear hs
              gi_wp2
              exact ⟨KeepsFrom.refl _ _, (fun h => by cases h), (fun _ => ⟨rfl, _, HS_.out, H, by omega, hB⟩)⟩
            · have hs' : ((pre.length : Int) == stop) = false := by simpa using hs
              have HS_ := Aside0.mk hs
              clear hs
              obtain ⟨_, hcw, hCw⟩ := Kd.R_reads' H.row
              obtain ⟨ad, hA, y0, y1, y2⟩ := at_T41 hCw (pre.length : Int) (by omega) (by omega)
              subst hA
              simp only [Int.toNat_natCast] at y0 y1 y2
              have mixed : Try.prog.follows Departure.mixedOrders = true := by kernel_rfl
              have hge : decide (r.length ≤ pre.length) = false := by simp; omega
              have hin : decide (pre.length < r.length) = true := by simp; omega
              have h0n : (0 : Int) ≤ (pre.length : Int) := by omega
              have hng : g ≠ w4.heap.size + 1 := by omega
              generalize hy : rd_T41 r (pre.length : Int) = y at y0 y1 y2
              have HY := Aside0.mk hy
              have HH5 := Aside0.mk H
              have HCW := Aside0.mk hCw
              clear hy H hCw
              obtain ⟨xa, xb, xc⟩ := x
              obtain ⟨ya, yb, yc⟩ := y
              simp only at q0 q1 q2 y0 y1 y2
              by_cases hxy : xa = ya ∧ xb = yb ∧ xc = yc
              · obtain ⟨rfl, rfl, rfl⟩ := hxy
                gi_wp2
                gi_cut [69] from 106 (fun s48 wx => s48 = .bool false ∧ ∃ nq, wx = W.drewN nq)
                case first =>
                  rename_i J_ K_ hJ_ hK_
                  clear HR0 HC0 HR1 HC1 HE HA HS HH HROW HBOX HB5 HH5 HCW HY HS_ hp hsz hB hrr bX q4 f4 fn qs hrl2 hrb2 hrl4
                  (repeat (rename_i h_; clear h_))
                  gi_region_o
                  all_goals
                    show K_ _ _
                    refine hK_ _ _ (Met.intro (hJ_ _ _ ?_))
                    (repeat apply Exists.intro)
                    refine ⟨?_, rfl⟩
                    exact ⟨rfl, _, rfl⟩
                case rest =>
                  obtain ⟨rfl, nq, rfl⟩ := hcut
                  gi_wp2
                  refine ⟨((keeps_drewN W nq).trans (KeepsOthers.setCell _ _ _)).from _, ⟨by simp, Below.heap_setCell (W.drewN nq) ⟨w4.heap.size + 1, 0, none⟩ _ g (by simp; omega), fun b e => Below.heap_setCell (W.drewN nq) ⟨w4.heap.size + 1, 0, none⟩ _ b (by have := hrl4 b e; simp; omega)⟩, ?_, ⟨pre_snoc hp.1 hlt HY.out, fun j hj => ?_⟩, by simp; omega, ?_⟩
                  · rw [show ((pre ++ [(⟨xa, xb, xc⟩ : S41)]).length : Int) = (pre.length : Int) + 1 from by simp]
                    exact (HH5.out.drewN nq).put (by omega) (by omega) (by omega) (by omega) (by omega) _
                  · by_cases e : j = pre.length
                    · subst e; exact HS_.out
                    · exact hp.2 j (by simp at hj; omega)
                  · exact (pw_below_drewN hB nq).setCell (p := ⟨w4.heap.size + 1, 0, none⟩) (by simp; omega) _
              · have hxy' : (!(xa == ya) || (!(xb == yb) || !(xc == yc))) = true := by
                  by_cases a : xa = ya
                  · by_cases b : xb = yb
                    · have c : xc ≠ yc := fun c => hxy ⟨a, b, c⟩
                      simp [c]
                    · simp [b]
                  · simp [a]
                have HXY := Aside0.mk hxy
                clear hxy
                gi_wp2
                gi_cut [69] from 106 (fun s48 wx => s48 = .bool true ∧ ∃ nq, wx = W.drewN nq)
                case first =>
                  rename_i J_ K_ hJ_ hK_
                  clear HR0 HC0 HR1 HC1 HE HA HS HH HROW HBOX HB5 HH5 HCW HY HS_ hp hsz hB hrr bX q4 f4 fn qs hrl2 hrb2 hrl4
                  (repeat (rename_i h_; clear h_))
                  gi_region_o
                  all_goals
                    show K_ _ _
                    refine hK_ _ _ (Met.intro (hJ_ _ _ ?_))
                    (repeat apply Exists.intro)
                    refine ⟨?_, rfl⟩
                    exact ⟨rfl, _, rfl⟩
                case rest =>
                  obtain ⟨rfl, nq, rfl⟩ := hcut
                  gi_wp2
                  refine ⟨?_, (fun _ hpx => HXY.out (by have e := (HY.out).symm.trans (pre_last hpx); simp only [S41.mk.injEq] at e; exact ⟨e.1.symm, e.2.1.symm, e.2.2.symm⟩)), (fun h => absurd rfl h)⟩
                  exact ((keeps_drewN W nq).trans (KeepsOthers.setCell _ _ _)).from _
          case done =>
            rintro D ys W hD rfl ⟨H, hp, hsz, hB⟩ hK
            exact REST D ys.length W (.inl rfl) H hsz hB hK hD
          case stop =>
            rintro D c pre W hD hSp ⟨h1, h2⟩ hK
            by_cases hc : c = .ret
            · exact absurd hSp (h1 hc)
            · obtain ⟨rfl, n, hn, H, hsz, hB⟩ := h2 hc
              refine wpIn_wide.2 ?_
              go_wp2
              exact REST D n W (.inr hn) H hsz hB hK hD
end
def topiarylaw02_ClockGoes.f (k : Nat) (l0 : List Int) (l1 : List Int) (_ : Int) : Option Bool := (clock_Each.f k l0 l1).bind fun r => (topiaryref02_Gaps.f k l0 l1).bind fun q => if l0.length * 8 ≤ 140737488351232 ∧ l1.length * 8 ≤ 140737488351232 ∧ r.length ≤ 5864062014000 ∧ r = q.1 then topiarylaw02_awake.f k else none
theorem topiarylaw02_ClockGoes.mono : ∀ a0 a1 a2 k, LeO (topiarylaw02_ClockGoes.f k a0 a1 a2) (topiarylaw02_ClockGoes.f (k + 1) a0 a1 a2) := by
  intro a0 a1 a2 k
  unfold topiarylaw02_ClockGoes.f
  refine LeO.bind (clock_Each.mono a0 a1 k) fun r => LeO.bind (topiaryref02_Gaps.mono a0 a1 k) fun q => ?_
  split
  · exact topiarylaw02_awake.mono k
  · exact LeO.refl _
theorem topiarylaw02_ClockGoes.calls (k : Nat) (A0 : Option Addr) (c0 : Nat) (l0 : List Int) (A1 : Option Addr) (c1 : Nat) (l1 : List Int) (a2 : Int) (w : World) (hr0 : Kd.C (Kd.int .i64) w A0 l0.length l0) (hc0 : l0.length ≤ c0) (hr1 : Kd.C (Kd.int .i64) w A1 l1.length l1) (hc1 : l1.length ≤ c1) (h : topiarylaw02_ClockGoes.f k l0 l1 a2 = some true) :
    Calls Try.prog 7 #[.slice A0 l0.length c0, .slice A1 l1.length c1, .int .i64 a2] w fun e w' => e = .returned (.bool true) ∧ Below w.heap.size w w' := by
  unfold topiarylaw02_ClockGoes.f at h
  obtain ⟨r, hE, h⟩ := Option.bind_eq_some_iff.mp h
  obtain ⟨q, hS, h⟩ := Option.bind_eq_some_iff.mp h
  split at h
  · rename_i hh
    obtain ⟨q1, q2⟩ := q
    obtain ⟨hl0, hl1, hlr, rfl⟩ := hh
    exact clgoes_calls k A0 c0 l0 A1 c1 l1 a2 r q2 w hr0 hc0 hr1 hc1 hl0 hl1 hlr hE hS h
  · cases h
/-- THE ONE PURE STATEMENT of topiarylaw02_ClockGoes. -/
def topiarylaw02_ClockGoes.Pure : Prop := ∀ (l0 : List Int) (l1 : List Int) (a2 : Int), l0.length ≤ maxLen → l0.length * 8 ≤ 140737488351232 → (∀ x ∈ l0, (Lit.int .i64 x).wf = true) → l1.length ≤ maxLen → l1.length * 8 ≤ 140737488351232 → (∀ x ∈ l1, (Lit.int .i64 x).wf = true) → (Lit.int .i64 a2).wf = true → ∃ k, topiarylaw02_ClockGoes.f k l0 l1 a2 = some true
theorem topiarylaw02_ClockGoes.walk (P : topiarylaw02_ClockGoes.Pure) (a0 : Option Addr) (len0 cap0 : Nat) (z0 : List Int) (a1 : Option Addr) (len1 cap1 : Nat) (z1 : List Int) (a2 : Int) (w : World) (w0 : (a0 = none ∧ len0 = 0 ∧ cap0 = 0 ∧ z0 = []) ∨ ∃ x, a0 = some x ∧ len0 ≤ cap0 ∧ cap0 ≤ maxLen ∧ z0.length = cap0 ∧ (∀ i, i < z0.length → w.cell? (x.add i) = some (.int .i64 (z0.getD i 0))) ∧ ∀ n ∈ z0, (Lit.int .i64 n).wf = true) (y0 : len0 * 8 ≤ 140737488351232) (w1 : (a1 = none ∧ len1 = 0 ∧ cap1 = 0 ∧ z1 = []) ∨ ∃ x, a1 = some x ∧ len1 ≤ cap1 ∧ cap1 ≤ maxLen ∧ z1.length = cap1 ∧ (∀ i, i < z1.length → w.cell? (x.add i) = some (.int .i64 (z1.getD i 0))) ∧ ∀ n ∈ z1, (Lit.int .i64 n).wf = true) (y1 : len1 * 8 ≤ 140737488351232) (w2 : (Lit.int .i64 a2).wf = true) :
    Calls Try.prog 7 #[.slice a0 len0 cap0, .slice a1 len1 cap1, .int .i64 a2] w fun e w' => e = .returned (.bool true) ∧ Below w.heap.size w w' := by
  obtain ⟨l0, rfl, hr0, hm0, hw0, hc0⟩ := ReadsInt.ofRowC w0
  obtain ⟨l1, rfl, hr1, hm1, hw1, hc1⟩ := ReadsInt.ofRowC w1
  obtain ⟨k, h⟩ := P l0 l1 a2 hm0 y0 hw0 hm1 y1 hw1 w2
  refine (topiarylaw02_ClockGoes.calls k _ _ l0 _ _ l1 a2 w (Kd.C_of_reads (d := (0 : Int)) (h1 := fun _ => rfl) hr0) hc0 (Kd.C_of_reads (d := (0 : Int)) (h1 := fun _ => rfl) hr1) hc1 h).mono ?_
  rintro e w' ⟨rfl, hd⟩
  exact ⟨rfl, hd⟩


end Go.Proofs.Ytbnhjkcpecilbaa.QClockGoes
