-- Own text of this seat, laid by the session's program ownprint.py (wip/tools). Lean checks it.
import Derived.Test.YtaogeajjidnfgaaQPatchTouchesx0
import Derived.Test.YtaogeajjidnfgaaQPatchTouchesx1
import Derived.Test.YtaogeajjidnfgaaQPatchTouchesx2
import Derived.Test.YtaogeajjidnfgaaQPatchTouchesx3
namespace Go.Proofs.Ytaogeajjidnfgaa.QPatchTouches
open Go.RowKit Go.Proofs.YtaogeajjidnfgaaW.PrintWords Go.Proofs.YtaogeajjidnfgaaW.PrintLast Go.Proofs.YtaogeajjidnfgaaW.PrintMore
attribute [local go_sem] max2_int min2_int max_two min_two max_three min_three max_four min_four   -- for this text's walks alone
set_option linter.unusedVariables false
set_option linter.unusedSimpArgs false

/-! ### topiarylaw17_awake: function 11 (by hand) -/
/-! blocks -/
theorem blk_grownx {w w' : World} {g : Nat} {o : Obj} {row : Option Nat} (h : w.heap[g]? = some o) (hg : w.grownBy w' row) (hr : ¬ row = some g) : w'.heap[g]? = some o := (hg.block g (Array.getElem?_eq_some_iff.1 h).1 (fun e => hr e.symm)).trans h
theorem blk_belowx {w w' : World} {g : Nat} {o : Obj} (h : w.heap[g]? = some o) (hb : Below w.heap.size w w') : w'.heap[g]? = some o := (hb.block g (Array.getElem?_eq_some_iff.1 h).1).trans h
theorem blk_any {w : World} {g : Nat} {o : Obj} (h : w.heap[g]? = some o) (o' : Obj) : (w.alloc o').heap[g]? = some o := (Below.heap_alloc w o' g (Array.getElem?_eq_some_iff.1 h).1).trans h
theorem blk_set_far {w : World} {k g : Nat} {o : Obj} (h : w.heap[k]? = some o) (e : k ≠ g) (v : Value) : (w.setCell ⟨g, 0, none⟩ v).heap[k]? = some o := by rw [Below.heap_setCell w ⟨g, 0, none⟩ v k e]; exact h
/-! maps whose keys are stamps -/
open Go.WideMaps in
theorem K23 : KeyLaw Try.prog 23 := deep_law (m := 2) (by omega) (by kernel_rfl) (by kernel_rfl) (by kernel_rfl)
open Go.WideMaps in
theorem mlk_none {t el m c : Nat} {es : Array MapEntry} {x z : Value} {lx : Lit} {W : World} (hu : Try.prog.underlying t = some (.map 23 el)) (hb : W.heap[m]? = some (.map es c)) (hx : keyOf Try.prog 23 x = some lx) (hk : ∀ e ∈ es.toList, ∃ l, keyOf Try.prog 23 e.key = some l) (hne : ∀ e ∈ es.toList, e.key ≠ x) (hz : (zeroValue el).run Try.prog W = .ok z W) :
    (Instr.lookup t (.map (some m)) x false).run Try.prog W = .ok z W := by
  rcases K23.find W hx es.toList hk with ⟨h1, _⟩ | ⟨j, e0, _, h2, h3⟩
  · simp [Instr.lookup, run_underlying hu, MapKept.run_getObj_map hb, K23.check W _ hx, h1, hz, Result.andThen]
  · exact absurd h3 (hne e0 (List.mem_of_getElem? h2))
open Go.WideMaps in
theorem mlk_some {t el m c : Nat} {es : Array MapEntry} {x v : Value} {lx : Lit} {W : World} (hu : Try.prog.underlying t = some (.map 23 el)) (hb : W.heap[m]? = some (.map es c)) (hx : keyOf Try.prog 23 x = some lx) (hk : ∀ e ∈ es.toList, ∃ l, keyOf Try.prog 23 e.key = some l) (hv : ∀ e ∈ es.toList, e.key = x → e.val = v) (hex : ∃ e ∈ es.toList, e.key = x) :
    (Instr.lookup t (.map (some m)) x false).run Try.prog W = .ok v W := by
  rcases K23.find W hx es.toList hk with ⟨h1, h2⟩ | ⟨j, e0, h1, h2, h3⟩
  · obtain ⟨e, he, hk⟩ := hex; exact absurd hk (h2 e he)
  · have := hv e0 (List.mem_of_getElem? h2) h3
    simp [Instr.lookup, run_underlying hu, MapKept.run_getObj_map hb, K23.check W _ hx, h1, Result.andThen, this]
open Go.WideMaps in
theorem men_none {t el m c : Nat} {es : Array MapEntry} {x z : Value} {lx : Lit} {W : World} (hu : Try.prog.underlying t = some (.map 23 el)) (hb : W.heap[m]? = some (.map es c)) (hx : keyOf Try.prog 23 x = some lx) (hk : ∀ e ∈ es.toList, ∃ l, keyOf Try.prog 23 e.key = some l) (hne : ∀ e ∈ es.toList, e.key ≠ x) (hz : ∀ u : World, (zeroValue el).run Try.prog u = .ok z u) :
    (Instr.mapEntry t (.map (some m)) x).run Try.prog W = .ok (.tuple #[z, goInt c]) (W.putObj m (.map (es.push ⟨x, z, c⟩) (c + 1))) := by
  rcases K23.find W hx es.toList hk with ⟨h1, _⟩ | ⟨j, e0, _, h2, h3⟩
  · simp [Instr.mapEntry, run_underlying hu, MapKept.run_getObj_map hb, K23.check W false hx, h1, hz, MapKept.run_setObj_map _ hb, Result.andThen, World.putObj]
  · exact absurd h3 (hne e0 (List.mem_of_getElem? h2))
open Go.WideMaps in
theorem mst_new {t m c : Nat} {es : Array MapEntry} {x z v : Value} {W : World} (hb : W.heap[m]? = some (.map (es.push ⟨x, z, c⟩) (c + 1))) (hn : ∀ e ∈ es.toList, e.born ≠ c) :
    (Instr.entryStore t (.map (some m)) (goInt c) v).run Try.prog W = .ok () (W.putObj m (.map (es.push ⟨x, v, c⟩) (c + 1))) := by
  have hidx : (es.push ⟨x, z, c⟩).findIdx? (fun e => ((e.born : Nat) : Int) == ((c : Nat) : Int)) = some es.size := by
    rw [Go.WideElems.findIdx_arr]
    simp only [Array.toList_push, List.findIdx?_append]
    have h0 : es.toList.findIdx? (fun e => ((e.born : Nat) : Int) == ((c : Nat) : Int)) = none := by
      rw [List.findIdx?_eq_none_iff]
      intro e he
      have := hn e he
      simp; omega
    rw [h0]
    simp
  have hm : (es.push ⟨x, z, c⟩).modify es.size (fun e => { e with val := v }) = es.push ⟨x, v, c⟩ := by
    apply Array.ext'
    rw [Array.toList_modify, Array.toList_push, show es.size = es.toList.length from rfl, Go.WideElems.modify_last]
    simp
  simp [Instr.entryStore, MapKept.run_getObj_map hb, MapKept.run_setObj_map _ hb, hidx, hm, Result.andThen, World.putObj, goInt, asInt, asIntOf]
open Go.WideMaps in
theorem key_lit (x : Value) (h : (keyOf Try.prog 23 x).isSome = true) : ∃ l, keyOf Try.prog 23 x = some l := Option.isSome_iff_exists.1 h
open Go.WideMaps in
/-- An empty map is asked. -/
theorem mlk_empty {t el m c : Nat} {x z : Value} {W : World} (hu : Try.prog.underlying t = some (.map 23 el)) (hb : W.heap[m]? = some (.map #[] c)) (hx : (keyOf Try.prog 23 x).isSome = true) (hz : (zeroValue el).run Try.prog W = .ok z W) :
    (Instr.lookup t (.map (some m)) x false).run Try.prog W = .ok z W := by
  obtain ⟨l, hl⟩ := key_lit x hx
  exact mlk_none hu hb hl (by simp) (by simp) hz
open Go.WideMaps in
/-- The first key of an empty map: its place is made, its value stored. -/
theorem men_empty {t el m c : Nat} {x z : Value} {W : World} (hu : Try.prog.underlying t = some (.map 23 el)) (hb : W.heap[m]? = some (.map #[] c)) (hx : (keyOf Try.prog 23 x).isSome = true) (hz : ∀ u : World, (zeroValue el).run Try.prog u = .ok z u) :
    (Instr.mapEntry t (.map (some m)) x).run Try.prog W = .ok (.tuple #[z, goInt c]) (W.putObj m (.map #[⟨x, z, c⟩] (c + 1))) := by
  obtain ⟨l, hl⟩ := key_lit x hx
  exact men_none hu hb hl (by simp) (by simp) hz
theorem mst_first {t m c : Nat} {x z v : Value} {W : World} (hb : W.heap[m]? = some (.map #[⟨x, z, c⟩] (c + 1))) :
    (Instr.entryStore t (.map (some m)) (goInt c) v).run Try.prog W = .ok () (W.putObj m (.map #[⟨x, v, c⟩] (c + 1))) := mst_new (es := #[]) hb (by simp)
theorem putObj_self {W : World} {m : Nat} {o : Obj} (o' : Obj) (h : W.heap[m]? = some o) : (W.putObj m o').heap[m]? = some o' := by
  have hl := (Array.getElem?_eq_some_iff.1 h).1
  simp [World.putObj, hl]
open Go.WideMaps in
theorem mlk_one {t el m c b : Nat} {x v : Value} {W : World} (hu : Try.prog.underlying t = some (.map 23 el)) (hb : W.heap[m]? = some (.map #[⟨x, v, b⟩] c)) (hx : (keyOf Try.prog 23 x).isSome = true) :
    (Instr.lookup t (.map (some m)) x false).run Try.prog W = .ok v W := by
  obtain ⟨l, hl⟩ := key_lit x hx
  exact mlk_some hu hb hl (by simp [hl]) (by simp) ⟨⟨x, v, b⟩, by simp, rfl⟩
theorem grown_two {W : World} (m : Nat) (o o' : Obj) : W.grownBy ((W.drew.putObj m o).putObj m o') (some m) :=
  ⟨rfl, rfl, rfl, by show W.heap.size ≤ ((W.heap.setIfInBounds m o).setIfInBounds m o').size; simp, fun i hi hne => by
    have e : i ≠ m := fun e => hne (by rw [e])
    rw [World.putObj_heap_other e, World.putObj_heap_other e]; rfl⟩
theorem grown_put {w W : World} (hb : Below w.heap.size w W) (m : Nat) (o : Obj) : w.grownBy (W.putObj m o) (some m) :=
  ⟨hb.os, hb.tape, hb.output, by have := hb.size; simpa [World.putObj] using this, fun i hi hne => by
    have e : i ≠ m := fun e => hne (by rw [e])
    exact (World.putObj_heap_other e).trans (hb.block i hi)⟩
open Go.WideMaps in
theorem mup_none {t el m c : Nat} {es : Array MapEntry} {x v : Value} {lx : Lit} {W : World} (hu : Try.prog.underlying t = some (.map 23 el)) (hb : W.heap[m]? = some (.map es c)) (hx : keyOf Try.prog 23 x = some lx) (hk : ∀ e ∈ es.toList, ∃ l, keyOf Try.prog 23 e.key = some l) (hne : ∀ e ∈ es.toList, e.key ≠ x) :
    (Instr.mapUpdate t (.map (some m)) x v).run Try.prog W = .ok () (W.putObj m (.map (es.push ⟨x, v, c⟩) (c + 1))) := by
  rcases K23.find W hx es.toList hk with ⟨h1, _⟩ | ⟨j, e0, _, h2, h3⟩
  · simp [Instr.mapUpdate, run_underlying hu, MapKept.run_getObj_map hb, K23.check W false hx, h1, MapKept.run_setObj_map _ hb, Result.andThen, World.putObj]
  · exact absurd h3 (hne e0 (List.mem_of_getElem? h2))
open Go.WideMaps in
theorem mup_empty {t el m c : Nat} {x v : Value} {W : World} (hu : Try.prog.underlying t = some (.map 23 el)) (hb : W.heap[m]? = some (.map #[] c)) (hx : (keyOf Try.prog 23 x).isSome = true) :
    (Instr.mapUpdate t (.map (some m)) x v).run Try.prog W = .ok () (W.putObj m (.map #[⟨x, v, c⟩] (c + 1))) := by
  obtain ⟨l, hl⟩ := key_lit x hx
  exact mup_none hu hb hl (by simp) (by simp)
theorem mlen {m c t k e : Nat} {es : Array MapEntry} {W : World} (hu : Try.prog.underlying t = some (.map k e)) (hb : W.heap[m]? = some (.map es c)) : (Builtin.len_ #[t] 3 #[.map (some m)]).run Try.prog W = .ok (goInt es.size) W := by
  simp [Builtin.len_, run_underlying hu, MapKept.run_getObj_map hb, Result.andThen]

theorem eqPs (w : World) (a : Addr) : (binOp .eql 58 (.pointer (some a)) (.pointer (some a))).run Try.prog w = .ok (.bool true) w := run_eql_ptr_same w (te := 80) a (by kernel_rfl) (j := (Try.prog.info? 80).get (by kernel_rfl)) (Option.some_get _).symm
/-! a tree of one node, gone over -/
abbrev VN0 : Value := .agg #[.int .i64 0, .int .i64 0, .string (⟨#[114, 111, 111, 116]⟩ : ByteArray), .string (⟨#[]⟩ : ByteArray), .slice none 0 0, .slice none 0 0]
abbrev VC0 : Array Value := #[.int .i64 0, .int .i64 0, .string (⟨#[114, 111, 111, 116]⟩ : ByteArray), .string (⟨#[]⟩ : ByteArray), .slice none 0 0, .slice none 0 0]
/-- What the call's own cells from N on held, they hold. -/
def KpC (N : Nat) (A B : World) : Prop := A.heap.size ≤ B.heap.size ∧ ∀ k, N ≤ k → ∀ o, A.heap[k]? = some o → o.isCells = true → B.heap[k]? = some o
theorem KpC.trans {N : Nat} {A B C : World} (h : KpC N A B) (k : KpC N B C) : KpC N A C := ⟨Nat.le_trans h.1 k.1, fun i hi o ho hc => k.2 i hi o (h.2 i hi o ho hc) hc⟩
theorem yield_wide {m m' l : Nat} {args : Array Value} {W : World} {R : Ending → World → Prop} (h : YieldAt Fence.wide m Try.prog l args W R) : YieldAt Fence.wide m' Try.prog l args W R := by
  obtain ⟨fn, tmps, assign, body, hy, hR⟩ := h
  exact ⟨fn, tmps, assign, body, hy, hR.1, fun c cs _ => hR.2 c cs (room_wide _)⟩
section
attribute [local go_sem] Oper.semAt_some
set_option maxHeartbeats 2000000 in
set_option maxRecDepth 100000 in
theorem walk0_in (n l N : Nat) (W : World) (hN : N ≤ W.heap.size) (P1 P2 : World → Prop)
    (hY : YieldAt Fence.wide (n - 1) Try.prog l #[.int .i64 0, VN0] (W.alloc (.cells VC0 33)) fun e W' => (e = .returned (.bool true) ∧ P1 W' ∧ KpC N (W.alloc (.cells VC0 33)) W') ∨ (e = .returned (.bool false) ∧ P2 W')) :
    CallsIn Fence.wide n Try.prog 62 #[VN0, .int .i64 0, .func (.yield l) #[] #[]] W fun e W' => (e = .returned (.bool true) ∧ P1 W') ∨ (e = .returned (.bool false) ∧ P2 W') := by
  refine callsIn_of_wp Try.func62 rfl trivial ?_ rfl
  simp only [Try.ntmps62, List.size_toArray, List.length_cons, List.length_nil, Nat.reduceAdd, Nat.reduceSub, Array.replicate_succ, Array.replicate_zero, List.push_toArray, List.append_toArray, List.nil_append, List.cons_append]
  obtain ⟨fn, tmps, assign, body, hy, hR⟩ := hY
  gi_wp2
  refine ⟨fun h => by simp [Fence.wide] at h, hR.mono ?_⟩
  rintro e W3 (⟨rfl, hp, hk⟩ | ⟨rfl, hp⟩)
  · have hbx := hk.2 W.heap.size hN _ (blk_new W (.cells VC0 33)) rfl
    have c5 := blk_cell hbx 5
    gi_wp2
    gi_loopw [17] (fun i wr => i = .int .i64 0 ∧ wr = W3) (fun i _ => 0)
    case atStart => exact ⟨rfl, rfl⟩
    case round =>
      obtain ⟨rfl, rfl⟩ := hrel
      gi_wp2
      go_ret
      exact .inl ⟨rfl, hp⟩
  · gi_wp2
    go_ret
    exact .inr ⟨rfl, hp⟩
set_option maxHeartbeats 2000000 in
set_option maxRecDepth 100000 in
theorem nodes1_stops (n N : Nat) (g : Nat) (w : World) (hN : N ≤ w.heap.size) (hbox : w.heap[g]? = some (.cells VC0 33 (0, 0))) :
    SeqStopsK Fence.wide n Try.prog 61 #[.pointer (some ⟨g, 0, none⟩)] (fun _ : Unit => #[.int .i64 0, VN0]) (KpC N) (fun ys => ys = [()]) (fun pre => pre = [()]) 1 w := by
  intro l J Jx W hW hJ hJx hY h0
  refine callsIn_of_wp Try.func61 rfl trivial ?_ rfl
  simp only [Try.ntmps61, List.size_toArray, List.length_cons, List.length_nil, Nat.reduceAdd, Nat.reduceSub, Array.replicate_succ, Array.replicate_zero, List.push_toArray, List.append_toArray, List.nil_append, List.cons_append]
  have hb := blk_below hbox hW
  have c0 := blk_cell hb 0
  have c1 := blk_cell hb 1
  have c2 := blk_cell hb 2
  have c3 := blk_cell hb 3
  have c4 := blk_cell hb 4
  have c5 := blk_cell hb 5
  gi_wp2
  refine ⟨trivial, fun h => by simp [Fence.wide] at h, ?_⟩
  have hJ1 := hJ [] W (W.alloc (.cells VC0 33)) none h0 (World.grownBy_alloc _ _ _) (fun r e => by cases e)
  refine (walk0_in (n - 1) l N W (Nat.le_trans hN hW.size) (J [()]) (Jx [()]) ?_).mono ?_
  · obtain hy := hY [] () _ hJ1 (by simp)
    exact (yield_wide hy).mono fun e W' h => h
  · rintro e W' (⟨rfl, h⟩ | ⟨rfl, h⟩)
    · gi_wp2
      go_end0
      exact ⟨⟨_, rfl⟩, .inl ⟨_, rfl, h⟩⟩
    · gi_wp2
      go_end0
      exact ⟨⟨_, rfl⟩, .inr ⟨_, rfl, h⟩⟩
end
/-! steps of a region that draws -/
theorem pzp_ {P : Program} {ops : Array Oper} {Q : Exit → Act → World → Prop} {md : Region.Mode} {S : World → Prop} {ds : List Nat} {T : Bool × List (List Nat × List Nat)} {fuel : Nat} {l l' : Array Bool} {oi : Oper} {v : Value} {a a' : Act} {w : World} (i n : Nat) (HT : Aside0 (rtab md ops = T)) (h : wpAnyLast P md ops Q S ds fuel l' a' w) (hi : ops[i]? = some oi := by rfl) (hN : oi.dst = some n := by rfl) (hl : l.setIfInBounds i true = l' := by (simp only [List.setIfInBounds_toArray, List.set_cons_zero, List.set_cons_succ]; rfl)) (hc : anyT T l.toList l'.toList i = true := by kernel_rfl) (hQ : ∀ c a w, Q (.panic c) (a.put oi.dst v) w → Q (.panic c) a w := by exact fun _ _ _ h => h) (h1 : Region.wanted oi (yielded ops a.tmps) = true := by rfl) (h2 : ∀ w, (execOp a.eval oi).run P w = .ok (.value v) w := by (intro w'; go_simp; with_reducible rfl)) (ha : a.put (some n) v = a' := by (simp only [Act.put, List.setIfInBounds_toArray, List.set_cons_zero, List.set_cons_succ, i64_w, i32_w]; rfl)) : wpAnyLast P md ops Q S ds (fuel + 1) l a w := pure_ l' hi hN (any_of HT.out hc) hQ (Or.inl ⟨h1, h2⟩) ha h
theorem pzt1_ {P : Program} {ops : Array Oper} {Q : Exit → Act → World → Prop} {md : Region.Mode} {S : World → Prop} {ds : List Nat} {T : Bool × List (List Nat × List Nat)} {fuel : Nat} {l l' : Array Bool} {oi : Oper} {v : Value} {a a' : Act} {w : World} (i n : Nat) (HT : Aside0 (rtab md ops = T)) (hS : S w) (h : wpAnyLast P md ops Q S ds fuel l' a' w) (hi : ops[i]? = some oi := by rfl) (hN : oi.dst = some n := by rfl) (hl : l.setIfInBounds i true = l' := by (simp only [List.setIfInBounds_toArray, List.set_cons_zero, List.set_cons_succ]; rfl)) (hc : takeT T ds l.toList l'.toList i = true := by kernel_rfl) (hQ : ∀ c a w, Q (.panic c) (a.put oi.dst v) w → Q (.panic c) a w := by exact fun _ _ _ h => h) (h1 : Region.wanted oi (yielded ops a.tmps) = true := by rfl) (h2 : ∀ w, S w → (execOp a.eval oi).run P w = .ok (.value v) w := by (rintro w' ⟨s0⟩; go_simp; with_reducible rfl)) (ha : a.put (some n) v = a' := by (simp only [Act.put, List.setIfInBounds_toArray, List.set_cons_zero, List.set_cons_succ, i64_w, i32_w]; rfl)) : wpAnyLast P md ops Q S ds (fuel + 1) l a w := take_ l' hi hN (take_of HT.out hc) hQ (Or.inl ⟨h1, h2⟩) hS ha h
theorem pzt2_ {P : Program} {ops : Array Oper} {Q : Exit → Act → World → Prop} {md : Region.Mode} {S : World → Prop} {ds : List Nat} {T : Bool × List (List Nat × List Nat)} {fuel : Nat} {l l' : Array Bool} {oi : Oper} {v : Value} {a a' : Act} {w : World} (i n : Nat) (HT : Aside0 (rtab md ops = T)) (hS : S w) (h : wpAnyLast P md ops Q S ds fuel l' a' w) (hi : ops[i]? = some oi := by rfl) (hN : oi.dst = some n := by rfl) (hl : l.setIfInBounds i true = l' := by (simp only [List.setIfInBounds_toArray, List.set_cons_zero, List.set_cons_succ]; rfl)) (hc : takeT T ds l.toList l'.toList i = true := by kernel_rfl) (hQ : ∀ c a w, Q (.panic c) (a.put oi.dst v) w → Q (.panic c) a w := by exact fun _ _ _ h => h) (h1 : Region.wanted oi (yielded ops a.tmps) = true := by rfl) (h2 : ∀ w, S w → (execOp a.eval oi).run P w = .ok (.value v) w := by (rintro w' ⟨s0, s1⟩; go_simp; with_reducible rfl)) (ha : a.put (some n) v = a' := by (simp only [Act.put, List.setIfInBounds_toArray, List.set_cons_zero, List.set_cons_succ, i64_w, i32_w]; rfl)) : wpAnyLast P md ops Q S ds (fuel + 1) l a w := take_ l' hi hN (take_of HT.out hc) hQ (Or.inl ⟨h1, h2⟩) hS ha h
theorem pzt3_ {P : Program} {ops : Array Oper} {Q : Exit → Act → World → Prop} {md : Region.Mode} {S : World → Prop} {ds : List Nat} {T : Bool × List (List Nat × List Nat)} {fuel : Nat} {l l' : Array Bool} {oi : Oper} {v : Value} {a a' : Act} {w : World} (i n : Nat) (HT : Aside0 (rtab md ops = T)) (hS : S w) (h : wpAnyLast P md ops Q S ds fuel l' a' w) (hi : ops[i]? = some oi := by rfl) (hN : oi.dst = some n := by rfl) (hl : l.setIfInBounds i true = l' := by (simp only [List.setIfInBounds_toArray, List.set_cons_zero, List.set_cons_succ]; rfl)) (hc : takeT T ds l.toList l'.toList i = true := by kernel_rfl) (hQ : ∀ c a w, Q (.panic c) (a.put oi.dst v) w → Q (.panic c) a w := by exact fun _ _ _ h => h) (h1 : Region.wanted oi (yielded ops a.tmps) = true := by rfl) (h2 : ∀ w, S w → (execOp a.eval oi).run P w = .ok (.value v) w := by (rintro w' ⟨s0, s1, s2⟩; go_simp; with_reducible rfl)) (ha : a.put (some n) v = a' := by (simp only [Act.put, List.setIfInBounds_toArray, List.set_cons_zero, List.set_cons_succ, i64_w, i32_w]; rfl)) : wpAnyLast P md ops Q S ds (fuel + 1) l a w := take_ l' hi hN (take_of HT.out hc) hQ (Or.inl ⟨h1, h2⟩) hS ha h
theorem pzt4_ {P : Program} {ops : Array Oper} {Q : Exit → Act → World → Prop} {md : Region.Mode} {S : World → Prop} {ds : List Nat} {T : Bool × List (List Nat × List Nat)} {fuel : Nat} {l l' : Array Bool} {oi : Oper} {v : Value} {a a' : Act} {w : World} (i n : Nat) (HT : Aside0 (rtab md ops = T)) (hS : S w) (h : wpAnyLast P md ops Q S ds fuel l' a' w) (hi : ops[i]? = some oi := by rfl) (hN : oi.dst = some n := by rfl) (hl : l.setIfInBounds i true = l' := by (simp only [List.setIfInBounds_toArray, List.set_cons_zero, List.set_cons_succ]; rfl)) (hc : takeT T ds l.toList l'.toList i = true := by kernel_rfl) (hQ : ∀ c a w, Q (.panic c) (a.put oi.dst v) w → Q (.panic c) a w := by exact fun _ _ _ h => h) (h1 : Region.wanted oi (yielded ops a.tmps) = true := by rfl) (h2 : ∀ w, S w → (execOp a.eval oi).run P w = .ok (.value v) w := by (rintro w' ⟨s0, s1, s2, s3⟩; go_simp; with_reducible rfl)) (ha : a.put (some n) v = a' := by (simp only [Act.put, List.setIfInBounds_toArray, List.set_cons_zero, List.set_cons_succ, i64_w, i32_w]; rfl)) : wpAnyLast P md ops Q S ds (fuel + 1) l a w := take_ l' hi hN (take_of HT.out hc) hQ (Or.inl ⟨h1, h2⟩) hS ha h
theorem pzt5_ {P : Program} {ops : Array Oper} {Q : Exit → Act → World → Prop} {md : Region.Mode} {S : World → Prop} {ds : List Nat} {T : Bool × List (List Nat × List Nat)} {fuel : Nat} {l l' : Array Bool} {oi : Oper} {v : Value} {a a' : Act} {w : World} (i n : Nat) (HT : Aside0 (rtab md ops = T)) (hS : S w) (h : wpAnyLast P md ops Q S ds fuel l' a' w) (hi : ops[i]? = some oi := by rfl) (hN : oi.dst = some n := by rfl) (hl : l.setIfInBounds i true = l' := by (simp only [List.setIfInBounds_toArray, List.set_cons_zero, List.set_cons_succ]; rfl)) (hc : takeT T ds l.toList l'.toList i = true := by kernel_rfl) (hQ : ∀ c a w, Q (.panic c) (a.put oi.dst v) w → Q (.panic c) a w := by exact fun _ _ _ h => h) (h1 : Region.wanted oi (yielded ops a.tmps) = true := by rfl) (h2 : ∀ w, S w → (execOp a.eval oi).run P w = .ok (.value v) w := by (rintro w' ⟨s0, s1, s2, s3, s4⟩; go_simp; with_reducible rfl)) (ha : a.put (some n) v = a' := by (simp only [Act.put, List.setIfInBounds_toArray, List.set_cons_zero, List.set_cons_succ, i64_w, i32_w]; rfl)) : wpAnyLast P md ops Q S ds (fuel + 1) l a w := take_ l' hi hN (take_of HT.out hc) hQ (Or.inl ⟨h1, h2⟩) hS ha h
theorem pzt6_ {P : Program} {ops : Array Oper} {Q : Exit → Act → World → Prop} {md : Region.Mode} {S : World → Prop} {ds : List Nat} {T : Bool × List (List Nat × List Nat)} {fuel : Nat} {l l' : Array Bool} {oi : Oper} {v : Value} {a a' : Act} {w : World} (i n : Nat) (HT : Aside0 (rtab md ops = T)) (hS : S w) (h : wpAnyLast P md ops Q S ds fuel l' a' w) (hi : ops[i]? = some oi := by rfl) (hN : oi.dst = some n := by rfl) (hl : l.setIfInBounds i true = l' := by (simp only [List.setIfInBounds_toArray, List.set_cons_zero, List.set_cons_succ]; rfl)) (hc : takeT T ds l.toList l'.toList i = true := by kernel_rfl) (hQ : ∀ c a w, Q (.panic c) (a.put oi.dst v) w → Q (.panic c) a w := by exact fun _ _ _ h => h) (h1 : Region.wanted oi (yielded ops a.tmps) = true := by rfl) (h2 : ∀ w, S w → (execOp a.eval oi).run P w = .ok (.value v) w := by (rintro w' ⟨s0, s1, s2, s3, s4, s5⟩; go_simp; with_reducible rfl)) (ha : a.put (some n) v = a' := by (simp only [Act.put, List.setIfInBounds_toArray, List.set_cons_zero, List.set_cons_succ, i64_w, i32_w]; rfl)) : wpAnyLast P md ops Q S ds (fuel + 1) l a w := take_ l' hi hN (take_of HT.out hc) hQ (Or.inl ⟨h1, h2⟩) hS ha h
theorem pzt7_ {P : Program} {ops : Array Oper} {Q : Exit → Act → World → Prop} {md : Region.Mode} {S : World → Prop} {ds : List Nat} {T : Bool × List (List Nat × List Nat)} {fuel : Nat} {l l' : Array Bool} {oi : Oper} {v : Value} {a a' : Act} {w : World} (i n : Nat) (HT : Aside0 (rtab md ops = T)) (hS : S w) (h : wpAnyLast P md ops Q S ds fuel l' a' w) (hi : ops[i]? = some oi := by rfl) (hN : oi.dst = some n := by rfl) (hl : l.setIfInBounds i true = l' := by (simp only [List.setIfInBounds_toArray, List.set_cons_zero, List.set_cons_succ]; rfl)) (hc : takeT T ds l.toList l'.toList i = true := by kernel_rfl) (hQ : ∀ c a w, Q (.panic c) (a.put oi.dst v) w → Q (.panic c) a w := by exact fun _ _ _ h => h) (h1 : Region.wanted oi (yielded ops a.tmps) = true := by rfl) (h2 : ∀ w, S w → (execOp a.eval oi).run P w = .ok (.value v) w := by (rintro w' ⟨s0, s1, s2, s3, s4, s5, s6⟩; go_simp; with_reducible rfl)) (ha : a.put (some n) v = a' := by (simp only [Act.put, List.setIfInBounds_toArray, List.set_cons_zero, List.set_cons_succ, i64_w, i32_w]; rfl)) : wpAnyLast P md ops Q S ds (fuel + 1) l a w := take_ l' hi hN (take_of HT.out hc) hQ (Or.inl ⟨h1, h2⟩) hS ha h
theorem pzt8_ {P : Program} {ops : Array Oper} {Q : Exit → Act → World → Prop} {md : Region.Mode} {S : World → Prop} {ds : List Nat} {T : Bool × List (List Nat × List Nat)} {fuel : Nat} {l l' : Array Bool} {oi : Oper} {v : Value} {a a' : Act} {w : World} (i n : Nat) (HT : Aside0 (rtab md ops = T)) (hS : S w) (h : wpAnyLast P md ops Q S ds fuel l' a' w) (hi : ops[i]? = some oi := by rfl) (hN : oi.dst = some n := by rfl) (hl : l.setIfInBounds i true = l' := by (simp only [List.setIfInBounds_toArray, List.set_cons_zero, List.set_cons_succ]; rfl)) (hc : takeT T ds l.toList l'.toList i = true := by kernel_rfl) (hQ : ∀ c a w, Q (.panic c) (a.put oi.dst v) w → Q (.panic c) a w := by exact fun _ _ _ h => h) (h1 : Region.wanted oi (yielded ops a.tmps) = true := by rfl) (h2 : ∀ w, S w → (execOp a.eval oi).run P w = .ok (.value v) w := by (rintro w' ⟨s0, s1, s2, s3, s4, s5, s6, s7⟩; go_simp; with_reducible rfl)) (ha : a.put (some n) v = a' := by (simp only [Act.put, List.setIfInBounds_toArray, List.set_cons_zero, List.set_cons_succ, i64_w, i32_w]; rfl)) : wpAnyLast P md ops Q S ds (fuel + 1) l a w := take_ l' hi hN (take_of HT.out hc) hQ (Or.inl ⟨h1, h2⟩) hS ha h
theorem pzo_ {P : Program} {ops : Array Oper} {Q : Exit → Act → World → Prop} {md : Region.Mode} {S : World → Prop} {ds : List Nat} {T : Bool × List (List Nat × List Nat)} {fuel : Nat} {l l' : Array Bool} {oi : Oper} {a : Act} {w : World} (i n : Nat) (HT : Aside0 (rtab md ops = T)) (h : ∀ K : Act → World → Prop, Shut (∀ a' w', S w' → (S w' → wpAnyLast P md ops Q S ds fuel l' a' w') → K a' w') → if Region.wanted oi (yielded ops a.tmps) = true then Oper.wp P oi a w K Q else K (a.put (some n) undef) w) (hi : ops[i]? = some oi := by rfl) (hN : oi.dst = some n := by rfl) (hl : l.setIfInBounds i true = l' := by (simp only [List.setIfInBounds_toArray, List.set_cons_zero, List.set_cons_succ]; rfl)) (hc : (readyT T.2 l.toList == [i] && l.toList.set i true == l'.toList) = true := by kernel_rfl) (hd : i ∉ ds := by decide) : wpAnyLast P md ops Q S ds (fuel + 1) l a w := one_ l' hi hN (one_of HT.out hc) hd h
theorem pzn_ {P : Program} {ops : Array Oper} {Q : Exit → Act → World → Prop} {md : Region.Mode} {S : World → Prop} {ds : List Nat} {T : Bool × List (List Nat × List Nat)} {fuel : Nat} {l l' : Array Bool} {oi : Oper} {a : Act} {w : World} (i : Nat) (HT : Aside0 (rtab md ops = T)) (h : ∀ K : Act → World → Prop, Shut (∀ a' w', S w' → (S w' → wpAnyLast P md ops Q S ds fuel l' a' w') → K a' w') → if Region.wanted oi (yielded ops a.tmps) = true then Oper.wp P oi a w K Q else K (a.put none undef) w) (hi : ops[i]? = some oi := by rfl) (hN : oi.dst = none := by rfl) (hl : l.setIfInBounds i true = l' := by (simp only [List.setIfInBounds_toArray, List.set_cons_zero, List.set_cons_succ]; rfl)) (hc : (readyT T.2 l.toList == [i] && l.toList.set i true == l'.toList) = true := by kernel_rfl) (hd : i ∉ ds := by decide) : wpAnyLast P md ops Q S ds (fuel + 1) l a w := one_ l' hi hN (one_of HT.out hc) hd h
abbrev ND (b : Nat) : Array Value := #[.int .i64 0, .int .i64 0, .string (⟨#[114, 111, 111, 116]⟩ : ByteArray), .string (⟨#[]⟩ : ByteArray), .slice (some ⟨b, 0, none⟩) 0 0, .pointer none, .slice none 0 0]
/-- All blocks but some are as they were. -/
def KeptBut (R : Nat → Prop) (w w' : World) : Prop := w'.os = w.os ∧ w'.tape = w.tape ∧ w'.output = w.output ∧ w.heap.size ≤ w'.heap.size ∧ ∀ i, i < w.heap.size → ¬ R i → w'.heap[i]? = w.heap[i]?
theorem KeptBut.of_below {R : Nat → Prop} {w w' : World} (h : Below w.heap.size w w') : KeptBut R w w' := ⟨h.os, h.tape, h.output, h.size, fun i hi _ => h.block i hi⟩
theorem KeptBut.put {R : Nat → Prop} {w w' : World} (h : KeptBut R w w') {m : Nat} (o : Obj) (hm : R m) : KeptBut R w (w'.putObj m o) := ⟨h.1, h.2.1, h.2.2.1, by have := h.2.2.2.1; simpa [World.putObj] using this, fun i hi hr => (World.putObj_heap_other (by rintro rfl; exact hr hm)).trans (h.2.2.2.2 i hi hr)⟩
abbrev VP1 : Value := .agg #[.int .i64 3, .int .i64 1, .int .i64 0, .int .i64 0, .int .i64 0, .int .i64 0, .int .i64 0, .string (⟨#[112]⟩ : ByteArray), .string (⟨#[]⟩ : ByteArray)]
abbrev VQ1 : Array Value := #[.int .i64 3, .int .i64 1, .int .i64 0, .int .i64 0, .int .i64 0, .int .i64 0, .int .i64 0, .string (⟨#[112]⟩ : ByteArray), .string (⟨#[]⟩ : ByteArray)]
abbrev NE : Array Value := #[.int .i64 1, .int .i64 0, .string (⟨#[112]⟩ : ByteArray), .string (⟨#[]⟩ : ByteArray), .slice none 0 0, .pointer none, .slice none 0 0]
abbrev VP2 : Value := .agg #[.int .i64 4, .int .i64 1, .int .i64 0, .int .i64 0, .int .i64 0, .int .i64 0, .int .i64 0, .string (⟨#[]⟩ : ByteArray), .string (⟨#[]⟩ : ByteArray)]
abbrev VQ2 : Array Value := #[.int .i64 4, .int .i64 1, .int .i64 0, .int .i64 0, .int .i64 0, .int .i64 0, .int .i64 0, .string (⟨#[]⟩ : ByteArray), .string (⟨#[]⟩ : ByteArray)]
abbrev ND2 (b g cap : Nat) : Array Value := #[.int .i64 0, .int .i64 0, .string (⟨#[114, 111, 111, 116]⟩ : ByteArray), .string (⟨#[]⟩ : ByteArray), .slice (some ⟨b, 0, none⟩) 0 0, .pointer none, .slice (some ⟨g, 0, none⟩) 1 cap]
abbrev NE2 (nd : Nat) : Array Value := #[.int .i64 1, .int .i64 0, .string (⟨#[112]⟩ : ByteArray), .string (⟨#[]⟩ : ByteArray), .slice none 0 0, .pointer (some ⟨nd, 0, none⟩), .slice none 0 0]
theorem set_self {w : World} {b k : Nat} {cs : Array Value} {t : TypeId} (h : w.heap[b]? = some (.cells cs t (0, 0))) (v : Value) : (w.setCell ⟨b, k, none⟩ v).heap[b]? = some (.cells (cs.setIfInBounds k v) t (0, 0)) := by
  have hlt := lt_of_block h
  have h' : w.heap[b] = .cells cs t (0, 0) := by simpa [Array.getElem?_eq_getElem hlt] using h
  show (w.heap.modify b _)[b]? = _
  rw [Array.getElem?_eq_getElem (by simpa using hlt), Array.getElem_modify_self, h']
  rfl
theorem set_far {w : World} {b k g : Nat} {o : Obj} (h : w.heap[g]? = some o) (e : g ≠ b) (v : Value) : (w.setCell ⟨b, k, none⟩ v).heap[g]? = some o := (Below.heap_setCell w _ v g e).trans h
theorem KeptBut.setc {R : Nat → Prop} {w w' : World} (h : KeptBut R w w') {m k : Nat} (v : Value) (hm : R m) : KeptBut R w (w'.setCell ⟨m, k, none⟩ v) := ⟨h.1, h.2.1, h.2.2.1, by have := h.2.2.2.1; simpa [World.setCell] using this, fun i hi hr => (Below.heap_setCell w' _ v i (by rintro rfl; exact hr hm)).trans (h.2.2.2.2 i hi hr)⟩
theorem KeptBut.belowx {R : Nat → Prop} {w w' w'' : World} (h : KeptBut R w w') (k : Below w'.heap.size w' w'') : KeptBut R w w'' := ⟨k.os.trans h.1, k.tape.trans h.2.1, k.output.trans h.2.2.1, Nat.le_trans h.2.2.2.1 k.size, fun i hi hr => (k.block i (Nat.lt_of_lt_of_le hi h.2.2.2.1)).trans (h.2.2.2.2 i hi hr)⟩
set_option maxHeartbeats 2000000 in
set_option maxRecDepth 100000 in
theorem vnode0 (w : World) : Calls Try.prog 46 #[VN0] w fun e w' => e = .returned (.int .i64 0) ∧ Below w.heap.size w w' := by
  have HB := Aside0.mk (Below.refl w.heap.size w)
  go_enter Try.func46, Try.ntmps46
  go_wp2_with (go_at_call 29; refine (change_Name.calls 40 (⟨#[114, 111, 111, 116]⟩ : ByteArray) true _ (by kernel_rfl)).mono ?_; rintro e w' ⟨rfl, ⟨nd, rfl⟩⟩)
  have hb : Below w.heap.size w ((w.alloc (.cells VC0 33)).drewN nd) := pw_below_drewN (below_alloc HB.out _) nd
  go_loopw [22] (fun i wr => i = .int .i64 0 ∧ Below w.heap.size w wr) (fun i _ => 0)
  case atStart => exact ⟨rfl, hb⟩
  case round =>
    obtain ⟨rfl, hb'⟩ := hrel
    go_wp2
    go_ret
    exact ⟨rfl, hb'⟩
section
attribute [local go_sem] Oper.semAt_some
theorem kpc_put (N : Nat) (W : World) (l : Nat) (o o' : Obj) (hl : W.heap[l]? = some o) (h : o.isCells = false) : KpC N W (W.putObj l o') :=
  ⟨by simp, fun k _ o1 ho hc => by
    by_cases e : k = l
    · subst e; rw [hl] at ho; cases ho; rw [h] at hc; cases hc
    · rw [World.putObj_heap_other e]; exact ho⟩
theorem kpc_set (N : Nat) (W : World) (b : Nat) (v : Value) (hb : b < N) : KpC N W (W.setCell ⟨b, 0, none⟩ v) :=
  ⟨by simp, fun k hk o ho _ => by rw [Below.heap_setCell W ⟨b, 0, none⟩ v k (by simp; omega)]; exact ho⟩
theorem kpc_refl (N : Nat) (W : World) : KpC N W W := ⟨Nat.le_refl _, fun _ _ _ h _ => h⟩
set_option maxHeartbeats 2000000 in
set_option maxRecDepth 100000 in
theorem vcheck0 (w : World) : Calls Try.prog 34 #[VN0] w fun e w' => e = .returned (.int .i64 0) ∧ Below w.heap.size w w' := by
  refine (callsIn_wide (n := 6)).1 ?_
  refine callsIn_of_wp_marks Try.func34 rfl trivial ?_ rfl
  simp only [Try.ntmps34, List.size_toArray, List.length_cons, List.length_nil, Nat.reduceAdd, Nat.reduceSub, Array.replicate_succ, Array.replicate_zero, List.push_toArray, List.append_toArray, List.nil_append, List.cons_append]
  refine wpIn_wide.2 ?_
  go_wp2
  have e0 := blk_alloc (blk_alloc (blk_alloc (blk_new w (.cells VC0 33)) (.cells #[.int .i64 0] 26)) (.cells #[.int .i64 0] 3)) (.cells VC0 33)
  have e1 := blk_alloc (blk_alloc (blk_new (w.alloc (.cells VC0 33)) (.cells #[.int .i64 0] 26)) (.cells #[.int .i64 0] 3)) (.cells VC0 33)
  have e2 := blk_alloc (blk_new ((w.alloc (.cells VC0 33)).alloc (.cells #[.int .i64 0] 26)) (.cells #[.int .i64 0] 3)) (.cells VC0 33)
  have e3 := blk_new (((w.alloc (.cells VC0 33)).alloc (.cells #[.int .i64 0] 26)).alloc (.cells #[.int .i64 0] 3)) (.cells VC0 33)
  have hB : Below w.heap.size w ((((w.alloc (.cells VC0 33)).alloc (.cells #[.int .i64 0] 26)).alloc (.cells #[.int .i64 0] 3)).alloc (.cells VC0 33)) := below_alloc (below_alloc (below_alloc (below_alloc (Below.refl w.heap.size w) _) _) _) _
  have hs : ((((w.alloc (.cells VC0 33)).alloc (.cells #[.int .i64 0] 26)).alloc (.cells #[.int .i64 0] 3)).alloc (.cells VC0 33)).heap.size = w.heap.size + 4 := by simp
  simp only [World.size_alloc] at e1 e2 e3
  generalize (((w.alloc (.cells VC0 33)).alloc (.cells #[.int .i64 0] 26)).alloc (.cells #[.int .i64 0] 3)).alloc (.cells VC0 33) = W1 at e0 e1 e2 e3 hB hs ⊢
  rename_i K_ hK_
  refine wpIn_wide.1 (wpIn_rangeFunc_ownH (n := 6) rfl (by omega) (gf := 61) (lb := #[.pointer (some ⟨w.heap.size + 1 + 1 + 1, 0, none⟩)]) rfl trivial (enters_of Try.func61 (by kernel_rfl) rfl)
    (nodes1_stops (6 - 1) W1.heap.size _ W1 (Nat.le_refl _) e3) (fun h k => h.trans k) (fun W l o o' _ hl h _ => kpc_put _ W l o o' hl h) (Below.refl _ _) (fun _ => rfl)
    (fun pre W => W.heap[w.heap.size]? = some (.cells VC0 33 (0, 0)) ∧ W.heap[w.heap.size + 1]? = some (.cells #[.int .i64 0] 26 (0, 0)) ∧ W.heap[w.heap.size + 1 + 1]? = some (.cells #[.int .i64 (pre.length : Int)] 3 (0, 0)) ∧ Below w.heap.size w W ∧ W1.heap.size ≤ W.heap.size)
    (fun _ _ _ => False)
    (fun s A B row hs hg hr => ⟨blk_noncells hs.1 hg (fun r e => (hr r e).2), blk_noncells hs.2.1 hg (fun r e => (hr r e).2), blk_noncells hs.2.2.1 hg (fun r e => (hr r e).2), hs.2.2.2.1.grown hg (by omega) (fun k e => by have := (hr k e).1; omega), Nat.le_trans hs.2.2.2.2 hg.size⟩)
    (fun c s A B row hs hg hr => hs)
    ⟨e0, e1, e2, hB, Nat.le_refl _⟩
    (fun _ a' _ => a' = { tmps := #[VN0, .pointer (some ⟨w.heap.size, 0, none⟩), .pointer (some ⟨w.heap.size + 1, 0, none⟩), .pointer (some ⟨w.heap.size + 1 + 1, 0, none⟩), undef, undef, undef, undef, VN0, .func (.func 61) #[] #[.pointer (some ⟨w.heap.size + 1 + 1 + 1, 0, none⟩)], .int .i64 0, VN0, undef, undef, undef, undef, undef, undef, undef, undef, undef, undef, undef, undef, undef, undef, undef, undef, undef, undef, undef, undef, undef, undef, undef, undef, undef, undef, undef, undef, undef, undef, undef, undef, undef, undef, undef, undef, undef, undef, undef, undef, undef, undef, undef, undef], defers := [] })
    (fun x a' _ A B row hs hg hr => hs)
    ?assign ?body ?done ?stop)
  case assign =>
    rintro l pre x W K h hK
    gi_wp2
    exact hK _ _ (KeepsFrom.refl _ _) (kpc_refl _ _) h rfl
  case body =>
    rintro l pre x a' W hl ⟨r, hr⟩ ⟨q0, q1, q2, hB', hsz⟩ rfl hlt
    obtain rfl : pre = [] := List.eq_nil_of_length_eq_zero (by omega)
    have c2 := blk_cell q2 0
    have f2 := blk_frozen q2 0
    gi_wp2
    refine ⟨(KeepsOthers.setCell W _ _).from _, kpc_set _ W _ _ (by omega), ?_, ?_, ?_, ?_, ?_⟩
    · exact blk_set_far q0 (by omega) _
    · exact blk_set_far q1 (by omega) _
    · exact blk_put (cs := #[.int .i64 0]) q2 0 _ rfl
    · exact hB'.setCell (by show w.heap.size ≤ w.heap.size + 1 + 1; omega) _
    · simpa using hsz
  case done =>
    rintro D xs W hD rfl ⟨q0, q1, q2, hB', hsz⟩ hdef
    refine hK_ _ _ ?_
    have c0 := blk_cell q0 0
    have c1 := blk_cell q0 1
    have c2 := blk_cell q0 2
    have c3 := blk_cell q0 3
    have c4 := blk_cell q0 4
    have c5 := blk_cell q0 5
    have hmm := @run_makeMap Try.prog
    go_upto_region 7 with fail
    have r0 := blk_alloc (blk_alloc q0 (.map #[] 0)) (.cells #[.map (some W.heap.size)] 77)
    have r1 := blk_alloc (blk_alloc q1 (.map #[] 0)) (.cells #[.map (some W.heap.size)] 77)
    have rm : ((W.alloc (.map #[] 0)).alloc (.cells #[.map (some W.heap.size)] 77)).heap[W.heap.size]? = some (.map #[] 0) := blk_alloc (World.alloc_heap_new W (.map #[] 0)) _
    have r4 := blk_new (W.alloc (.map #[] 0)) (.cells #[.map (some W.heap.size)] 77)
    have hB2 : Below w.heap.size w ((W.alloc (.map #[] 0)).alloc (.cells #[.map (some W.heap.size)] 77)) := below_alloc (below_alloc hB' _) _
    have hs2 : ((W.alloc (.map #[] 0)).alloc (.cells #[.map (some W.heap.size)] 77)).heap.size = W.heap.size + 2 := by simp
    have hW : w.heap.size + 4 ≤ W.heap.size := by omega
    have rd := blk_any (blk_any hdef (.map #[] 0)) (.cells #[.map (some W.heap.size)] 77)
    have hDl : D < W.heap.size := (Array.getElem?_eq_some_iff.1 hdef).1
    have hDg : w.heap.size + 4 ≤ D := by omega
    simp only [World.size_alloc] at r4
    clear c0 c1 c2 c3 c4 c5 q0 q1 q2 hB' hsz hdef e0 e1 e2 e3 hB hs hmm
    generalize (W.alloc (.map #[] 0)).alloc (.cells #[.map (some W.heap.size)] 77) = W2 at r0 r1 rm r4 rd hB2 hs2 ⊢
    have c0 := blk_cell r0 0
    have c1 := blk_cell r0 1
    have c2 := blk_cell r0 2
    have c3 := blk_cell r0 3
    have c4 := blk_cell r0 4
    have c5 := blk_cell r0 5
    go_wp2
    have g0 := blk_alloc r0 (.cells VC0 33)
    have g1 := blk_alloc r1 (.cells VC0 33)
    have g4 := blk_alloc r4 (.cells VC0 33)
    have gm := blk_any rm (.cells VC0 33)
    have gd := blk_any rd (.cells VC0 33)
    have g3 := blk_new W2 (.cells VC0 33)
    have hB3 := below_alloc hB2 (.cells VC0 33)
    have hs3 : (W2.alloc (.cells VC0 33)).heap.size = W.heap.size + 3 := by simp [hs2]
    clear c0 c1 c2 c3 c4 c5 r0 r1 r4 rm rd hB2
    rw [hs2] at g3
    try rw [hs2]
    generalize W2.alloc (.cells VC0 33) = W3 at g0 g1 g3 g4 gm gd hB3 hs3 ⊢
    rename_i K2_ hK2_
    refine wpIn_wide.1 (wpIn_rangeFunc_ownH (n := 6) rfl (by omega) (gf := 61) (lb := #[.pointer (some ⟨W.heap.size + 2, 0, none⟩)]) rfl trivial (enters_of Try.func61 (by kernel_rfl) rfl)
      (nodes1_stops (6 - 1) W3.heap.size _ W3 (Nat.le_refl _) g3) (fun h k => h.trans k) (fun W l o o' _ hl h _ => kpc_put _ W l o o' hl h) (Below.refl _ _) (fun _ => rfl)
      (fun pre V => V.heap[w.heap.size]? = some (.cells VC0 33 (0, 0)) ∧ V.heap[w.heap.size + 1]? = some (.cells #[.int .i64 0] 26 (0, 0)) ∧ V.heap[W.heap.size + 1]? = some (.cells #[.map (some W.heap.size)] 77 (0, 0)) ∧ V.heap[D]? = some (.deferred (some [])) ∧ (pre = [] → V.heap[W.heap.size]? = some (.map #[] 0)) ∧ Below w.heap.size w V ∧ W3.heap.size ≤ V.heap.size)
      (fun _ _ _ => False)
      (fun s A B row hs hg hr => ⟨blk_noncells hs.1 hg (fun r e => (hr r e).2), blk_noncells hs.2.1 hg (fun r e => (hr r e).2), blk_noncells hs.2.2.1 hg (fun r e => (hr r e).2), blk_grownx hs.2.2.2.1 hg (fun e => by have := (hr _ e).1; omega), fun e => blk_grownx (hs.2.2.2.2.1 e) hg (fun e => by have := (hr _ e).1; omega), hs.2.2.2.2.2.1.grown hg (by omega) (fun k e => by have := (hr k e).1; omega), Nat.le_trans hs.2.2.2.2.2.2 hg.size⟩)
      (fun c s A B row hs hg hr => hs)
      ⟨g0, g1, g4, gd, fun _ => gm, hB3, Nat.le_refl _⟩
      (fun _ a' V => ∃ Bx, W3.heap.size ≤ Bx ∧ V.heap[Bx]? = some (.cells VC0 33 (0, 0)) ∧ a' = { tmps := #[VN0, .pointer (some ⟨w.heap.size, 0, none⟩), .pointer (some ⟨w.heap.size + 1, 0, none⟩), .pointer (some ⟨w.heap.size + 1 + 1, 0, none⟩), .pointer (some ⟨W.heap.size + 1, 0, none⟩), .int .i64 0, .pointer (some ⟨Bx, 0, none⟩), undef, VN0, .func (.func 61) #[] #[.pointer (some ⟨w.heap.size + 1 + 1 + 1, 0, none⟩)], undef, undef, undef, undef, undef, undef, .map (some W.heap.size), VN0, .func (.func 61) #[] #[.pointer (some ⟨W.heap.size + 2, 0, none⟩)], .int .i64 0, VN0, undef, undef, undef, undef, undef, undef, undef, undef, undef, undef, undef, undef, undef, undef, undef, undef, undef, undef, undef, undef, undef, undef, undef, undef, undef, undef, undef, undef, undef, undef, undef, undef, undef, undef, undef], defers := [] })
      (fun x a' _ A B row hs hg hr => by obtain ⟨Bx, h1, h2, h3⟩ := hs; exact ⟨Bx, h1, blk_noncells h2 hg (fun r e => (hr r e).2), h3⟩)
      ?assign2 ?body2 ?done2 ?stop2)
    case assign2 =>
      rintro l pre x V K ⟨h0, h1, h4, hd, hm, hB, hs⟩ hK
      gi_wp2
      refine hK _ _ ((KeepsOthers.alloc _ _).from _) ⟨by simp, fun k _ o ho _ => blk_any ho _⟩ ⟨blk_alloc h0 _, blk_alloc h1 _, blk_alloc h4 _, blk_any hd _, fun e => blk_any (hm e) _, below_alloc hB _, by simp; omega⟩ ⟨V.heap.size, hs, blk_new _ _, rfl⟩
    case body2 =>
      rintro l pre x a' V hl ⟨r, hr⟩ ⟨h0, h1, h4, hd, hm, hB, hs⟩ ⟨Bx, hBx, bX, rfl⟩ hlt
      obtain rfl : pre = [] := List.eq_nil_of_length_eq_zero (by omega)
      have hm0 := hm rfl
      clear hm
      have c0 := blk_cell bX 0
      have c1 := blk_cell bX 1
      have c2 := blk_cell bX 2
      have c3 := blk_cell bX 3
      have c4 := blk_cell bX 4
      have c5 := blk_cell bX 5
      have m4 := blk_cell h4 0
      gi_wp2
      refine ⟨trivial, CallsIn.inRound l (callsIn_wide.2 ((ident_Node.calls 0 0 true V (by kernel_rfl)).mono ?_))⟩
      rintro e V2 ⟨rfl, hb⟩
      have h0 := blk_below h0 hb
      have h1 := blk_below h1 hb
      have h4 := blk_below h4 hb
      have bX := blk_below bX hb
      have hd := blk_belowx hd hb
      have hm := blk_belowx hm0 hb
      clear hm0
      have hB2 := hB.trans (hb.mono hB.size)
      have hsV := hb.size
      have kV : KpC W3.heap.size V V2 := ⟨hb.size, fun k _ o ho _ => blk_belowx ho hb⟩
      have fV : KeepsFrom W3.heap.size V V2 := ⟨hb.size, fun k o _ ho _ => blk_belowx ho hb⟩
      clear c0 c1 c2 c3 c4 c5 m4
      have c0 := blk_cell bX 0
      have c1 := blk_cell bX 1
      have c2 := blk_cell bX 2
      have c3 := blk_cell bX 3
      have c4 := blk_cell bX 4
      have c5 := blk_cell bX 5
      have m4 := blk_cell h4 0
      gi_wp2
      refine ⟨trivial, ?_⟩
      have hlk : (Instr.lookup 77 (.map (some W.heap.size)) (.agg #[.int .i64 0, .int .i64 0]) false).run Try.prog V2 = .ok (.int .i64 0) V2 := mlk_empty (el := 3) (by kernel_rfl) hm (by kernel_rfl) (by rfl)
      gi_wp2
      clear hlk c0 c1 c2 c3 c4 c5
      gi_cut [] from 44 (fun wx => V2.grownBy wx (some W.heap.size))
      case first =>
        rename_i J_ K3_ hJ_ hK3_
        have c0 := blk_cell bX 0
        have c1 := blk_cell bX 1
        have hlk : (Instr.lookup 77 (.map (some W.heap.size)) (.agg #[.int .i64 0, .int .i64 0]) false).run Try.prog V2.drew = .ok (.int .i64 0) V2.drew := mlk_empty (el := 3) (by kernel_rfl) (show V2.drew.heap[W.heap.size]? = some (.map #[] 0) from hm) (by kernel_rfl) (by rfl)
        have hme : (Instr.mapEntry 77 (.map (some W.heap.size)) (.agg #[.int .i64 0, .int .i64 0])).run Try.prog V2.drew = .ok (.tuple #[.int .i64 0, .int .i64 0]) (V2.drew.putObj W.heap.size (.map #[⟨.agg #[.int .i64 0, .int .i64 0], .int .i64 0, 0⟩] 1)) := men_empty (el := 3) (by kernel_rfl) (show V2.drew.heap[W.heap.size]? = some (.map #[] 0) from hm) (by kernel_rfl) (fun _ => by rfl)
        have hes : (Instr.entryStore 77 (.map (some W.heap.size)) (.int .i64 0) (.int .i64 (IntKind.i64.wrap 1))).run Try.prog (V2.drew.putObj W.heap.size (.map #[⟨.agg #[.int .i64 0, .int .i64 0], .int .i64 0, 0⟩] 1)) = .ok () ((V2.drew.putObj W.heap.size (.map #[⟨.agg #[.int .i64 0, .int .i64 0], .int .i64 0, 0⟩] 1)).putObj W.heap.size (.map #[⟨.agg #[.int .i64 0, .int .i64 0], .int .i64 (IntKind.i64.wrap 1), 0⟩] 1)) := mst_first (putObj_self _ (show V2.drew.heap[W.heap.size]? = some (.map #[] 0) from hm))
        have hlk2 : (Instr.lookup 77 (.map (some W.heap.size)) (.agg #[.int .i64 0, .int .i64 0]) false).run Try.prog (V2.drew.putObj W.heap.size (.map #[⟨.agg #[.int .i64 0, .int .i64 0], .int .i64 0, 0⟩] 1)) = .ok (.int .i64 0) (V2.drew.putObj W.heap.size (.map #[⟨.agg #[.int .i64 0, .int .i64 0], .int .i64 0, 0⟩] 1)) := mlk_one (el := 3) (by kernel_rfl) (putObj_self _ (show V2.drew.heap[W.heap.size]? = some (.map #[] 0) from hm)) (by kernel_rfl)
        clear hm h0 h1 h4 hd hB hB2 bX kV fV
        (repeat (rename_i h_; clear h_))
        have hgr := grown_two (W := V2) W.heap.size (.map #[⟨.agg #[.int .i64 0, .int .i64 0], .int .i64 0, 0⟩] 1) (.map #[⟨.agg #[.int .i64 0, .int .i64 0], .int .i64 (IntKind.i64.wrap 1), 0⟩] 1)
        have mixed : Try.prog.follows Departure.mixedOrders = true := by kernel_rfl
        gi_region_o
        all_goals
          show K3_ _ _
          refine hK3_ _ _ (Met.intro (hJ_ _ _ ?_))
          (repeat apply Exists.intro)
          refine ⟨?_, rfl⟩
          exact hgr
      case rest =>
        have hmV : W.heap.size < V2.heap.size := (Array.getElem?_eq_some_iff.1 hm).1
        have k1 := blk_grownx h1 hcut (by simp; omega)
        have k4 := blk_grownx h4 hcut (by simp)
        have k0 := blk_grownx h0 hcut (by simp; omega)
        have kX := blk_grownx bX hcut (by simp; omega)
        have kd := blk_grownx hd hcut (by simp; omega)
        have kB := hB2.grown hcut hB2.size (fun k e => by simp only [Option.some.injEq] at e; omega)
        have ks := hcut.size
        have kV2 : KpC W3.heap.size V wc := kV.trans ⟨ks, fun k hk o ho _ => blk_grownx ho hcut (by simp; omega)⟩
        have fV2 : KeepsFrom W3.heap.size V wc := fV.trans (KeepsFrom.of_grownBy hcut (fun j e => by simp only [Option.some.injEq] at e; omega))
        clear hcut hm h0 h1 h4 hd hB hB2 bX kV fV
        have c0 := blk_cell kX 0
        have c1 := blk_cell kX 1
        have c2 := blk_cell kX 2
        have c3 := blk_cell kX 3
        have c4 := blk_cell kX 4
        have c5 := blk_cell kX 5
        gi_wp2
        refine ⟨trivial, CallsIn.inRound l (callsIn_wide.2 ((vnode0 wc).mono ?_))⟩
        rintro e V4 ⟨rfl, hb⟩
        gi_wp2
        refine ⟨fV2.trans ⟨hb.size, fun k o _ ho _ => blk_belowx ho hb⟩, kV2.trans ⟨hb.size, fun k _ o ho _ => blk_belowx ho hb⟩, blk_below k0 hb, blk_below k1 hb, blk_below k4 hb, blk_belowx kd hb, fun e => by simp at e, kB.trans (hb.mono kB.size), ?_⟩
        have := hb.size; omega
    case done2 =>
      rintro D2 xs V hD2 rfl ⟨h0, h1, h4, hd, hm, hB, hs⟩ hdef2
      refine hK2_ _ _ ?_
      have q1 := blk_cell h1 0
      have f1 := blk_frozen h1 0
      go_wp2
      have hm0 := hm
      clear hm
      have d2 := blk_set_far (g := w.heap.size + 1) hdef2 (by omega) (.int .i64 0)
      have d1 := blk_set_far (g := w.heap.size + 1) hd (by omega) (.int .i64 0)
      have d1' : ((V.setCell ⟨w.heap.size + 1, 0, none⟩ (.int .i64 0)).putObj D2 (.deferred none)).heap[D]? = some (.deferred (some [])) := (World.putObj_heap_other (by omega)).trans d1
      have d4 := blk_put (cs' := #[.int .i64 0]) h1 0 (.int .i64 0) rfl
      have d4' : (((V.setCell ⟨w.heap.size + 1, 0, none⟩ (.int .i64 0)).putObj D2 (.deferred none)).putObj D (.deferred none)).heap[w.heap.size + 1]? = some (.cells #[.int .i64 0] 26 (0, 0)) := (World.putObj_heap_other (by omega)).trans ((World.putObj_heap_other (by omega)).trans d4)
      have c4 := blk_cell d4' 0
      have hB8 : Below w.heap.size w (V.setCell ⟨w.heap.size + 1, 0, none⟩ (.int .i64 0)) := hB.setCell (p := ⟨w.heap.size + 1, 0, none⟩) (by simp) _
      have hB9 := hB8.grown (grownBy_putObj' _ D2 (.deferred none)) hB8.size (fun k e => by cases e; omega)
      have hB10 := hB9.grown (grownBy_putObj' _ D (.deferred none)) hB9.size (fun k e => by cases e; omega)
      show LeavesInM Fence.wide 6 Try.prog Try.f34 _ _ _ .returning _
      refine ⟨by simp, .inl ⟨_, _, rfl, run_takeDeferred d2, ?_⟩⟩
      refine ⟨by simp, .inl ⟨_, _, rfl, run_takeDeferred d1', ?_⟩⟩
      refine ⟨.int .i64 0, ?_, rfl, hB10⟩
      simp [results, Try.f34, go_sem, c4]
    case stop2 =>
      rintro D c pre W hD hp h
      cases h
  case stop =>
    rintro D c pre W hD hp h
    cases h
end
section
attribute [local go_sem] Oper.semAt_some
noncomputable def T35_1 : Bool × List (List Nat × List Nat) := rtab .any (opsOf Try.f35 1)
theorem tab35_1 : rtab .any (opsOf Try.f35 1) = T35_1 := rfl
noncomputable def T35_2 : Bool × List (List Nat × List Nat) := rtab .any (opsOf Try.f35 2)
theorem tab35_2 : rtab .any (opsOf Try.f35 2) = T35_2 := rfl
set_option maxHeartbeats 4000000 in
set_option maxRecDepth 100000 in
/-- The node that a tree's node becomes. -/
theorem load0 (w : World) (bb mm cl : Nat) (h0 : Value) (hb : w.heap[bb]? = some (.cells #[.pointer none, h0, .map (some mm)] 60 (0, 0))) (hm : w.heap[mm]? = some (.map #[] cl)) : Calls Try.prog 35 #[.pointer (some ⟨bb, 0, none⟩), VN0, .pointer none] w fun e w' => e = .returned (.pointer (some ⟨w.heap.size + 2, 0, none⟩)) ∧ w'.heap[w.heap.size + 2]? = some (.cells (ND (w.heap.size + 1)) 80 (0, 0)) ∧ w'.heap[mm]? = some (.map #[⟨.agg #[.int .i64 0, .int .i64 0], .pointer (some ⟨w.heap.size + 2, 0, none⟩), cl⟩] (cl + 1)) ∧ w.grownBy w' (some mm) := by
  have hbl := (Array.getElem?_eq_some_iff.1 hb).1
  have hml := (Array.getElem?_eq_some_iff.1 hm).1
  go_enter Try.func35, Try.ntmps35
  go_wp2
  have e0 := blk_new w (.cells VC0 33)
  have hB1 : Below w.heap.size w (w.alloc (.cells VC0 33)) := below_alloc (Below.refl _ _) _
  have hW1 : (w.alloc (.cells VC0 33)).heap.size = w.heap.size + 1 := by simp
  generalize w.alloc (.cells VC0 33) = W1 at e0 hB1 hW1 ⊢
  refine start_ (n := 14) (S := fun w' => w'.cell? ⟨w.heap.size, 0, none⟩ = some (.int .i64 0) ∧ w'.cell? ⟨w.heap.size, 1, none⟩ = some (.int .i64 0) ∧ w'.cell? ⟨w.heap.size, 2, none⟩ = some (.string (⟨#[114, 111, 111, 116]⟩ : ByteArray)) ∧ w'.cell? ⟨w.heap.size, 3, none⟩ = some (.string (⟨#[]⟩ : ByteArray)) ∧ w'.cell? ⟨w.heap.size, 4, none⟩ = some (.slice none 0 0)) (ds := []) #[false, false, false, false, false, false, false, false, false, false, false, false, false, false] (by kernel_rfl) rfl rfl ⟨(blk_cell e0 0).trans rfl, (blk_cell e0 1).trans rfl, (blk_cell e0 2).trans rfl, (blk_cell e0 3).trans rfl, (blk_cell e0 4).trans rfl⟩ (fun hHeld => ?_)
  refine with_tab tab35_1 (fun HT_ => ?_)
  refine pzp_ 0 10 HT_ ?_
  refine pzt5_ 1 11 HT_ hHeld ?_
  refine pzp_ 2 12 HT_ ?_
  refine pzt5_ 3 13 HT_ hHeld ?_
  refine pzp_ 4 14 HT_ ?_
  refine pzt5_ 5 15 HT_ hHeld ?_
  refine pzp_ 7 17 HT_ ?_
  refine pzt5_ 8 18 HT_ hHeld ?_
  refine pzp_ 10 20 HT_ ?_
  refine pzo_ 6 16 HT_ (fun K hK => ?_)
  rw [if_pos (by rfl)]
  go_wp2
  have e1 := blk_alloc e0 (.cells #[] 72)
  have hB2 := below_alloc hB1 (.cells #[] 72)
  have hW2 : (W1.alloc (.cells #[] 72)).heap.size = w.heap.size + 2 := by simp [hW1]
  generalize W1.alloc (.cells #[] 72) = W2 at e1 hB2 hW2 ⊢
  refine hK.out _ _ ⟨(blk_cell e1 0).trans rfl, (blk_cell e1 1).trans rfl, (blk_cell e1 2).trans rfl, (blk_cell e1 3).trans rfl, (blk_cell e1 4).trans rfl⟩ (fun hHeld => ?_)
  clear hK K hHeld e0
  refine pzo_ 9 19 HT_ (fun K hK => ?_)
  rw [if_pos (by rfl)]
  go_wp2
  refine hK.out _ _ ⟨(blk_cell e1 0).trans rfl, (blk_cell e1 1).trans rfl, (blk_cell e1 2).trans rfl, (blk_cell e1 3).trans rfl, (blk_cell e1 4).trans rfl⟩ (fun hHeld => ?_)
  clear hK K hHeld
  refine pzp_ 11 21 HT_ ?_
  refine pzo_ 12 22 HT_ (fun K hK => ?_)
  rw [if_pos (by rfl)]
  go_wp2
  have e2 := blk_alloc e1 (.cells (ND (w.heap.size + 1)) 80)
  have en := blk_new W2 (.cells (ND (w.heap.size + 1)) 80)
  have hB3 := below_alloc hB2 (.cells (ND (w.heap.size + 1)) 80)
  have hW3 : (W2.alloc (.cells (ND (w.heap.size + 1)) 80)).heap.size = w.heap.size + 3 := by simp [hW2]
  rw [hW2] at en
  generalize W2.alloc (.cells (ND (w.heap.size + 1)) 80) = W3 at e2 en hB3 hW3 ⊢
  refine hK.out _ _ ⟨(blk_cell e2 0).trans rfl, (blk_cell e2 1).trans rfl, (blk_cell e2 2).trans rfl, (blk_cell e2 3).trans rfl, (blk_cell e2 4).trans rfl⟩ (fun hHeld => ?_)
  clear hK K hHeld e1
  refine pzp_ 13 7 HT_ ?_
  refine done_ (done_of HT_.out (by kernel_rfl)) ?_
  clear HT_
  have xb : W3.drew.heap[bb]? = some (.cells #[.pointer none, h0, .map (some mm)] 60 (0, 0)) := (hB3.block bb hbl).trans hb
  have xm : W3.drew.heap[mm]? = some (.map #[] cl) := (hB3.block mm hml).trans hm
  have xe : W3.drew.heap[w.heap.size]? = some (.cells VC0 33 (0, 0)) := e2
  have xn : W3.drew.heap[w.heap.size + 2]? = some (.cells (ND (w.heap.size + 1)) 80 (0, 0)) := en
  have xB : Below w.heap.size w W3.drew := pw_below_drewN hB3 1
  clear e2 en hB3 hB1 hB2 hW1 hW2
  generalize W3.drew = W4 at xb xm xe xn xB ⊢
  go_wp2
  refine start_ (n := 8) (S := fun w' => w'.cell? ⟨bb, 2, none⟩ = some (.map (some mm)) ∧ w'.cell? ⟨w.heap.size, 0, none⟩ = some (.int .i64 0) ∧ w'.cell? ⟨w.heap.size, 1, none⟩ = some (.int .i64 0)) (ds := []) #[false, false, false, false, false, false, false, false] (by kernel_rfl) rfl rfl ⟨(blk_cell xb 2).trans rfl, (blk_cell xe 0).trans rfl, (blk_cell xe 1).trans rfl⟩ (fun hHeld => ?_)
  refine with_tab tab35_2 (fun HT_ => ?_)
  refine pzp_ 0 23 HT_ ?_
  refine pzp_ 1 24 HT_ ?_
  refine pzp_ 2 25 HT_ ?_
  refine pzt3_ 3 26 HT_ hHeld ?_
  refine pzp_ 4 27 HT_ ?_
  refine pzt3_ 5 28 HT_ hHeld ?_
  refine pzp_ 6 29 HT_ ?_
  have hmu : (Instr.mapUpdate 57 (.map (some mm)) (.agg #[.int .i64 0, .int .i64 0]) (.pointer (some ⟨w.heap.size + 2, 0, none⟩))).run Try.prog W4.drew = .ok () (W4.drew.putObj mm (.map #[⟨.agg #[.int .i64 0, .int .i64 0], .pointer (some ⟨w.heap.size + 2, 0, none⟩), cl⟩] (cl + 1))) := mup_empty (el := 58) (by kernel_rfl) (show W4.drew.heap[mm]? = some (.map #[] cl) from xm) (by kernel_rfl)
  refine pzn_ 7 HT_ (fun K hK => ?_)
  rw [if_pos (by rfl)]
  go_wp2
  have yb : (W4.drew.putObj mm (.map #[⟨.agg #[.int .i64 0, .int .i64 0], .pointer (some ⟨w.heap.size + 2, 0, none⟩), cl⟩] (cl + 1))).heap[bb]? = some (.cells #[.pointer none, h0, .map (some mm)] 60 (0, 0)) := (World.putObj_heap_other (by intro e; subst e; rw [hb] at hm; cases hm)).trans xb
  have ye : (W4.drew.putObj mm (.map #[⟨.agg #[.int .i64 0, .int .i64 0], .pointer (some ⟨w.heap.size + 2, 0, none⟩), cl⟩] (cl + 1))).heap[w.heap.size]? = some (.cells VC0 33 (0, 0)) := (World.putObj_heap_other (by omega)).trans xe
  have yn : (W4.drew.putObj mm (.map #[⟨.agg #[.int .i64 0, .int .i64 0], .pointer (some ⟨w.heap.size + 2, 0, none⟩), cl⟩] (cl + 1))).heap[w.heap.size + 2]? = some (.cells (ND (w.heap.size + 1)) 80 (0, 0)) := (World.putObj_heap_other (by omega)).trans xn
  have ym : (W4.drew.putObj mm (.map #[⟨.agg #[.int .i64 0, .int .i64 0], .pointer (some ⟨w.heap.size + 2, 0, none⟩), cl⟩] (cl + 1))).heap[mm]? = some (.map #[⟨.agg #[.int .i64 0, .int .i64 0], .pointer (some ⟨w.heap.size + 2, 0, none⟩), cl⟩] (cl + 1)) := putObj_self _ (show W4.drew.heap[mm]? = some (.map #[] cl) from xm)
  have yg : w.grownBy (W4.drew.putObj mm (.map #[⟨.agg #[.int .i64 0, .int .i64 0], .pointer (some ⟨w.heap.size + 2, 0, none⟩), cl⟩] (cl + 1))) (some mm) := grown_put (pw_below_drewN xB 1) mm _
  clear hmu
  generalize W4.drew.putObj mm (.map #[⟨.agg #[.int .i64 0, .int .i64 0], .pointer (some ⟨w.heap.size + 2, 0, none⟩), cl⟩] (cl + 1)) = W5 at yb ye yn ym yg ⊢
  refine hK.out _ _ ⟨(blk_cell yb 2).trans rfl, (blk_cell ye 0).trans rfl, (blk_cell ye 1).trans rfl⟩ (fun hHeld => ?_)
  clear hK K hHeld
  refine done_ (done_of HT_.out (by kernel_rfl)) ?_
  clear HT_
  have c5 := blk_cell ye 5
  go_wp2
  go_loopw [33] (fun i wr => i = .int .i64 0 ∧ wr = W5) (fun i _ => 0)
  case atStart => exact ⟨rfl, rfl⟩
  case round =>
    obtain ⟨rfl, rfl⟩ := hrel
    go_wp2
    go_ret
    exact ⟨rfl, yn, ym, yg⟩
end
section
attribute [local go_sem] Oper.semAt_some
noncomputable def T49_1 : Bool × List (List Nat × List Nat) := rtab .any (opsOf Try.f49 1)
theorem tab49_1 : rtab .any (opsOf Try.f49 1) = T49_1 := rfl
noncomputable def T49_6 : Bool × List (List Nat × List Nat) := rtab .any (opsOf Try.f49 6)
theorem tab49_6 : rtab .any (opsOf Try.f49 6) = T49_6 := rfl
set_option maxHeartbeats 4000000 in
set_option maxRecDepth 100000 in
/-- A node is made and held. -/
theorem make0 (w : World) (bb hm mm ch cm c0 : Nat) (tr n0 : Value) (hb : w.heap[bb]? = some (.cells #[tr, .map (some hm), .map (some mm)] 60 (0, 0))) (hh : w.heap[hm]? = some (.map #[] ch)) (hy : w.heap[mm]? = some (.map #[⟨.agg #[.int .i64 0, .int .i64 0], n0, c0⟩] cm)) (hc : c0 ≠ cm) (hne : hm ≠ mm) : Calls Try.prog 49 #[.pointer (some ⟨bb, 0, none⟩), VP1] w fun e w' => e = .returned (.int .i64 0) ∧ w'.heap[w.heap.size + 1]? = some (.cells NE 80 (0, 0)) ∧ w'.heap[mm]? = some (.map #[⟨.agg #[.int .i64 0, .int .i64 0], n0, c0⟩, ⟨.agg #[.int .i64 1, .int .i64 0], .pointer (some ⟨w.heap.size + 1, 0, none⟩), cm⟩] (cm + 1)) ∧ w'.heap[hm]? = some (.map #[⟨.agg #[.int .i64 1, .int .i64 0], .pointer (some ⟨w.heap.size + 1, 0, none⟩), ch⟩] (ch + 1)) ∧ KeptBut (fun i => i = hm ∨ i = mm) w w' := by
  have hbl := (Array.getElem?_eq_some_iff.1 hb).1
  have hhl := (Array.getElem?_eq_some_iff.1 hh).1
  have hyl := (Array.getElem?_eq_some_iff.1 hy).1
  have nbm : bb ≠ mm := by intro e; subst e; rw [hb] at hy; cases hy
  have nbh : bb ≠ hm := by intro e; subst e; rw [hb] at hh; cases hh
  go_enter Try.func49, Try.ntmps49
  go_wp2
  have e0 := blk_new w (.cells VQ1 25)
  have hB1 : Below w.heap.size w (w.alloc (.cells VQ1 25)) := below_alloc (Below.refl _ _) _
  have hW1 : (w.alloc (.cells VQ1 25)).heap.size = w.heap.size + 1 := by simp
  have xb := blk_alloc hb (.cells VQ1 25)
  have xh := blk_any hh (.cells VQ1 25)
  have xy := blk_any hy (.cells VQ1 25)
  generalize w.alloc (.cells VQ1 25) = W1 at e0 hB1 hW1 xb xh xy ⊢
  have hlk : ∀ w' : World, w'.heap[mm]? = some (.map #[⟨.agg #[.int .i64 0, .int .i64 0], n0, c0⟩] cm) → (Instr.lookup 57 (.map (some mm)) (.agg #[.int .i64 1, .int .i64 0]) false).run Try.prog w' = .ok (.pointer none) w' := fun w' h => by
    obtain ⟨l0, hl0⟩ := key_lit (.agg #[.int .i64 0, .int .i64 0]) (by kernel_rfl)
    obtain ⟨l1, hl1⟩ := key_lit (.agg #[.int .i64 1, .int .i64 0]) (by kernel_rfl)
    exact mlk_none (el := 58) (by kernel_rfl) h hl1 (by simp [hl0]) (by simp) (by rfl)
  refine start_ (n := 9) (S := fun w' => w'.cell? ⟨bb, 2, none⟩ = some (.map (some mm)) ∧ w'.cell? ⟨w.heap.size, 1, none⟩ = some (.int .i64 1) ∧ w'.cell? ⟨w.heap.size, 2, none⟩ = some (.int .i64 0) ∧ w'.heap[mm]? = some (.map #[⟨.agg #[.int .i64 0, .int .i64 0], n0, c0⟩] cm)) (ds := []) #[false, false, false, false, false, false, false, false, false] (by kernel_rfl) rfl rfl ⟨(blk_cell xb 2).trans rfl, (blk_cell e0 1).trans rfl, (blk_cell e0 2).trans rfl, xy⟩ (fun hHeld => ?_)
  refine with_tab tab49_1 (fun HT_ => ?_)
  refine pzp_ 0 7 HT_ ?_
  refine pzp_ 1 8 HT_ ?_
  refine pzp_ 2 9 HT_ ?_
  refine pzt4_ 3 10 HT_ hHeld ?_
  refine pzp_ 4 11 HT_ ?_
  refine pzt4_ 5 12 HT_ hHeld ?_
  refine pzt4_ 6 13 HT_ hHeld ?_
  refine pzp_ 7 14 HT_ ?_
  refine pzp_ 8 6 HT_ ?_
  refine done_ (done_of HT_.out (by kernel_rfl)) ?_
  clear HT_ hHeld hlk
  have e0 : W1.drew.heap[w.heap.size]? = some (.cells VQ1 25 (0, 0)) := e0
  have xb : W1.drew.heap[bb]? = _ := xb
  have xh : W1.drew.heap[hm]? = _ := xh
  have xy : W1.drew.heap[mm]? = _ := xy
  have hB2 : Below w.heap.size w W1.drew := pw_below_drewN hB1 1
  have hW2 : W1.drew.heap.size = w.heap.size + 1 := hW1
  clear hB1 hW1
  generalize W1.drew = W2 at e0 xb xh xy hB2 hW2 ⊢
  have q2 := blk_cell xb 2
  have c1 := blk_cell e0 1
  have c2 := blk_cell e0 2
  have c7 := blk_cell e0 7
  have hln : (Builtin.len_ #[57] 3 #[.map (some mm)]).run Try.prog W2 = .ok (.int .i64 1) W2 := mlen (k := 23) (e := 58) (by kernel_rfl) xy
  go_wp2
  have e1 := blk_alloc e0 (.cells NE 80)
  have en := blk_new W2 (.cells NE 80)
  have yb := blk_alloc xb (.cells NE 80)
  have yh := blk_any xh (.cells NE 80)
  have yy := blk_any xy (.cells NE 80)
  have hB3 := below_alloc hB2 (.cells NE 80)
  rw [hW2] at en
  clear q2 c1 c2 c7 hln e0 xb xh xy hB2
  generalize W2.alloc (.cells NE 80) = W3 at e1 en yb yh yy hB3 ⊢
  have z0 : W3.drew.heap[mm]? = some (.map #[⟨.agg #[.int .i64 0, .int .i64 0], n0, c0⟩] cm) := yy
  have z1 : (W3.drew.putObj mm (.map #[⟨.agg #[.int .i64 0, .int .i64 0], n0, c0⟩, ⟨.agg #[.int .i64 1, .int .i64 0], .pointer none, cm⟩] (cm + 1))).heap[mm]? = some (.map #[⟨.agg #[.int .i64 0, .int .i64 0], n0, c0⟩, ⟨.agg #[.int .i64 1, .int .i64 0], .pointer none, cm⟩] (cm + 1)) := putObj_self _ z0
  have z2 : ((W3.drew.putObj mm (.map #[⟨.agg #[.int .i64 0, .int .i64 0], n0, c0⟩, ⟨.agg #[.int .i64 1, .int .i64 0], .pointer none, cm⟩] (cm + 1))).putObj mm (.map #[⟨.agg #[.int .i64 0, .int .i64 0], n0, c0⟩, ⟨.agg #[.int .i64 1, .int .i64 0], .pointer (some ⟨w.heap.size + 1, 0, none⟩), cm⟩] (cm + 1))).heap[hm]? = some (.map #[] ch) := (World.putObj_heap_other hne).trans ((World.putObj_heap_other hne).trans yh)
  have z3 : (((W3.drew.putObj mm (.map #[⟨.agg #[.int .i64 0, .int .i64 0], n0, c0⟩, ⟨.agg #[.int .i64 1, .int .i64 0], .pointer none, cm⟩] (cm + 1))).putObj mm (.map #[⟨.agg #[.int .i64 0, .int .i64 0], n0, c0⟩, ⟨.agg #[.int .i64 1, .int .i64 0], .pointer (some ⟨w.heap.size + 1, 0, none⟩), cm⟩] (cm + 1))).putObj hm (.map #[⟨.agg #[.int .i64 1, .int .i64 0], .pointer none, ch⟩] (ch + 1))).heap[hm]? = some (.map #[⟨.agg #[.int .i64 1, .int .i64 0], .pointer none, ch⟩] (ch + 1)) := putObj_self _ z2
  have r1 : (Instr.mapEntry 57 (.map (some mm)) (.agg #[.int .i64 1, .int .i64 0])).run Try.prog W3.drew = .ok (.tuple #[.pointer none, goInt cm]) (W3.drew.putObj mm (.map #[⟨.agg #[.int .i64 0, .int .i64 0], n0, c0⟩, ⟨.agg #[.int .i64 1, .int .i64 0], .pointer none, cm⟩] (cm + 1))) := by
    obtain ⟨l0, hl0⟩ := key_lit (.agg #[.int .i64 0, .int .i64 0]) (by kernel_rfl)
    obtain ⟨l1, hl1⟩ := key_lit (.agg #[.int .i64 1, .int .i64 0]) (by kernel_rfl)
    exact men_none (el := 58) (by kernel_rfl) z0 hl1 (by simp [hl0]) (by simp) (fun _ => by rfl)
  have r2 : (Instr.entryStore 57 (.map (some mm)) (goInt cm) (.pointer (some ⟨w.heap.size + 1, 0, none⟩))).run Try.prog (W3.drew.putObj mm (.map #[⟨.agg #[.int .i64 0, .int .i64 0], n0, c0⟩, ⟨.agg #[.int .i64 1, .int .i64 0], .pointer none, cm⟩] (cm + 1))) = .ok () ((W3.drew.putObj mm (.map #[⟨.agg #[.int .i64 0, .int .i64 0], n0, c0⟩, ⟨.agg #[.int .i64 1, .int .i64 0], .pointer none, cm⟩] (cm + 1))).putObj mm (.map #[⟨.agg #[.int .i64 0, .int .i64 0], n0, c0⟩, ⟨.agg #[.int .i64 1, .int .i64 0], .pointer (some ⟨w.heap.size + 1, 0, none⟩), cm⟩] (cm + 1))) := mst_new (es := #[⟨.agg #[.int .i64 0, .int .i64 0], n0, c0⟩]) z1 (by simp [hc])
  have r3 : (Instr.mapEntry 57 (.map (some hm)) (.agg #[.int .i64 1, .int .i64 0])).run Try.prog ((W3.drew.putObj mm (.map #[⟨.agg #[.int .i64 0, .int .i64 0], n0, c0⟩, ⟨.agg #[.int .i64 1, .int .i64 0], .pointer none, cm⟩] (cm + 1))).putObj mm (.map #[⟨.agg #[.int .i64 0, .int .i64 0], n0, c0⟩, ⟨.agg #[.int .i64 1, .int .i64 0], .pointer (some ⟨w.heap.size + 1, 0, none⟩), cm⟩] (cm + 1))) = .ok (.tuple #[.pointer none, goInt ch]) (((W3.drew.putObj mm (.map #[⟨.agg #[.int .i64 0, .int .i64 0], n0, c0⟩, ⟨.agg #[.int .i64 1, .int .i64 0], .pointer none, cm⟩] (cm + 1))).putObj mm (.map #[⟨.agg #[.int .i64 0, .int .i64 0], n0, c0⟩, ⟨.agg #[.int .i64 1, .int .i64 0], .pointer (some ⟨w.heap.size + 1, 0, none⟩), cm⟩] (cm + 1))).putObj hm (.map #[⟨.agg #[.int .i64 1, .int .i64 0], .pointer none, ch⟩] (ch + 1))) := men_empty (el := 58) (by kernel_rfl) z2 (by kernel_rfl) (fun _ => by rfl)
  have r4 : (Instr.entryStore 57 (.map (some hm)) (goInt ch) (.pointer (some ⟨w.heap.size + 1, 0, none⟩))).run Try.prog (((W3.drew.putObj mm (.map #[⟨.agg #[.int .i64 0, .int .i64 0], n0, c0⟩, ⟨.agg #[.int .i64 1, .int .i64 0], .pointer none, cm⟩] (cm + 1))).putObj mm (.map #[⟨.agg #[.int .i64 0, .int .i64 0], n0, c0⟩, ⟨.agg #[.int .i64 1, .int .i64 0], .pointer (some ⟨w.heap.size + 1, 0, none⟩), cm⟩] (cm + 1))).putObj hm (.map #[⟨.agg #[.int .i64 1, .int .i64 0], .pointer none, ch⟩] (ch + 1))) = .ok () ((((W3.drew.putObj mm (.map #[⟨.agg #[.int .i64 0, .int .i64 0], n0, c0⟩, ⟨.agg #[.int .i64 1, .int .i64 0], .pointer none, cm⟩] (cm + 1))).putObj mm (.map #[⟨.agg #[.int .i64 0, .int .i64 0], n0, c0⟩, ⟨.agg #[.int .i64 1, .int .i64 0], .pointer (some ⟨w.heap.size + 1, 0, none⟩), cm⟩] (cm + 1))).putObj hm (.map #[⟨.agg #[.int .i64 1, .int .i64 0], .pointer none, ch⟩] (ch + 1))).putObj hm (.map #[⟨.agg #[.int .i64 1, .int .i64 0], .pointer (some ⟨w.heap.size + 1, 0, none⟩), ch⟩] (ch + 1))) := mst_first z3
  simp only [goInt] at r1 r2 r3 r4
  refine start_ (n := 20) (S := fun w' => w'.cell? ⟨bb, 1, none⟩ = some (.map (some hm)) ∧ w'.cell? ⟨bb, 2, none⟩ = some (.map (some mm)) ∧ w'.cell? ⟨w.heap.size, 1, none⟩ = some (.int .i64 1) ∧ w'.cell? ⟨w.heap.size, 2, none⟩ = some (.int .i64 0)) (ds := []) #[false, false, false, false, false, false, false, false, false, false, false, false, false, false, false, false, false, false, false, false] (by kernel_rfl) rfl rfl ⟨(blk_cell yb 1).trans rfl, (blk_cell yb 2).trans rfl, (blk_cell e1 1).trans rfl, (blk_cell e1 2).trans rfl⟩ (fun hHeld => ?_)
  refine with_tab tab49_6 (fun HT_ => ?_)
  refine pzp_ 0 28 HT_ ?_
  refine pzp_ 1 29 HT_ ?_
  refine pzp_ 2 30 HT_ ?_
  refine pzt4_ 3 31 HT_ hHeld ?_
  refine pzp_ 4 32 HT_ ?_
  refine pzt4_ 5 33 HT_ hHeld ?_
  refine pzp_ 6 34 HT_ ?_
  refine pzp_ 7 35 HT_ ?_
  refine pzp_ 8 36 HT_ ?_
  refine pzt4_ 9 37 HT_ hHeld ?_
  refine pzp_ 10 38 HT_ ?_
  refine pzt4_ 11 39 HT_ hHeld ?_
  refine pzp_ 12 40 HT_ ?_
  refine pzp_ 13 41 HT_ ?_
  refine pzo_ 14 42 HT_ (fun K hK => ?_)
  rw [if_pos (by rfl)]
  go_wp2
  have ze : w.heap.size ≠ mm := by omega
  have zf : w.heap.size ≠ hm := by omega
  have zg : w.heap.size + 1 ≠ mm := by omega
  have zh : w.heap.size + 1 ≠ hm := by omega
  have b1_ : (W3.drew.putObj mm (.map #[⟨.agg #[.int .i64 0, .int .i64 0], n0, c0⟩, ⟨.agg #[.int .i64 1, .int .i64 0], .pointer none, cm⟩] (cm + 1))).heap[bb]? = some (.cells #[tr, .map (some hm), .map (some mm)] 60 (0, 0)) := (World.putObj_heap_other nbm).trans yb
  have e1_ : (W3.drew.putObj mm (.map #[⟨.agg #[.int .i64 0, .int .i64 0], n0, c0⟩, ⟨.agg #[.int .i64 1, .int .i64 0], .pointer none, cm⟩] (cm + 1))).heap[w.heap.size]? = some (.cells VQ1 25 (0, 0)) := (World.putObj_heap_other ze).trans e1
  have n1_ : (W3.drew.putObj mm (.map #[⟨.agg #[.int .i64 0, .int .i64 0], n0, c0⟩, ⟨.agg #[.int .i64 1, .int .i64 0], .pointer none, cm⟩] (cm + 1))).heap[w.heap.size + 1]? = some (.cells NE 80 (0, 0)) := (World.putObj_heap_other zg).trans en
  refine hK.out _ _ ⟨(blk_cell b1_ 1).trans rfl, (blk_cell b1_ 2).trans rfl, (blk_cell e1_ 1).trans rfl, (blk_cell e1_ 2).trans rfl⟩ (fun hHeld => ?_)
  clear hK K
  refine pzp_ 15 43 HT_ ?_
  refine pzn_ 16 HT_ (fun K hK => ?_)
  rw [if_pos (by rfl)]
  go_wp2
  have b2_ : ((W3.drew.putObj mm (.map #[⟨.agg #[.int .i64 0, .int .i64 0], n0, c0⟩, ⟨.agg #[.int .i64 1, .int .i64 0], .pointer none, cm⟩] (cm + 1))).putObj mm (.map #[⟨.agg #[.int .i64 0, .int .i64 0], n0, c0⟩, ⟨.agg #[.int .i64 1, .int .i64 0], .pointer (some ⟨w.heap.size + 1, 0, none⟩), cm⟩] (cm + 1))).heap[bb]? = some (.cells #[tr, .map (some hm), .map (some mm)] 60 (0, 0)) := (World.putObj_heap_other nbm).trans b1_
  have e2_ : ((W3.drew.putObj mm (.map #[⟨.agg #[.int .i64 0, .int .i64 0], n0, c0⟩, ⟨.agg #[.int .i64 1, .int .i64 0], .pointer none, cm⟩] (cm + 1))).putObj mm (.map #[⟨.agg #[.int .i64 0, .int .i64 0], n0, c0⟩, ⟨.agg #[.int .i64 1, .int .i64 0], .pointer (some ⟨w.heap.size + 1, 0, none⟩), cm⟩] (cm + 1))).heap[w.heap.size]? = some (.cells VQ1 25 (0, 0)) := (World.putObj_heap_other ze).trans e1_
  have n2_ : ((W3.drew.putObj mm (.map #[⟨.agg #[.int .i64 0, .int .i64 0], n0, c0⟩, ⟨.agg #[.int .i64 1, .int .i64 0], .pointer none, cm⟩] (cm + 1))).putObj mm (.map #[⟨.agg #[.int .i64 0, .int .i64 0], n0, c0⟩, ⟨.agg #[.int .i64 1, .int .i64 0], .pointer (some ⟨w.heap.size + 1, 0, none⟩), cm⟩] (cm + 1))).heap[w.heap.size + 1]? = some (.cells NE 80 (0, 0)) := (World.putObj_heap_other zg).trans n1_
  refine hK.out _ _ ⟨(blk_cell b2_ 1).trans rfl, (blk_cell b2_ 2).trans rfl, (blk_cell e2_ 1).trans rfl, (blk_cell e2_ 2).trans rfl⟩ (fun hHeld => ?_)
  clear hK K
  refine pzo_ 17 44 HT_ (fun K hK => ?_)
  rw [if_pos (by rfl)]
  go_wp2
  have b3_ : (((W3.drew.putObj mm (.map #[⟨.agg #[.int .i64 0, .int .i64 0], n0, c0⟩, ⟨.agg #[.int .i64 1, .int .i64 0], .pointer none, cm⟩] (cm + 1))).putObj mm (.map #[⟨.agg #[.int .i64 0, .int .i64 0], n0, c0⟩, ⟨.agg #[.int .i64 1, .int .i64 0], .pointer (some ⟨w.heap.size + 1, 0, none⟩), cm⟩] (cm + 1))).putObj hm (.map #[⟨.agg #[.int .i64 1, .int .i64 0], .pointer none, ch⟩] (ch + 1))).heap[bb]? = some (.cells #[tr, .map (some hm), .map (some mm)] 60 (0, 0)) := (World.putObj_heap_other nbh).trans b2_
  have e3_ : (((W3.drew.putObj mm (.map #[⟨.agg #[.int .i64 0, .int .i64 0], n0, c0⟩, ⟨.agg #[.int .i64 1, .int .i64 0], .pointer none, cm⟩] (cm + 1))).putObj mm (.map #[⟨.agg #[.int .i64 0, .int .i64 0], n0, c0⟩, ⟨.agg #[.int .i64 1, .int .i64 0], .pointer (some ⟨w.heap.size + 1, 0, none⟩), cm⟩] (cm + 1))).putObj hm (.map #[⟨.agg #[.int .i64 1, .int .i64 0], .pointer none, ch⟩] (ch + 1))).heap[w.heap.size]? = some (.cells VQ1 25 (0, 0)) := (World.putObj_heap_other zf).trans e2_
  have n3_ : (((W3.drew.putObj mm (.map #[⟨.agg #[.int .i64 0, .int .i64 0], n0, c0⟩, ⟨.agg #[.int .i64 1, .int .i64 0], .pointer none, cm⟩] (cm + 1))).putObj mm (.map #[⟨.agg #[.int .i64 0, .int .i64 0], n0, c0⟩, ⟨.agg #[.int .i64 1, .int .i64 0], .pointer (some ⟨w.heap.size + 1, 0, none⟩), cm⟩] (cm + 1))).putObj hm (.map #[⟨.agg #[.int .i64 1, .int .i64 0], .pointer none, ch⟩] (ch + 1))).heap[w.heap.size + 1]? = some (.cells NE 80 (0, 0)) := (World.putObj_heap_other zh).trans n2_
  refine hK.out _ _ ⟨(blk_cell b3_ 1).trans rfl, (blk_cell b3_ 2).trans rfl, (blk_cell e3_ 1).trans rfl, (blk_cell e3_ 2).trans rfl⟩ (fun hHeld => ?_)
  clear hK K
  refine pzp_ 18 45 HT_ ?_
  refine pzn_ 19 HT_ (fun K hK => ?_)
  rw [if_pos (by rfl)]
  go_wp2
  have b4_ : ((((W3.drew.putObj mm (.map #[⟨.agg #[.int .i64 0, .int .i64 0], n0, c0⟩, ⟨.agg #[.int .i64 1, .int .i64 0], .pointer none, cm⟩] (cm + 1))).putObj mm (.map #[⟨.agg #[.int .i64 0, .int .i64 0], n0, c0⟩, ⟨.agg #[.int .i64 1, .int .i64 0], .pointer (some ⟨w.heap.size + 1, 0, none⟩), cm⟩] (cm + 1))).putObj hm (.map #[⟨.agg #[.int .i64 1, .int .i64 0], .pointer none, ch⟩] (ch + 1))).putObj hm (.map #[⟨.agg #[.int .i64 1, .int .i64 0], .pointer (some ⟨w.heap.size + 1, 0, none⟩), ch⟩] (ch + 1))).heap[bb]? = some (.cells #[tr, .map (some hm), .map (some mm)] 60 (0, 0)) := (World.putObj_heap_other nbh).trans b3_
  have e4_ : ((((W3.drew.putObj mm (.map #[⟨.agg #[.int .i64 0, .int .i64 0], n0, c0⟩, ⟨.agg #[.int .i64 1, .int .i64 0], .pointer none, cm⟩] (cm + 1))).putObj mm (.map #[⟨.agg #[.int .i64 0, .int .i64 0], n0, c0⟩, ⟨.agg #[.int .i64 1, .int .i64 0], .pointer (some ⟨w.heap.size + 1, 0, none⟩), cm⟩] (cm + 1))).putObj hm (.map #[⟨.agg #[.int .i64 1, .int .i64 0], .pointer none, ch⟩] (ch + 1))).putObj hm (.map #[⟨.agg #[.int .i64 1, .int .i64 0], .pointer (some ⟨w.heap.size + 1, 0, none⟩), ch⟩] (ch + 1))).heap[w.heap.size]? = some (.cells VQ1 25 (0, 0)) := (World.putObj_heap_other zf).trans e3_
  have n4_ : ((((W3.drew.putObj mm (.map #[⟨.agg #[.int .i64 0, .int .i64 0], n0, c0⟩, ⟨.agg #[.int .i64 1, .int .i64 0], .pointer none, cm⟩] (cm + 1))).putObj mm (.map #[⟨.agg #[.int .i64 0, .int .i64 0], n0, c0⟩, ⟨.agg #[.int .i64 1, .int .i64 0], .pointer (some ⟨w.heap.size + 1, 0, none⟩), cm⟩] (cm + 1))).putObj hm (.map #[⟨.agg #[.int .i64 1, .int .i64 0], .pointer none, ch⟩] (ch + 1))).putObj hm (.map #[⟨.agg #[.int .i64 1, .int .i64 0], .pointer (some ⟨w.heap.size + 1, 0, none⟩), ch⟩] (ch + 1))).heap[w.heap.size + 1]? = some (.cells NE 80 (0, 0)) := (World.putObj_heap_other zh).trans n3_
  refine hK.out _ _ ⟨(blk_cell b4_ 1).trans rfl, (blk_cell b4_ 2).trans rfl, (blk_cell e4_ 1).trans rfl, (blk_cell e4_ 2).trans rfl⟩ (fun hHeld => ?_)
  clear hK K
  refine done_ (done_of HT_.out (by kernel_rfl)) ?_
  clear HT_ hHeld r1 r2 r3 r4
  go_wp2
  go_ret
  refine ⟨rfl, n4_, ?_, putObj_self _ z3, ?_⟩
  · exact (World.putObj_heap_other (Ne.symm hne)).trans ((World.putObj_heap_other (Ne.symm hne)).trans (putObj_self _ z1))
  · exact ((((KeptBut.of_below (pw_below_drewN hB3 1)).put _ (.inr rfl)).put _ (.inr rfl)).put _ (.inl rfl)).put _ (.inl rfl)
end
section
attribute [local go_sem] Oper.semAt_some
attribute [local go_sem high] eqA23 eqPs
noncomputable def T64_1 : Bool × List (List Nat × List Nat) := rtab .any (opsOf Try.f64 1)
theorem tab64_1 : rtab .any (opsOf Try.f64 1) = T64_1 := rfl
set_option maxHeartbeats 4000000 in
set_option maxRecDepth 100000 in
/-- The topmost node is placed. -/
theorem placed0 (w : World) (bb hm mm cm c0 c1_ nd : Nat) (v1 : Value) (hb : w.heap[bb]? = some (.cells #[.pointer (some ⟨nd, 0, none⟩), .map (some hm), .map (some mm)] 60 (0, 0))) (hy : w.heap[mm]? = some (.map #[⟨.agg #[.int .i64 0, .int .i64 0], .pointer (some ⟨nd, 0, none⟩), c0⟩, ⟨.agg #[.int .i64 1, .int .i64 0], v1, c1_⟩] cm)) : Calls Try.prog 64 #[.pointer (some ⟨bb, 0, none⟩), .agg #[.int .i64 0, .int .i64 0]] w fun e w' => e = .returned (.pointer (some ⟨nd, 0, none⟩)) ∧ Below w.heap.size w w' := by
  go_enter Try.func64, Try.ntmps64
  go_wp2
  have e0 := blk_new w (.cells #[.int .i64 0, .int .i64 0] 23)
  have hB1 : Below w.heap.size w (w.alloc (.cells #[.int .i64 0, .int .i64 0] 23)) := below_alloc (Below.refl _ _) _
  have xb := blk_alloc hb (.cells #[.int .i64 0, .int .i64 0] 23)
  have xy := blk_any hy (.cells #[.int .i64 0, .int .i64 0] 23)
  generalize w.alloc (.cells #[.int .i64 0, .int .i64 0] 23) = W1 at e0 hB1 xb xy ⊢
  have hlk : ∀ w' : World, w'.heap[mm]? = some (.map #[⟨.agg #[.int .i64 0, .int .i64 0], .pointer (some ⟨nd, 0, none⟩), c0⟩, ⟨.agg #[.int .i64 1, .int .i64 0], v1, c1_⟩] cm) → (Instr.lookup 57 (.map (some mm)) (.agg #[.int .i64 0, .int .i64 0]) false).run Try.prog w' = .ok (.pointer (some ⟨nd, 0, none⟩)) w' := fun w' h => by
    obtain ⟨l0, hl0⟩ := key_lit (.agg #[.int .i64 0, .int .i64 0]) (by kernel_rfl)
    obtain ⟨l1, hl1⟩ := key_lit (.agg #[.int .i64 1, .int .i64 0]) (by kernel_rfl)
    exact mlk_some (el := 58) (by kernel_rfl) h hl0 (by simp [hl0, hl1]) (by simp) ⟨⟨.agg #[.int .i64 0, .int .i64 0], .pointer (some ⟨nd, 0, none⟩), c0⟩, by simp, rfl⟩
  refine start_ (n := 7) (S := fun w' => w'.cell? ⟨bb, 2, none⟩ = some (.map (some mm)) ∧ w'.cell? ⟨w.heap.size, 0, none⟩ = some (.int .i64 0) ∧ w'.cell? ⟨w.heap.size, 1, none⟩ = some (.int .i64 0) ∧ w'.heap[mm]? = some (.map #[⟨.agg #[.int .i64 0, .int .i64 0], .pointer (some ⟨nd, 0, none⟩), c0⟩, ⟨.agg #[.int .i64 1, .int .i64 0], v1, c1_⟩] cm)) (ds := []) #[false, false, false, false, false, false, false] (by kernel_rfl) rfl rfl ⟨(blk_cell xb 2).trans rfl, (blk_cell e0 0).trans rfl, (blk_cell e0 1).trans rfl, xy⟩ (fun hHeld => ?_)
  refine with_tab tab64_1 (fun HT_ => ?_)
  refine pzp_ 0 7 HT_ ?_
  refine pzp_ 1 8 HT_ ?_
  refine pzp_ 2 9 HT_ ?_
  refine pzt4_ 3 10 HT_ hHeld ?_
  refine pzt4_ 4 11 HT_ hHeld ?_
  refine pzt4_ 5 12 HT_ hHeld ?_
  refine pzp_ 6 5 HT_ ?_
  refine done_ (done_of HT_.out (by kernel_rfl)) ?_
  clear HT_ hHeld hlk
  have xb : W1.drew.heap[bb]? = _ := xb
  have hB2 : Below w.heap.size w W1.drew := pw_below_drewN hB1 1
  clear hB1 e0 xy
  generalize W1.drew = W2 at xb hB2 ⊢
  have q0 := blk_cell xb 0
  go_wp2
  go_loopw [6] (fun i wr => i = .pointer (some ⟨nd, 0, none⟩) ∧ wr = W2) (fun i _ => 0)
  case atStart => exact ⟨rfl, rfl⟩
  case round =>
    obtain ⟨rfl, rfl⟩ := hrel
    go_wp2
    go_ret
    exact ⟨rfl, hB2⟩
set_option maxHeartbeats 4000000 in
set_option maxRecDepth 100000 in
/-- Behind none is ahead of all. -/
theorem behind0 (w : World) (b u : Value) : Calls Try.prog 65 #[b, u, .agg #[.int .i64 0, .int .i64 0]] w fun e w' => e = .returned (.tuple #[.int .i64 0, .bool true]) ∧ Below w.heap.size w w' := by
  go_enter Try.func65, Try.ntmps65
  go_wp2
  refine bodyPost_ret (results_tmp2 rfl _ _ _) rfl ?_
  exact ⟨rfl, below_alloc (Below.refl _ _) _⟩
set_option maxHeartbeats 4000000 in
set_option maxRecDepth 100000 in
/-- One node, put into no nodes. -/
theorem insert0 (w : World) (vb ne : Nat) (hv : w.heap[vb]? = some (.cells #[.pointer (some ⟨ne, 0, none⟩)] 58 (0, 0))) : Calls Try.prog 66 #[.slice none 0 0, .int .i64 0, .slice (some ⟨vb, 0, none⟩) 1 1] w fun e w' => (∃ g cap cs, e = .returned (.slice (some ⟨g, 0, none⟩) 1 cap) ∧ w.heap.size ≤ g ∧ w'.heap[g]? = some (.cells cs 58 (0, 0)) ∧ cs[0]? = some (.pointer (some ⟨ne, 0, none⟩))) ∧ Below w.heap.size w w' := by
  go_enter Try.func66, Try.ntmps66
  have v0 := blk_cell hv 0
  go_wp2
  go_ret
  refine ⟨⟨w.heap.size, _, _, rfl, Nat.le_refl _, blk_new w _, ?_⟩, pw_below_drewN (below_alloc (Below.refl _ _) _) 1⟩
  simp [Array.getElem?_append]
end
section
attribute [local go_sem] Oper.semAt_some
attribute [local go_sem high] eqA23 eqPs
open Go.WideMaps in
theorem mdel_one {t el m c b : Nat} {ty : TypeId} {x v : Value} {W : World} (hu : Try.prog.underlying t = some (.map 23 el)) (hb : W.heap[m]? = some (.map #[⟨x, v, b⟩] c)) (hx : (keyOf Try.prog 23 x).isSome = true) :
    (Builtin.delete_ #[t, 23] ty #[.map (some m), x]).run Try.prog W = .ok (.tuple #[]) (W.putObj m (.map #[] c)) := by
  obtain ⟨l, hl⟩ := key_lit x hx
  rcases K23.find W hl (#[⟨x, v, b⟩] : Array MapEntry).toList (by simp [hl]) with ⟨_, h2⟩ | ⟨j, e0, h1, h2, h3⟩
  · exact absurd rfl (h2 ⟨x, v, b⟩ (by simp))
  · have hj : j = 0 := by
      cases j with
      | zero => rfl
      | succ j => simp at h2
    subst hj
    simp [Builtin.delete_, run_underlying hu, MapKept.run_getObj_map hb, K23.check W _ hl, h1, MapKept.run_setObj_map _ hb, Result.andThen, World.putObj, Array.eraseIdxIfInBounds]
noncomputable def T50_1 : Bool × List (List Nat × List Nat) := rtab .any (opsOf Try.f50 1)
theorem tab50_1 : rtab .any (opsOf Try.f50 1) = T50_1 := rfl
noncomputable def T50_7 : Bool × List (List Nat × List Nat) := rtab .any (opsOf Try.f50 7)
theorem tab50_7 : rtab .any (opsOf Try.f50 7) = T50_7 := rfl
set_option maxHeartbeats 4000000 in
set_option maxRecDepth 100000 in
/-- The node that is held is put below the topmost one. -/
theorem put0 (w : World) (bb hm mm ch ch0 cm c0 c1_ nd ne ab : Nat) (hb : w.heap[bb]? = some (.cells #[.pointer (some ⟨nd, 0, none⟩), .map (some hm), .map (some mm)] 60 (0, 0))) (hh : w.heap[hm]? = some (.map #[⟨.agg #[.int .i64 1, .int .i64 0], .pointer (some ⟨ne, 0, none⟩), ch0⟩] ch)) (hy : w.heap[mm]? = some (.map #[⟨.agg #[.int .i64 0, .int .i64 0], .pointer (some ⟨nd, 0, none⟩), c0⟩, ⟨.agg #[.int .i64 1, .int .i64 0], .pointer (some ⟨ne, 0, none⟩), c1_⟩] cm)) (hd : w.heap[nd]? = some (.cells (ND ab) 80 (0, 0))) (he : w.heap[ne]? = some (.cells NE 80 (0, 0))) (hde : nd ≠ ne) : Calls Try.prog 50 #[.pointer (some ⟨bb, 0, none⟩), VP2] w fun e w' => e = .returned (.int .i64 0) ∧ (∃ g cap cs, w.heap.size ≤ g ∧ w'.heap[g]? = some (.cells cs 58 (0, 0)) ∧ cs[0]? = some (.pointer (some ⟨ne, 0, none⟩)) ∧ w'.heap[nd]? = some (.cells (ND2 ab g cap) 80 (0, 0))) ∧ w'.heap[ne]? = some (.cells (NE2 nd) 80 (0, 0)) ∧ w'.heap[hm]? = some (.map #[] ch) ∧ KeptBut (fun i => i = hm ∨ i = nd ∨ i = ne) w w' := by
  have hbl := (Array.getElem?_eq_some_iff.1 hb).1
  have hhl := (Array.getElem?_eq_some_iff.1 hh).1
  have hyl := (Array.getElem?_eq_some_iff.1 hy).1
  have hdl := (Array.getElem?_eq_some_iff.1 hd).1
  have hel := (Array.getElem?_eq_some_iff.1 he).1
  have nhd : nd ≠ hm := by intro e; subst e; rw [hd] at hh; cases hh
  have nhe : ne ≠ hm := by intro e; subst e; rw [he] at hh; cases hh
  have nhb : bb ≠ hm := by intro e; subst e; rw [hb] at hh; cases hh
  go_enter Try.func50, Try.ntmps50
  go_wp2
  have e0 := blk_new w (.cells VQ2 25)
  have hB1 : Below w.heap.size w (w.alloc (.cells VQ2 25)) := below_alloc (Below.refl _ _) _
  have hW1 : (w.alloc (.cells VQ2 25)).heap.size = w.heap.size + 1 := by simp
  have xb := blk_any hb (.cells VQ2 25)
  have xh := blk_any hh (.cells VQ2 25)
  have xy := blk_any hy (.cells VQ2 25)
  have xd := blk_any hd (.cells VQ2 25)
  have xe := blk_any he (.cells VQ2 25)
  generalize w.alloc (.cells VQ2 25) = W1 at e0 hB1 hW1 xb xh xy xd xe ⊢
  have hlk : ∀ w' : World, w'.heap[hm]? = some (.map #[⟨.agg #[.int .i64 1, .int .i64 0], .pointer (some ⟨ne, 0, none⟩), ch0⟩] ch) → (Instr.lookup 57 (.map (some hm)) (.agg #[.int .i64 1, .int .i64 0]) false).run Try.prog w' = .ok (.pointer (some ⟨ne, 0, none⟩)) w' := fun w' h => mlk_one (el := 58) (by kernel_rfl) h (by kernel_rfl)
  refine start_ (n := 13) (S := fun w' => w'.cell? ⟨bb, 1, none⟩ = some (.map (some hm)) ∧ w'.cell? ⟨w.heap.size, 1, none⟩ = some (.int .i64 1) ∧ w'.cell? ⟨w.heap.size, 2, none⟩ = some (.int .i64 0) ∧ w'.cell? ⟨w.heap.size, 3, none⟩ = some (.int .i64 0) ∧ w'.cell? ⟨w.heap.size, 4, none⟩ = some (.int .i64 0) ∧ w'.heap[hm]? = some (.map #[⟨.agg #[.int .i64 1, .int .i64 0], .pointer (some ⟨ne, 0, none⟩), ch0⟩] ch)) (ds := []) #[false, false, false, false, false, false, false, false, false, false, false, false, false] (by kernel_rfl) rfl rfl ⟨(blk_cell xb 1).trans rfl, (blk_cell e0 1).trans rfl, (blk_cell e0 2).trans rfl, (blk_cell e0 3).trans rfl, (blk_cell e0 4).trans rfl, xh⟩ (fun hHeld => ?_)
  refine with_tab tab50_1 (fun HT_ => ?_)
  refine pzp_ 0 9 HT_ ?_
  refine pzp_ 1 10 HT_ ?_
  refine pzp_ 2 11 HT_ ?_
  refine pzt6_ 3 12 HT_ hHeld ?_
  refine pzp_ 4 13 HT_ ?_
  refine pzt6_ 5 14 HT_ hHeld ?_
  refine pzt6_ 6 15 HT_ hHeld ?_
  refine pzp_ 7 16 HT_ ?_
  refine pzp_ 8 17 HT_ ?_
  refine pzt6_ 9 18 HT_ hHeld ?_
  refine pzo_ 10 19 HT_ (fun K hK => ?_)
  rw [if_pos (by rfl)]
  go_wp2_with (go_at_call 64; refine (placed0 W1.drew bb hm mm cm c0 c1_ nd (.pointer (some ⟨ne, 0, none⟩)) xb xy).mono ?_; rintro e W2 ⟨rfl, hB2⟩)
  have f0 := blk_below (w := W1.drew) e0 hB2
  have zb := blk_below (w := W1.drew) xb hB2
  have zh := blk_belowx (w := W1.drew) xh hB2
  have zy := blk_belowx (w := W1.drew) xy hB2
  have zd := blk_below (w := W1.drew) xd hB2
  have ze := blk_below (w := W1.drew) xe hB2
  have hB3 := below_step (pw_below_drewN hB1 1) hB2
  have hW2 : w.heap.size + 1 ≤ W2.heap.size := by have := hB2.size; rw [← hW1]; exact this
  refine hK.out _ _ ⟨(blk_cell zb 1).trans rfl, (blk_cell f0 1).trans rfl, (blk_cell f0 2).trans rfl, (blk_cell f0 3).trans rfl, (blk_cell f0 4).trans rfl, zh⟩ (fun hHeld => ?_)
  clear hK K e0 xb xh xy xd xe hB1 hB2 hW1
  refine pzp_ 11 5 HT_ ?_
  refine pzp_ 12 6 HT_ ?_
  refine done_ (done_of HT_.out (by kernel_rfl)) ?_
  clear HT_ hHeld hlk
  have c5 := blk_cell f0 5
  have c6 := blk_cell f0 6
  go_wp2_with (go_at_call 65; refine (behind0 W2 _ _).mono ?_; rintro e W3 ⟨rfl, hB4⟩)
  clear c5 c6
  have i0 := blk_below (w := W2) f0 hB4
  have yb := blk_below (w := W2) zb hB4
  have yh := blk_belowx (w := W2) zh hB4
  have yd := blk_below (w := W2) zd hB4
  have ye := blk_below (w := W2) ze hB4
  have hB5 := below_step hB3 hB4
  have hW3 : w.heap.size + 1 ≤ W3.heap.size := Nat.le_trans hW2 hB4.size
  clear f0 zb zh zd ze hB3 hB4 zy hW2
  have hdl : (Builtin.delete_ #[57, 23] 0 #[.map (some hm), .agg #[.int .i64 1, .int .i64 0]]).run Try.prog W3.drew = .ok (.tuple #[]) (W3.drew.putObj hm (.map #[] ch)) := mdel_one (el := 58) (by kernel_rfl) yh (by kernel_rfl)
  refine start_ (n := 7) (S := fun w' => w'.cell? ⟨bb, 1, none⟩ = some (.map (some hm)) ∧ w'.cell? ⟨w.heap.size, 1, none⟩ = some (.int .i64 1) ∧ w'.cell? ⟨w.heap.size, 2, none⟩ = some (.int .i64 0)) (ds := []) #[false, false, false, false, false, false, false] (by kernel_rfl) rfl rfl ⟨(blk_cell yb 1).trans rfl, (blk_cell i0 1).trans rfl, (blk_cell i0 2).trans rfl⟩ (fun hHeld => ?_)
  refine with_tab tab50_7 (fun HT_ => ?_)
  refine pzp_ 0 36 HT_ ?_
  refine pzp_ 1 37 HT_ ?_
  refine pzp_ 2 38 HT_ ?_
  refine pzt3_ 3 39 HT_ hHeld ?_
  refine pzp_ 4 40 HT_ ?_
  refine pzt3_ 5 41 HT_ hHeld ?_
  refine pzn_ 6 HT_ (fun K hK => ?_)
  rw [if_pos (by rfl)]
  go_wp2
  have nze : w.heap.size ≠ hm := by omega
  have f0 : (W3.drew.putObj hm (.map #[] ch)).heap[_]? = some _ := (World.putObj_heap_other nze).trans i0
  have zb : (W3.drew.putObj hm (.map #[] ch)).heap[_]? = some _ := (World.putObj_heap_other nhb).trans yb
  have zd : (W3.drew.putObj hm (.map #[] ch)).heap[_]? = some _ := (World.putObj_heap_other nhd).trans yd
  have ze : (W3.drew.putObj hm (.map #[] ch)).heap[_]? = some _ := (World.putObj_heap_other nhe).trans ye
  have zh : (W3.drew.putObj hm (.map #[] ch)).heap[hm]? = some (.map #[] ch) := putObj_self _ (show W3.drew.heap[hm]? = some _ from yh)
  have hK4 : KeptBut (fun i => i = hm ∨ i = nd ∨ i = ne) w (W3.drew.putObj hm (.map #[] ch)) := (KeptBut.of_below (pw_below_drewN hB5 1)).put _ (.inl rfl)
  clear hdl i0 yb yh yd ye hB5
  generalize W3.drew.putObj hm (.map #[] ch) = W4 at f0 zb zd ze zh hK4 ⊢
  refine hK.out _ _ ⟨(blk_cell zb 1).trans rfl, (blk_cell f0 1).trans rfl, (blk_cell f0 2).trans rfl⟩ (fun hHeld => ?_)
  clear hK K
  refine done_ (done_of HT_.out (by kernel_rfl)) ?_
  clear HT_ hHeld
  have fz : W4.frozen? ⟨ne, 5, none⟩ = false := by simp [World.frozen?, ze]
  have d5 := blk_cell ze 5
  have d6 := blk_cell zd 6
  go_upto_region 9 with fail
  have g0 : (W4.setCell ⟨ne, 5, none⟩ (.pointer (some ⟨nd, 0, none⟩))).heap[ne]? = some (.cells (NE2 nd) 80 (0, 0)) := set_self ze _
  have gd : (W4.setCell ⟨ne, 5, none⟩ (.pointer (some ⟨nd, 0, none⟩))).heap[nd]? = some (.cells (ND ab) 80 (0, 0)) := set_far zd hde _
  have gh : (W4.setCell ⟨ne, 5, none⟩ (.pointer (some ⟨nd, 0, none⟩))).heap[hm]? = some (.map #[] ch) := set_far zh (Ne.symm nhe) _
  have hK5 : KeptBut (fun i => i = hm ∨ i = nd ∨ i = ne) w (W4.setCell ⟨ne, 5, none⟩ (.pointer (some ⟨nd, 0, none⟩))) := hK4.setc _ (.inr (.inr rfl))
  clear fz d5 d6 f0 zb zd ze zh hK4 hHeld
  generalize W4.setCell ⟨ne, 5, none⟩ (.pointer (some ⟨nd, 0, none⟩)) = W5 at g0 gd gh hK5 ⊢
  have d6 := blk_cell gd 6
  go_wp2_with (go_at_call 66; refine (insert0 (W5.alloc (.cells #[.pointer (some ⟨ne, 0, none⟩)] 58)) W5.heap.size ne (blk_new W5 _)).mono ?_; rintro e W6 ⟨⟨g, cap, cs, rfl, hg, hgc, hcs⟩, hB6⟩; have k0 := blk_belowx (w := W5.alloc (.cells #[.pointer (some ⟨ne, 0, none⟩)] 58)) (blk_any g0 _) hB6; have kd := blk_belowx (w := W5.alloc (.cells #[.pointer (some ⟨ne, 0, none⟩)] 58)) (blk_any gd _) hB6; have kh := blk_belowx (w := W5.alloc (.cells #[.pointer (some ⟨ne, 0, none⟩)] 58)) (blk_any gh _) hB6; have d7 := blk_cell kd 6; have fz7 : W6.frozen? ⟨nd, 6, none⟩ = false := by simp [World.frozen?, kd])
  go_ret
  refine ⟨rfl, ⟨g, cap, cs, ?_, set_far hgc ?_ _, hcs, set_self kd _⟩, set_far k0 (Ne.symm hde) _, set_far kh (Ne.symm nhd) _, ?_⟩
  all_goals have hs5 : w.heap.size ≤ (W5.alloc (.cells #[.pointer (some ⟨ne, 0, none⟩)] 58)).heap.size := by have := hK5.2.2.2.1; simp; omega
  · exact Nat.le_trans hs5 hg
  · have := Nat.le_trans hs5 hg; omega
  · exact ((hK5.belowx (below_alloc (Below.refl _ _) _)).belowx hB6).setc _ (.inr (.inl rfl))
end
section
attribute [local go_sem] Oper.semAt_some
theorem below_row {B g : Nat} {a w : World} (h : Below B a w) (hB : B ≤ g) (cs : Array Value) : Below B a (w.setRow g cs) := h.trans ⟨rfl, rfl, rfl, by simp, fun k hk => setRow_other _ _ _ _ (by omega)⟩
theorem store_row_ {P : Program} {ops : Array Oper} {rest : List Oper} {o : Oper} {a : Act} {w : World} {Q : Exit → Act → World → Prop} (hg0 : o.guard = none) (ty : TypeId) (x y : Operand) (ho : o.op = .store ty x y)
    (g : Nat) (cells : Array Value) (hx : a.eval x = .pointer (some ⟨g, 0, none⟩)) (hy : a.eval y = .agg cells)
    (t : TypeId) (old : Array Value) (hg : w.heap[g]? = some (.cells old t (0, 0))) (hi : (P.info? ty).map (·.size) = some cells.size)
    (hold : old.size = cells.size) (h1 : cells.all (·.oneCell') = true)
    (h : wpList P ops Q rest (a.put o.dst undef) (w.setRow g cells)) : wpList P ops Q (o :: rest) a w :=
  wpList_plain hg0 fun _ hK => wp_store_row ty x y ho g cells hx hy t old hg hi hold h1 (hK _ _ h)
abbrev ZV : Array Value := #[.int .i64 0, .int .i64 0, .string (⟨#[]⟩ : ByteArray), .string (⟨#[]⟩ : ByteArray), .slice none 0 0, .slice none 0 0]
theorem step3 (w : World) (b : Value) : Calls Try.prog 36 #[b, .int .i64 3] w fun e w' => e = .returned (.func (.func 49) #[b] #[]) ∧ w' = w := by
  go_enter Try.func36, Try.ntmps36
  go_wp2
  go_ret
  exact ⟨rfl, rfl⟩
theorem step4 (w : World) (b : Value) : Calls Try.prog 36 #[b, .int .i64 4] w fun e w' => e = .returned (.func (.func 50) #[b] #[]) ∧ w' = w := by
  go_enter Try.func36, Try.ntmps36
  go_wp2
  go_ret
  exact ⟨rfl, rfl⟩
noncomputable def T37_1 : Bool × List (List Nat × List Nat) := rtab .any (opsOf Try.f37 1)
theorem tab37_1 : rtab .any (opsOf Try.f37 1) = T37_1 := rfl
noncomputable def T37_5 : Bool × List (List Nat × List Nat) := rtab .any (opsOf Try.f37 5)
theorem tab37_5 : rtab .any (opsOf Try.f37 5) = T37_5 := rfl
set_option maxHeartbeats 4000000 in
set_option maxRecDepth 100000 in
theorem tellE (w : World) (nd up : Nat) (hn : w.heap[nd]? = some (.cells #[.int .i64 1, .int .i64 0, .string (⟨#[112]⟩ : ByteArray), .string (⟨#[]⟩ : ByteArray), .slice none 0 0, .pointer (some ⟨up, 0, none⟩), .slice none 0 0] 80 (0, 0))) : Calls Try.prog 37 #[.pointer (some ⟨nd, 0, none⟩)] w fun e w' => (∃ ba, e = .returned (.agg #[.int .i64 1, .int .i64 0, .string (⟨#[112]⟩ : ByteArray), .string (⟨#[]⟩ : ByteArray), .slice (some ⟨ba, 0, none⟩) 0 0, .slice none 0 0])) ∧ Below w.heap.size w w' := by
  go_enter Try.func37, Try.ntmps37
  go_wp2
  have e0 := blk_new w (.cells ZV 33)
  have hB1 : Below w.heap.size w (w.alloc (.cells ZV 33)) := below_alloc (Below.refl _ _) _
  have xn := blk_alloc hn (.cells ZV 33)
  have hW1 : (w.alloc (.cells ZV 33)).heap.size = w.heap.size + 1 := by simp
  generalize w.alloc (.cells ZV 33) = W1 at e0 hB1 xn hW1 ⊢
  refine start_ (n := 21) (S := fun w' => w'.cell? ⟨nd, 0, none⟩ = some (.int .i64 1) ∧ w'.cell? ⟨nd, 1, none⟩ = some (.int .i64 0) ∧ w'.cell? ⟨nd, 2, none⟩ = some (.string (⟨#[112]⟩ : ByteArray)) ∧ w'.cell? ⟨nd, 3, none⟩ = some (.string (⟨#[]⟩ : ByteArray)) ∧ w'.cell? ⟨nd, 4, none⟩ = some (.slice none 0 0)) (ds := []) #[false, false, false, false, false, false, false, false, false, false, false, false, false, false, false, false, false, false, false, false, false] (by kernel_rfl) rfl rfl ⟨(blk_cell xn 0).trans rfl, (blk_cell xn 1).trans rfl, (blk_cell xn 2).trans rfl, (blk_cell xn 3).trans rfl, (blk_cell xn 4).trans rfl⟩ (fun hHeld => ?_)
  refine with_tab tab37_1 (fun HT_ => ?_)
  refine pzp_ 0 6 HT_ ?_
  refine pzp_ 1 7 HT_ ?_
  refine pzp_ 2 8 HT_ ?_
  refine pzt5_ 3 9 HT_ hHeld ?_
  refine pzp_ 4 10 HT_ ?_
  refine pzp_ 5 11 HT_ ?_
  refine pzp_ 6 12 HT_ ?_
  refine pzt5_ 7 13 HT_ hHeld ?_
  refine pzp_ 8 14 HT_ ?_
  refine pzp_ 9 15 HT_ ?_
  refine pzp_ 10 16 HT_ ?_
  refine pzt5_ 11 17 HT_ hHeld ?_
  refine pzp_ 13 19 HT_ ?_
  refine pzp_ 14 20 HT_ ?_
  refine pzp_ 15 21 HT_ ?_
  refine pzt5_ 16 22 HT_ hHeld ?_
  refine join_ (σ := Nat × Nat) 1 #[true, true, true, true, true, true, true, true, true, true, true, true, true, true, true, true, true, true, true, true, false] (fun s => [(18, .slice (some ⟨s.1, 0, none⟩) 0 0), (23, .slice (some ⟨s.1, 0, none⟩) 0 0), (24, .agg #[.int .i64 1, .int .i64 0, .string (⟨#[112]⟩ : ByteArray), .string (⟨#[]⟩ : ByteArray), .slice (some ⟨s.1, 0, none⟩) 0 0, .slice none 0 0]), (3, .pointer (some ⟨s.2, 0, none⟩))]) (fun s w' => w'.heap[s.2]? = some (.cells ZV 33 (0, 0)) ∧ w.heap.size < s.2 ∧ Below w.heap.size w w' ∧ w'.heap[nd]? = W1.drew.heap[nd]? ∧ w'.heap[w.heap.size]? = W1.drew.heap[w.heap.size]?) ?_ (fun hJ => ?_)
  rotate_left
  · have hs1 : ∀ o, (W1.alloc o).heap.size = w.heap.size + 1 + 1 := fun o => by simp [hW1]
    have hb1 : ∀ o, (W1.alloc o).heap[w.heap.size + 1]? = some o := fun o => by have h := blk_new W1 o; rwa [hW1] at h
    have hb2 : ∀ o o', ((W1.alloc o).alloc o').heap[w.heap.size + 1 + 1]? = some o' := fun o o' => by have h := blk_new (W1.alloc o) o'; rwa [hs1] at h
    refine two_ (i := 12) (j := 19) (Ni := some 18) (Nj := some 3) #[true, true, true, true, true, true, true, true, true, true, true, true, true, true, true, true, true, false, false, false, false] #[true, true, true, true, true, true, true, true, true, true, true, true, false, true, true, true, true, false, false, true, false] rfl rfl rfl rfl (by kernel_rfl) (by decide) (by decide) (fun K hK => ?_) (fun K hK => ?_)
    · rw [if_pos (by rfl)]
      go_wp2
      refine hK.out _ _ ⟨(blk_cell (blk_any (w := W1) xn (.cells #[] 72)) 0).trans rfl, (blk_cell (blk_any (w := W1) xn (.cells #[] 72)) 1).trans rfl, (blk_cell (blk_any (w := W1) xn (.cells #[] 72)) 2).trans rfl, (blk_cell (blk_any (w := W1) xn (.cells #[] 72)) 3).trans rfl, (blk_cell (blk_any (w := W1) xn (.cells #[] 72)) 4).trans rfl⟩ (fun hHeld => ?_)
      clear hK K
      refine two_ (i := 17) (j := 19) (Ni := some 23) (Nj := some 3) #[true, true, true, true, true, true, true, true, true, true, true, true, true, true, true, true, true, true, false, false, false] #[true, true, true, true, true, true, true, true, true, true, true, true, true, true, true, true, true, false, false, true, false] rfl rfl rfl rfl (by kernel_rfl) (by decide) (by decide) (fun K hK => ?_) (fun K hK => ?_)
      · rw [if_pos (by rfl)]
        go_wp2
        refine hK.out _ _ ⟨(blk_cell (blk_any (w := W1) xn (.cells #[] 72)) 0).trans rfl, (blk_cell (blk_any (w := W1) xn (.cells #[] 72)) 1).trans rfl, (blk_cell (blk_any (w := W1) xn (.cells #[] 72)) 2).trans rfl, (blk_cell (blk_any (w := W1) xn (.cells #[] 72)) 3).trans rfl, (blk_cell (blk_any (w := W1) xn (.cells #[] 72)) 4).trans rfl⟩ (fun hHeld => ?_)
        clear hK K
        refine pzp_ 18 24 HT_ ?_
        refine pzo_ 19 3 HT_ (fun K hK => ?_)
        rw [if_pos (by rfl)]
        go_wp2
        refine hK.out _ _ ⟨(blk_cell (blk_any (w := (W1.alloc (.cells #[] 72))) (blk_any (w := W1) xn (.cells #[] 72)) (.cells ZV 33)) 0).trans rfl, (blk_cell (blk_any (w := (W1.alloc (.cells #[] 72))) (blk_any (w := W1) xn (.cells #[] 72)) (.cells ZV 33)) 1).trans rfl, (blk_cell (blk_any (w := (W1.alloc (.cells #[] 72))) (blk_any (w := W1) xn (.cells #[] 72)) (.cells ZV 33)) 2).trans rfl, (blk_cell (blk_any (w := (W1.alloc (.cells #[] 72))) (blk_any (w := W1) xn (.cells #[] 72)) (.cells ZV 33)) 3).trans rfl, (blk_cell (blk_any (w := (W1.alloc (.cells #[] 72))) (blk_any (w := W1) xn (.cells #[] 72)) (.cells ZV 33)) 4).trans rfl⟩ (fun hHeld => ?_)
        clear hK K
        refine hJ (w.heap.size + 1, w.heap.size + 1 + 1) _ ⟨hb2 _ _, (by show w.heap.size < _; omega), (pw_below_drewN (below_alloc (below_alloc hB1 _) _) 1), (blk_any (w := (W1.alloc (.cells #[] 72))) (blk_any (w := W1) xn (.cells #[] 72)) (.cells ZV 33)).trans (Eq.symm xn), (blk_any (w := (W1.alloc (.cells #[] 72))) (blk_any (w := W1) e0 (.cells #[] 72)) (.cells ZV 33)).trans (Eq.symm e0)⟩
      · rw [if_pos (by rfl)]
        go_wp2
        refine hK.out _ _ ⟨(blk_cell (blk_any (w := (W1.alloc (.cells #[] 72))) (blk_any (w := W1) xn (.cells #[] 72)) (.cells ZV 33)) 0).trans rfl, (blk_cell (blk_any (w := (W1.alloc (.cells #[] 72))) (blk_any (w := W1) xn (.cells #[] 72)) (.cells ZV 33)) 1).trans rfl, (blk_cell (blk_any (w := (W1.alloc (.cells #[] 72))) (blk_any (w := W1) xn (.cells #[] 72)) (.cells ZV 33)) 2).trans rfl, (blk_cell (blk_any (w := (W1.alloc (.cells #[] 72))) (blk_any (w := W1) xn (.cells #[] 72)) (.cells ZV 33)) 3).trans rfl, (blk_cell (blk_any (w := (W1.alloc (.cells #[] 72))) (blk_any (w := W1) xn (.cells #[] 72)) (.cells ZV 33)) 4).trans rfl⟩ (fun hHeld => ?_)
        clear hK K
        refine pzo_ 17 23 HT_ (fun K hK => ?_)
        rw [if_pos (by rfl)]
        go_wp2
        refine hK.out _ _ ⟨(blk_cell (blk_any (w := (W1.alloc (.cells #[] 72))) (blk_any (w := W1) xn (.cells #[] 72)) (.cells ZV 33)) 0).trans rfl, (blk_cell (blk_any (w := (W1.alloc (.cells #[] 72))) (blk_any (w := W1) xn (.cells #[] 72)) (.cells ZV 33)) 1).trans rfl, (blk_cell (blk_any (w := (W1.alloc (.cells #[] 72))) (blk_any (w := W1) xn (.cells #[] 72)) (.cells ZV 33)) 2).trans rfl, (blk_cell (blk_any (w := (W1.alloc (.cells #[] 72))) (blk_any (w := W1) xn (.cells #[] 72)) (.cells ZV 33)) 3).trans rfl, (blk_cell (blk_any (w := (W1.alloc (.cells #[] 72))) (blk_any (w := W1) xn (.cells #[] 72)) (.cells ZV 33)) 4).trans rfl⟩ (fun hHeld => ?_)
        clear hK K
        refine pzp_ 18 24 HT_ ?_
        refine hJ (w.heap.size + 1, w.heap.size + 1 + 1) _ ⟨hb2 _ _, (by show w.heap.size < _; omega), (pw_below_drewN (below_alloc (below_alloc hB1 _) _) 1), (blk_any (w := (W1.alloc (.cells #[] 72))) (blk_any (w := W1) xn (.cells #[] 72)) (.cells ZV 33)).trans (Eq.symm xn), (blk_any (w := (W1.alloc (.cells #[] 72))) (blk_any (w := W1) e0 (.cells #[] 72)) (.cells ZV 33)).trans (Eq.symm e0)⟩
    · rw [if_pos (by rfl)]
      go_wp2
      refine hK.out _ _ ⟨(blk_cell (blk_any (w := W1) xn (.cells ZV 33)) 0).trans rfl, (blk_cell (blk_any (w := W1) xn (.cells ZV 33)) 1).trans rfl, (blk_cell (blk_any (w := W1) xn (.cells ZV 33)) 2).trans rfl, (blk_cell (blk_any (w := W1) xn (.cells ZV 33)) 3).trans rfl, (blk_cell (blk_any (w := W1) xn (.cells ZV 33)) 4).trans rfl⟩ (fun hHeld => ?_)
      clear hK K
      refine pzo_ 12 18 HT_ (fun K hK => ?_)
      rw [if_pos (by rfl)]
      go_wp2
      refine hK.out _ _ ⟨(blk_cell (blk_any (w := (W1.alloc (.cells ZV 33))) (blk_any (w := W1) xn (.cells ZV 33)) (.cells #[] 72)) 0).trans rfl, (blk_cell (blk_any (w := (W1.alloc (.cells ZV 33))) (blk_any (w := W1) xn (.cells ZV 33)) (.cells #[] 72)) 1).trans rfl, (blk_cell (blk_any (w := (W1.alloc (.cells ZV 33))) (blk_any (w := W1) xn (.cells ZV 33)) (.cells #[] 72)) 2).trans rfl, (blk_cell (blk_any (w := (W1.alloc (.cells ZV 33))) (blk_any (w := W1) xn (.cells ZV 33)) (.cells #[] 72)) 3).trans rfl, (blk_cell (blk_any (w := (W1.alloc (.cells ZV 33))) (blk_any (w := W1) xn (.cells ZV 33)) (.cells #[] 72)) 4).trans rfl⟩ (fun hHeld => ?_)
      clear hK K
      refine pzo_ 17 23 HT_ (fun K hK => ?_)
      rw [if_pos (by rfl)]
      go_wp2
      refine hK.out _ _ ⟨(blk_cell (blk_any (w := (W1.alloc (.cells ZV 33))) (blk_any (w := W1) xn (.cells ZV 33)) (.cells #[] 72)) 0).trans rfl, (blk_cell (blk_any (w := (W1.alloc (.cells ZV 33))) (blk_any (w := W1) xn (.cells ZV 33)) (.cells #[] 72)) 1).trans rfl, (blk_cell (blk_any (w := (W1.alloc (.cells ZV 33))) (blk_any (w := W1) xn (.cells ZV 33)) (.cells #[] 72)) 2).trans rfl, (blk_cell (blk_any (w := (W1.alloc (.cells ZV 33))) (blk_any (w := W1) xn (.cells ZV 33)) (.cells #[] 72)) 3).trans rfl, (blk_cell (blk_any (w := (W1.alloc (.cells ZV 33))) (blk_any (w := W1) xn (.cells ZV 33)) (.cells #[] 72)) 4).trans rfl⟩ (fun hHeld => ?_)
      clear hK K
      refine pzp_ 18 24 HT_ ?_
      refine hJ (w.heap.size + 1 + 1, w.heap.size + 1) _ ⟨blk_any (hb1 _) _, (by show w.heap.size < _; omega), (pw_below_drewN (below_alloc (below_alloc hB1 _) _) 1), (blk_any (w := (W1.alloc (.cells ZV 33))) (blk_any (w := W1) xn (.cells ZV 33)) (.cells #[] 72)).trans (Eq.symm xn), (blk_any (w := (W1.alloc (.cells ZV 33))) (blk_any (w := W1) e0 (.cells ZV 33)) (.cells #[] 72)).trans (Eq.symm e0)⟩
  rintro ⟨ba, bt⟩ W2 ⟨h1, h2, h3, h4, h5⟩
  simp only [putAll, Act.put, List.setIfInBounds_toArray, List.set_cons_zero, List.set_cons_succ]
  have h4 := h4.trans xn
  have h5 := h5.trans e0
  have nbn : nd ≠ bt := by have := (Array.getElem?_eq_some_iff.1 hn).1; omega
  clear e0 hB1 xn hW1 hHeld
  refine pzn_ 20 HT_ (fun K hK => ?_)
  rw [if_pos (by rfl)]
  refine wp_store_row 33 (.tmp 3) (.tmp 24) rfl bt #[.int .i64 1, .int .i64 0, .string (⟨#[112]⟩ : ByteArray), .string (⟨#[]⟩ : ByteArray), .slice (some ⟨ba, 0, none⟩) 0 0, .slice none 0 0] rfl rfl 33 ZV h1 (by kernel_rfl) rfl (by kernel_rfl) ?_
  have g1 : (W2.setRow bt #[.int .i64 1, .int .i64 0, .string (⟨#[112]⟩ : ByteArray), .string (⟨#[]⟩ : ByteArray), .slice (some ⟨ba, 0, none⟩) 0 0, .slice none 0 0]).heap[bt]? = some (.cells #[.int .i64 1, .int .i64 0, .string (⟨#[112]⟩ : ByteArray), .string (⟨#[]⟩ : ByteArray), .slice (some ⟨ba, 0, none⟩) 0 0, .slice none 0 0] 33 (0, 0)) := setRow_heap _ _ _ _ _ _ h1
  have g4 : (W2.setRow bt #[.int .i64 1, .int .i64 0, .string (⟨#[112]⟩ : ByteArray), .string (⟨#[]⟩ : ByteArray), .slice (some ⟨ba, 0, none⟩) 0 0, .slice none 0 0]).heap[nd]? = _ := (setRow_other _ _ _ _ nbn).trans h4
  have g5 : (W2.setRow bt #[.int .i64 1, .int .i64 0, .string (⟨#[112]⟩ : ByteArray), .string (⟨#[]⟩ : ByteArray), .slice (some ⟨ba, 0, none⟩) 0 0, .slice none 0 0]).heap[w.heap.size]? = _ := (setRow_other _ _ _ _ (by have : w.heap.size < bt := h2; omega)).trans h5
  have gB : Below w.heap.size w (W2.setRow bt #[.int .i64 1, .int .i64 0, .string (⟨#[112]⟩ : ByteArray), .string (⟨#[]⟩ : ByteArray), .slice (some ⟨ba, 0, none⟩) 0 0, .slice none 0 0]) := below_row h3 (Nat.le_of_lt h2) _
  clear h1 h3 h4 h5
  generalize W2.setRow bt #[.int .i64 1, .int .i64 0, .string (⟨#[112]⟩ : ByteArray), .string (⟨#[]⟩ : ByteArray), .slice (some ⟨ba, 0, none⟩) 0 0, .slice none 0 0] = W3 at g1 g4 g5 gB ⊢
  refine hK.out _ _ ⟨(blk_cell g4 0).trans rfl, (blk_cell g4 1).trans rfl, (blk_cell g4 2).trans rfl, (blk_cell g4 3).trans rfl, (blk_cell g4 4).trans rfl⟩ (fun hHeld => ?_)
  clear hK K hHeld
  refine done_ (done_of HT_.out (by kernel_rfl)) ?_
  clear HT_
  have d6 := blk_cell g4 6
  go_wp2
  go_loopw [30] (fun i wr => i = .int .i64 0 ∧ wr = W3) (fun i _ => 0)
  case atStart => exact ⟨rfl, rfl⟩
  case round =>
    obtain ⟨rfl, rfl⟩ := hrel
    have d0 := blk_cell g1 0
    have d1 := blk_cell g1 1
    have d2 := blk_cell g1 2
    have d3 := blk_cell g1 3
    have d4 := blk_cell g1 4
    have d5 := blk_cell g1 5
    have g6 := setRow_heap wr w.heap.size ZV #[.int .i64 1, .int .i64 0, .string (⟨#[112]⟩ : ByteArray), .string (⟨#[]⟩ : ByteArray), .slice (some ⟨ba, 0, none⟩) 0 0, .slice none 0 0] 33 (0, 0) g5
    have gB2 : Below w.heap.size w (wr.setRow w.heap.size #[.int .i64 1, .int .i64 0, .string (⟨#[112]⟩ : ByteArray), .string (⟨#[]⟩ : ByteArray), .slice (some ⟨ba, 0, none⟩) 0 0, .slice none 0 0]) := below_row gB (Nat.le_refl _) _
    have f0 := blk_cell g6 0
    have f1 := blk_cell g6 1
    have f2 := blk_cell g6 2
    have f3 := blk_cell g6 3
    have f4 := blk_cell g6 4
    have f5 := blk_cell g6 5
    go_wp2_with (first | ((with_reducible refine gate_store (t := 33) (p := 2) (v := .tmp 42) rfl ?_); refine store_row_ rfl 33 (.tmp 2) (.tmp 42) rfl w.heap.size #[.int .i64 1, .int .i64 0, .string (⟨#[112]⟩ : ByteArray), .string (⟨#[]⟩ : ByteArray), .slice (some ⟨ba, 0, none⟩) 0 0, .slice none 0 0] rfl rfl 33 ZV g5 (by kernel_rfl) rfl (by kernel_rfl) ?_))
    refine bodyPost_ret (results_cell_row rfl _ _ w.heap.size 33 #[.int .i64 1, .int .i64 0, .string (⟨#[112]⟩ : ByteArray), .string (⟨#[]⟩ : ByteArray), .slice (some ⟨ba, 0, none⟩) 0 0, .slice none 0 0] (0, 0) _ rfl g6 Try.underlying33 rfl (by kernel_rfl)) rfl ?_
    exact ⟨⟨ba, rfl⟩, gB2⟩
set_option maxHeartbeats 4000000 in
set_option maxRecDepth 100000 in
theorem tellR (w : World) (nd ab g cap ne : Nat) (cs : Array Value) (hg : w.heap[g]? = some (.cells cs 58 (0, 0))) (hcs : cs[0]? = some (.pointer (some ⟨ne, 0, none⟩))) (he : w.heap[ne]? = some (.cells #[.int .i64 1, .int .i64 0, .string (⟨#[112]⟩ : ByteArray), .string (⟨#[]⟩ : ByteArray), .slice none 0 0, .pointer (some ⟨nd, 0, none⟩), .slice none 0 0] 80 (0, 0))) (hn : w.heap[nd]? = some (.cells #[.int .i64 0, .int .i64 0, .string (⟨#[114, 111, 111, 116]⟩ : ByteArray), .string (⟨#[]⟩ : ByteArray), .slice (some ⟨ab, 0, none⟩) 0 0, .pointer none, .slice (some ⟨g, 0, none⟩) 1 cap] 80 (0, 0))) : Calls Try.prog 37 #[.pointer (some ⟨nd, 0, none⟩)] w fun e w' => (∃ ba gk ck cs', e = .returned (.agg #[.int .i64 0, .int .i64 0, .string (⟨#[114, 111, 111, 116]⟩ : ByteArray), .string (⟨#[]⟩ : ByteArray), .slice (some ⟨ba, 0, none⟩) 0 0, .slice (some ⟨gk, 0, none⟩) 1 ck]) ∧ w'.heap[gk]? = some (.cells cs' 33 (0, 0)) ∧ cs'[0]? = some (.int .i64 1) ∧ cs'[1]? = some (.int .i64 0) ∧ cs'[2]? = some (.string (⟨#[112]⟩ : ByteArray))) ∧ Below w.heap.size w w' := by
  go_enter Try.func37, Try.ntmps37
  go_wp2
  have e0 := blk_new w (.cells ZV 33)
  have hB1 : Below w.heap.size w (w.alloc (.cells ZV 33)) := below_alloc (Below.refl _ _) _
  have xn := blk_alloc hn (.cells ZV 33)
  have hW1 : (w.alloc (.cells ZV 33)).heap.size = w.heap.size + 1 := by simp
  generalize w.alloc (.cells ZV 33) = W1 at e0 hB1 xn hW1 ⊢
  refine start_ (n := 21) (S := fun w' => w'.cell? ⟨nd, 0, none⟩ = some (.int .i64 0) ∧ w'.cell? ⟨nd, 1, none⟩ = some (.int .i64 0) ∧ w'.cell? ⟨nd, 2, none⟩ = some (.string (⟨#[114, 111, 111, 116]⟩ : ByteArray)) ∧ w'.cell? ⟨nd, 3, none⟩ = some (.string (⟨#[]⟩ : ByteArray)) ∧ w'.cell? ⟨nd, 4, none⟩ = some (.slice (some ⟨ab, 0, none⟩) 0 0)) (ds := []) #[false, false, false, false, false, false, false, false, false, false, false, false, false, false, false, false, false, false, false, false, false] (by kernel_rfl) rfl rfl ⟨(blk_cell xn 0).trans rfl, (blk_cell xn 1).trans rfl, (blk_cell xn 2).trans rfl, (blk_cell xn 3).trans rfl, (blk_cell xn 4).trans rfl⟩ (fun hHeld => ?_)
  refine with_tab tab37_1 (fun HT_ => ?_)
  refine pzp_ 0 6 HT_ ?_
  refine pzp_ 1 7 HT_ ?_
  refine pzp_ 2 8 HT_ ?_
  refine pzt5_ 3 9 HT_ hHeld ?_
  refine pzp_ 4 10 HT_ ?_
  refine pzp_ 5 11 HT_ ?_
  refine pzp_ 6 12 HT_ ?_
  refine pzt5_ 7 13 HT_ hHeld ?_
  refine pzp_ 8 14 HT_ ?_
  refine pzp_ 9 15 HT_ ?_
  refine pzp_ 10 16 HT_ ?_
  refine pzt5_ 11 17 HT_ hHeld ?_
  refine pzp_ 13 19 HT_ ?_
  refine pzp_ 14 20 HT_ ?_
  refine pzp_ 15 21 HT_ ?_
  refine pzt5_ 16 22 HT_ hHeld ?_
  refine join_ (σ := Nat × Nat) 1 #[true, true, true, true, true, true, true, true, true, true, true, true, true, true, true, true, true, true, true, true, false] (fun s => [(18, .slice (some ⟨s.1, 0, none⟩) 0 0), (23, .slice (some ⟨s.1, 0, none⟩) 0 0), (24, .agg #[.int .i64 0, .int .i64 0, .string (⟨#[114, 111, 111, 116]⟩ : ByteArray), .string (⟨#[]⟩ : ByteArray), .slice (some ⟨s.1, 0, none⟩) 0 0, .slice none 0 0]), (3, .pointer (some ⟨s.2, 0, none⟩))]) (fun s w' => w'.heap[s.2]? = some (.cells ZV 33 (0, 0)) ∧ w.heap.size < s.2 ∧ Below w.heap.size w w' ∧ w'.heap[nd]? = W1.drew.heap[nd]? ∧ w'.heap[w.heap.size]? = W1.drew.heap[w.heap.size]?) ?_ (fun hJ => ?_)
  rotate_left
  · have hs1 : ∀ o, (W1.alloc o).heap.size = w.heap.size + 1 + 1 := fun o => by simp [hW1]
    have hb1 : ∀ o, (W1.alloc o).heap[w.heap.size + 1]? = some o := fun o => by have h := blk_new W1 o; rwa [hW1] at h
    have hb2 : ∀ o o', ((W1.alloc o).alloc o').heap[w.heap.size + 1 + 1]? = some o' := fun o o' => by have h := blk_new (W1.alloc o) o'; rwa [hs1] at h
    refine two_ (i := 12) (j := 19) (Ni := some 18) (Nj := some 3) #[true, true, true, true, true, true, true, true, true, true, true, true, true, true, true, true, true, false, false, false, false] #[true, true, true, true, true, true, true, true, true, true, true, true, false, true, true, true, true, false, false, true, false] rfl rfl rfl rfl (by kernel_rfl) (by decide) (by decide) (fun K hK => ?_) (fun K hK => ?_)
    · rw [if_pos (by rfl)]
      go_wp2
      refine hK.out _ _ ⟨(blk_cell (blk_any (w := W1) xn (.cells #[] 72)) 0).trans rfl, (blk_cell (blk_any (w := W1) xn (.cells #[] 72)) 1).trans rfl, (blk_cell (blk_any (w := W1) xn (.cells #[] 72)) 2).trans rfl, (blk_cell (blk_any (w := W1) xn (.cells #[] 72)) 3).trans rfl, (blk_cell (blk_any (w := W1) xn (.cells #[] 72)) 4).trans rfl⟩ (fun hHeld => ?_)
      clear hK K
      refine two_ (i := 17) (j := 19) (Ni := some 23) (Nj := some 3) #[true, true, true, true, true, true, true, true, true, true, true, true, true, true, true, true, true, true, false, false, false] #[true, true, true, true, true, true, true, true, true, true, true, true, true, true, true, true, true, false, false, true, false] rfl rfl rfl rfl (by kernel_rfl) (by decide) (by decide) (fun K hK => ?_) (fun K hK => ?_)
      · rw [if_pos (by rfl)]
        go_wp2
        refine hK.out _ _ ⟨(blk_cell (blk_any (w := W1) xn (.cells #[] 72)) 0).trans rfl, (blk_cell (blk_any (w := W1) xn (.cells #[] 72)) 1).trans rfl, (blk_cell (blk_any (w := W1) xn (.cells #[] 72)) 2).trans rfl, (blk_cell (blk_any (w := W1) xn (.cells #[] 72)) 3).trans rfl, (blk_cell (blk_any (w := W1) xn (.cells #[] 72)) 4).trans rfl⟩ (fun hHeld => ?_)
        clear hK K
        refine pzp_ 18 24 HT_ ?_
        refine pzo_ 19 3 HT_ (fun K hK => ?_)
        rw [if_pos (by rfl)]
        go_wp2
        refine hK.out _ _ ⟨(blk_cell (blk_any (w := (W1.alloc (.cells #[] 72))) (blk_any (w := W1) xn (.cells #[] 72)) (.cells ZV 33)) 0).trans rfl, (blk_cell (blk_any (w := (W1.alloc (.cells #[] 72))) (blk_any (w := W1) xn (.cells #[] 72)) (.cells ZV 33)) 1).trans rfl, (blk_cell (blk_any (w := (W1.alloc (.cells #[] 72))) (blk_any (w := W1) xn (.cells #[] 72)) (.cells ZV 33)) 2).trans rfl, (blk_cell (blk_any (w := (W1.alloc (.cells #[] 72))) (blk_any (w := W1) xn (.cells #[] 72)) (.cells ZV 33)) 3).trans rfl, (blk_cell (blk_any (w := (W1.alloc (.cells #[] 72))) (blk_any (w := W1) xn (.cells #[] 72)) (.cells ZV 33)) 4).trans rfl⟩ (fun hHeld => ?_)
        clear hK K
        refine hJ (w.heap.size + 1, w.heap.size + 1 + 1) _ ⟨hb2 _ _, (by show w.heap.size < _; omega), (pw_below_drewN (below_alloc (below_alloc hB1 _) _) 1), (blk_any (w := (W1.alloc (.cells #[] 72))) (blk_any (w := W1) xn (.cells #[] 72)) (.cells ZV 33)).trans (Eq.symm xn), (blk_any (w := (W1.alloc (.cells #[] 72))) (blk_any (w := W1) e0 (.cells #[] 72)) (.cells ZV 33)).trans (Eq.symm e0)⟩
      · rw [if_pos (by rfl)]
        go_wp2
        refine hK.out _ _ ⟨(blk_cell (blk_any (w := (W1.alloc (.cells #[] 72))) (blk_any (w := W1) xn (.cells #[] 72)) (.cells ZV 33)) 0).trans rfl, (blk_cell (blk_any (w := (W1.alloc (.cells #[] 72))) (blk_any (w := W1) xn (.cells #[] 72)) (.cells ZV 33)) 1).trans rfl, (blk_cell (blk_any (w := (W1.alloc (.cells #[] 72))) (blk_any (w := W1) xn (.cells #[] 72)) (.cells ZV 33)) 2).trans rfl, (blk_cell (blk_any (w := (W1.alloc (.cells #[] 72))) (blk_any (w := W1) xn (.cells #[] 72)) (.cells ZV 33)) 3).trans rfl, (blk_cell (blk_any (w := (W1.alloc (.cells #[] 72))) (blk_any (w := W1) xn (.cells #[] 72)) (.cells ZV 33)) 4).trans rfl⟩ (fun hHeld => ?_)
        clear hK K
        refine pzo_ 17 23 HT_ (fun K hK => ?_)
        rw [if_pos (by rfl)]
        go_wp2
        refine hK.out _ _ ⟨(blk_cell (blk_any (w := (W1.alloc (.cells #[] 72))) (blk_any (w := W1) xn (.cells #[] 72)) (.cells ZV 33)) 0).trans rfl, (blk_cell (blk_any (w := (W1.alloc (.cells #[] 72))) (blk_any (w := W1) xn (.cells #[] 72)) (.cells ZV 33)) 1).trans rfl, (blk_cell (blk_any (w := (W1.alloc (.cells #[] 72))) (blk_any (w := W1) xn (.cells #[] 72)) (.cells ZV 33)) 2).trans rfl, (blk_cell (blk_any (w := (W1.alloc (.cells #[] 72))) (blk_any (w := W1) xn (.cells #[] 72)) (.cells ZV 33)) 3).trans rfl, (blk_cell (blk_any (w := (W1.alloc (.cells #[] 72))) (blk_any (w := W1) xn (.cells #[] 72)) (.cells ZV 33)) 4).trans rfl⟩ (fun hHeld => ?_)
        clear hK K
        refine pzp_ 18 24 HT_ ?_
        refine hJ (w.heap.size + 1, w.heap.size + 1 + 1) _ ⟨hb2 _ _, (by show w.heap.size < _; omega), (pw_below_drewN (below_alloc (below_alloc hB1 _) _) 1), (blk_any (w := (W1.alloc (.cells #[] 72))) (blk_any (w := W1) xn (.cells #[] 72)) (.cells ZV 33)).trans (Eq.symm xn), (blk_any (w := (W1.alloc (.cells #[] 72))) (blk_any (w := W1) e0 (.cells #[] 72)) (.cells ZV 33)).trans (Eq.symm e0)⟩
    · rw [if_pos (by rfl)]
      go_wp2
      refine hK.out _ _ ⟨(blk_cell (blk_any (w := W1) xn (.cells ZV 33)) 0).trans rfl, (blk_cell (blk_any (w := W1) xn (.cells ZV 33)) 1).trans rfl, (blk_cell (blk_any (w := W1) xn (.cells ZV 33)) 2).trans rfl, (blk_cell (blk_any (w := W1) xn (.cells ZV 33)) 3).trans rfl, (blk_cell (blk_any (w := W1) xn (.cells ZV 33)) 4).trans rfl⟩ (fun hHeld => ?_)
      clear hK K
      refine pzo_ 12 18 HT_ (fun K hK => ?_)
      rw [if_pos (by rfl)]
      go_wp2
      refine hK.out _ _ ⟨(blk_cell (blk_any (w := (W1.alloc (.cells ZV 33))) (blk_any (w := W1) xn (.cells ZV 33)) (.cells #[] 72)) 0).trans rfl, (blk_cell (blk_any (w := (W1.alloc (.cells ZV 33))) (blk_any (w := W1) xn (.cells ZV 33)) (.cells #[] 72)) 1).trans rfl, (blk_cell (blk_any (w := (W1.alloc (.cells ZV 33))) (blk_any (w := W1) xn (.cells ZV 33)) (.cells #[] 72)) 2).trans rfl, (blk_cell (blk_any (w := (W1.alloc (.cells ZV 33))) (blk_any (w := W1) xn (.cells ZV 33)) (.cells #[] 72)) 3).trans rfl, (blk_cell (blk_any (w := (W1.alloc (.cells ZV 33))) (blk_any (w := W1) xn (.cells ZV 33)) (.cells #[] 72)) 4).trans rfl⟩ (fun hHeld => ?_)
      clear hK K
      refine pzo_ 17 23 HT_ (fun K hK => ?_)
      rw [if_pos (by rfl)]
      go_wp2
      refine hK.out _ _ ⟨(blk_cell (blk_any (w := (W1.alloc (.cells ZV 33))) (blk_any (w := W1) xn (.cells ZV 33)) (.cells #[] 72)) 0).trans rfl, (blk_cell (blk_any (w := (W1.alloc (.cells ZV 33))) (blk_any (w := W1) xn (.cells ZV 33)) (.cells #[] 72)) 1).trans rfl, (blk_cell (blk_any (w := (W1.alloc (.cells ZV 33))) (blk_any (w := W1) xn (.cells ZV 33)) (.cells #[] 72)) 2).trans rfl, (blk_cell (blk_any (w := (W1.alloc (.cells ZV 33))) (blk_any (w := W1) xn (.cells ZV 33)) (.cells #[] 72)) 3).trans rfl, (blk_cell (blk_any (w := (W1.alloc (.cells ZV 33))) (blk_any (w := W1) xn (.cells ZV 33)) (.cells #[] 72)) 4).trans rfl⟩ (fun hHeld => ?_)
      clear hK K
      refine pzp_ 18 24 HT_ ?_
      refine hJ (w.heap.size + 1 + 1, w.heap.size + 1) _ ⟨blk_any (hb1 _) _, (by show w.heap.size < _; omega), (pw_below_drewN (below_alloc (below_alloc hB1 _) _) 1), (blk_any (w := (W1.alloc (.cells ZV 33))) (blk_any (w := W1) xn (.cells ZV 33)) (.cells #[] 72)).trans (Eq.symm xn), (blk_any (w := (W1.alloc (.cells ZV 33))) (blk_any (w := W1) e0 (.cells ZV 33)) (.cells #[] 72)).trans (Eq.symm e0)⟩
  rintro ⟨ba, bt⟩ W2 ⟨h1, h2, h3, h4, h5⟩
  simp only [putAll, Act.put, List.setIfInBounds_toArray, List.set_cons_zero, List.set_cons_succ]
  have h4 := h4.trans xn
  have h5 := h5.trans e0
  have nbn : nd ≠ bt := by have := (Array.getElem?_eq_some_iff.1 hn).1; omega
  clear e0 hB1 xn hW1 hHeld
  refine pzn_ 20 HT_ (fun K hK => ?_)
  rw [if_pos (by rfl)]
  refine wp_store_row 33 (.tmp 3) (.tmp 24) rfl bt #[.int .i64 0, .int .i64 0, .string (⟨#[114, 111, 111, 116]⟩ : ByteArray), .string (⟨#[]⟩ : ByteArray), .slice (some ⟨ba, 0, none⟩) 0 0, .slice none 0 0] rfl rfl 33 ZV h1 (by kernel_rfl) rfl (by kernel_rfl) ?_
  have g1 : (W2.setRow bt #[.int .i64 0, .int .i64 0, .string (⟨#[114, 111, 111, 116]⟩ : ByteArray), .string (⟨#[]⟩ : ByteArray), .slice (some ⟨ba, 0, none⟩) 0 0, .slice none 0 0]).heap[bt]? = some (.cells #[.int .i64 0, .int .i64 0, .string (⟨#[114, 111, 111, 116]⟩ : ByteArray), .string (⟨#[]⟩ : ByteArray), .slice (some ⟨ba, 0, none⟩) 0 0, .slice none 0 0] 33 (0, 0)) := setRow_heap _ _ _ _ _ _ h1
  have g4 : (W2.setRow bt #[.int .i64 0, .int .i64 0, .string (⟨#[114, 111, 111, 116]⟩ : ByteArray), .string (⟨#[]⟩ : ByteArray), .slice (some ⟨ba, 0, none⟩) 0 0, .slice none 0 0]).heap[nd]? = _ := (setRow_other _ _ _ _ nbn).trans h4
  have g5 : (W2.setRow bt #[.int .i64 0, .int .i64 0, .string (⟨#[114, 111, 111, 116]⟩ : ByteArray), .string (⟨#[]⟩ : ByteArray), .slice (some ⟨ba, 0, none⟩) 0 0, .slice none 0 0]).heap[w.heap.size]? = _ := (setRow_other _ _ _ _ (by have : w.heap.size < bt := h2; omega)).trans h5
  have gB : Below w.heap.size w (W2.setRow bt #[.int .i64 0, .int .i64 0, .string (⟨#[114, 111, 111, 116]⟩ : ByteArray), .string (⟨#[]⟩ : ByteArray), .slice (some ⟨ba, 0, none⟩) 0 0, .slice none 0 0]) := below_row h3 (Nat.le_of_lt h2) _
  clear h1 h3 h4 h5
  generalize W2.setRow bt #[.int .i64 0, .int .i64 0, .string (⟨#[114, 111, 111, 116]⟩ : ByteArray), .string (⟨#[]⟩ : ByteArray), .slice (some ⟨ba, 0, none⟩) 0 0, .slice none 0 0] = W3 at g1 g4 g5 gB ⊢
  refine hK.out _ _ ⟨(blk_cell g4 0).trans rfl, (blk_cell g4 1).trans rfl, (blk_cell g4 2).trans rfl, (blk_cell g4 3).trans rfl, (blk_cell g4 4).trans rfl⟩ (fun hHeld => ?_)
  clear hK K hHeld
  refine done_ (done_of HT_.out (by kernel_rfl)) ?_
  clear HT_
  have d6 := blk_cell g4 6
  go_wp2
  have gk := gB.block g (Array.getElem?_eq_some_iff.1 hg).1
  have gk := gk.trans hg
  have ge := gB.block ne (Array.getElem?_eq_some_iff.1 he).1
  have ge := ge.trans he
  go_loopw [30] (fun i wr => (i = .int .i64 0 ∧ wr = W3) ∨ (i = .int .i64 1 ∧ ∃ gk ck cs', wr.heap[bt]? = some (.cells #[.int .i64 0, .int .i64 0, .string (⟨#[114, 111, 111, 116]⟩ : ByteArray), .string (⟨#[]⟩ : ByteArray), .slice (some ⟨ba, 0, none⟩) 0 0, .slice (some ⟨gk, 0, none⟩) 1 ck] 33 (0, 0)) ∧ wr.heap[w.heap.size]? = some (.cells ZV 33 (0, 0)) ∧ Below w.heap.size w wr ∧ wr.heap[gk]? = some (.cells cs' 33 (0, 0)) ∧ cs'[0]? = some (.int .i64 1) ∧ cs'[1]? = some (.int .i64 0) ∧ cs'[2]? = some (.string (⟨#[112]⟩ : ByteArray)))) (fun i _ => match i with | .int _ k => (1 - k).toNat | _ => 0)
  case atStart => exact .inl ⟨rfl, rfl⟩
  case round =>
    rcases hrel with ⟨rfl, rfl⟩ | ⟨rfl, gk', ck, cs', r1, r2, r3, r4, r5, r6, r7⟩
    · have k0 := (blk_cell gk 0).trans hcs
      go_wp2
      have z5 := blk_cell g1 5
      refine start_ (n := 8) (S := fun w' => w'.cell? ⟨bt, 5, none⟩ = some (.slice none 0 0) ∧ w'.cell? ⟨bt, 0, none⟩ = some (.int .i64 0)) (ds := [7]) #[false, false, false, false, false, false, false, false] (by kernel_rfl) rfl rfl ⟨(blk_cell g1 5).trans rfl, (blk_cell g1 0).trans rfl⟩ (fun hHeld => ?_)
      refine with_tab tab37_5 (fun HT_ => ?_)
      refine pzp_ 0 34 HT_ ?_
      refine pzt2_ 1 35 HT_ hHeld ?_
      refine pzp_ 2 36 HT_ ?_
      refine pzo_ 3 37 HT_ (fun K hK => ?_)
      rw [if_pos (by rfl)]
      go_wp2_with (go_at_call 37; refine (tellE wr.drew ne nd ge).mono ?_; rintro e W5 ⟨⟨bk, rfl⟩, hB5⟩)
      have m1 := blk_belowx (w := wr.drew) g1 hB5
      have m5 := blk_belowx (w := wr.drew) g5 hB5
      have mB := below_step (pw_below_drewN gB 1) hB5
      refine hK.out _ _ ⟨(blk_cell m1 5).trans rfl, (blk_cell m1 0).trans rfl⟩ (fun hHeld => ?_)
      clear hK K
      refine pzo_ 4 38 HT_ (fun K hK => ?_)
      rw [if_pos (by rfl)]
      go_wp2
      have m1 := blk_any m1 (.cells #[.int .i64 1, .int .i64 0, .string (⟨#[112]⟩ : ByteArray), .string (⟨#[]⟩ : ByteArray), .slice (some ⟨bk, 0, none⟩) 0 0, .slice none 0 0] 33)
      have m5 := blk_any m5 (.cells #[.int .i64 1, .int .i64 0, .string (⟨#[112]⟩ : ByteArray), .string (⟨#[]⟩ : ByteArray), .slice (some ⟨bk, 0, none⟩) 0 0, .slice none 0 0] 33)
      have mB := below_alloc mB (.cells #[.int .i64 1, .int .i64 0, .string (⟨#[112]⟩ : ByteArray), .string (⟨#[]⟩ : ByteArray), .slice (some ⟨bk, 0, none⟩) 0 0, .slice none 0 0] 33)
      have mv := blk_new W5 (.cells #[.int .i64 1, .int .i64 0, .string (⟨#[112]⟩ : ByteArray), .string (⟨#[]⟩ : ByteArray), .slice (some ⟨bk, 0, none⟩) 0 0, .slice none 0 0] 33)
      refine hK.out _ _ ⟨(blk_cell m1 5).trans rfl, (blk_cell m1 0).trans rfl⟩ (fun hHeld => ?_)
      clear hK K
      generalize W5.heap.size = bv at mv ⊢
      generalize W5.alloc (.cells #[.int .i64 1, .int .i64 0, .string (⟨#[112]⟩ : ByteArray), .string (⟨#[]⟩ : ByteArray), .slice (some ⟨bk, 0, none⟩) 0 0, .slice none 0 0] 33) = W6 at m1 m5 mB mv ⊢
      have v0 := blk_cell mv 0
      have v1 := blk_cell mv 1
      have v2 := blk_cell mv 2
      have v3 := blk_cell mv 3
      have v4 := blk_cell mv 4
      have v5 := blk_cell mv 5
      refine pzo_ 5 39 HT_ (fun K hK => ?_)
      rw [if_pos (by rfl)]
      go_wp2
      generalize Builtin.zeroCells _ _ = Z
      generalize Question.cut _ _ = ck
      have q0 : (#[.int .i64 1, .int .i64 0, .string (⟨#[112]⟩ : ByteArray), .string (⟨#[]⟩ : ByteArray), .slice (some ⟨bk, 0, none⟩) 0 0, .slice none 0 0] ++ Z)[0]? = some (.int .i64 1) := by simp [Array.getElem?_append]
      have q1 : (#[.int .i64 1, .int .i64 0, .string (⟨#[112]⟩ : ByteArray), .string (⟨#[]⟩ : ByteArray), .slice (some ⟨bk, 0, none⟩) 0 0, .slice none 0 0] ++ Z)[1]? = some (.int .i64 0) := by simp [Array.getElem?_append]
      have q2 : (#[.int .i64 1, .int .i64 0, .string (⟨#[112]⟩ : ByteArray), .string (⟨#[]⟩ : ByteArray), .slice (some ⟨bk, 0, none⟩) 0 0, .slice none 0 0] ++ Z)[2]? = some (.string (⟨#[112]⟩ : ByteArray)) := by simp [Array.getElem?_append]
      generalize #[.int .i64 1, .int .i64 0, .string (⟨#[112]⟩ : ByteArray), .string (⟨#[]⟩ : ByteArray), .slice (some ⟨bk, 0, none⟩) 0 0, .slice none 0 0] ++ Z = cs' at q0 q1 q2 ⊢
      have hlt := (Array.getElem?_eq_some_iff.1 m1).1
      have x1 := blk_any m1 (.cells cs' 33)
      have x5 := blk_any m5 (.cells cs' 33)
      have xB := pw_below_drewN (below_alloc mB (.cells cs' 33)) 1
      have xv := blk_new W6 (.cells cs' 33)
      have x1 : (W6.alloc (.cells cs' 33)).drew.heap[bt]? = _ := x1
      have x5 : (W6.alloc (.cells cs' 33)).drew.heap[w.heap.size]? = _ := x5
      have xv : (W6.alloc (.cells cs' 33)).drew.heap[W6.heap.size]? = _ := xv
      clear m1 m5 mB mv v0 v1 v2 v3 v4 v5 z5 k0 gk ge g1 g4 g5 gB d6 hHeld
      refine hK.out _ _ ⟨(blk_cell x1 5).trans rfl, (blk_cell x1 0).trans rfl⟩ (fun hHeld => ?_)
      clear hK K
      generalize hgv : W6.heap.size = gv at xv hlt ⊢
      have xB : Below w.heap.size w (W6.alloc (.cells cs' 33)).drew := xB
      generalize (W6.alloc (.cells cs' 33)).drew = W7 at x1 x5 xB xv hHeld ⊢
      refine pzp_ 6 40 HT_ ?_
      have y5 := blk_cell x1 5
      have fz : W7.frozen? ⟨bt, 5, none⟩ = false := by simp [World.frozen?, x1]
      refine last_ (i := 7) (N := none) #[true, true, true, true, true, true, true, true] rfl rfl (one_of HT_.out (by kernel_rfl)) (by decide) (fun K hK => ?_)
      rw [if_pos (by rfl)]
      go_wp2
      have t1 : (W7.setCell ⟨bt, 5, none⟩ (.slice (some ⟨gv, 0, none⟩) 1 ck)).heap[bt]? = some (.cells #[.int .i64 0, .int .i64 0, .string (⟨#[114, 111, 111, 116]⟩ : ByteArray), .string (⟨#[]⟩ : ByteArray), .slice (some ⟨ba, 0, none⟩) 0 0, .slice (some ⟨gv, 0, none⟩) 1 ck] 33 (0, 0)) := set_self x1 _
      have t5 := set_far (b := bt) (k := 5) x5 (by have : w.heap.size < bt := h2; omega) (.slice (some ⟨gv, 0, none⟩) 1 ck)
      have tv := set_far (b := bt) (k := 5) xv (by omega) (.slice (some ⟨gv, 0, none⟩) 1 ck)
      have tB := Below.setCell xB (p := ⟨bt, 5, none⟩) (Nat.le_of_lt h2) (.slice (some ⟨gv, 0, none⟩) 1 ck)
      clear y5 fz x1 x5 xB xv hHeld
      generalize W7.setCell ⟨bt, 5, none⟩ (.slice (some ⟨gv, 0, none⟩) 1 ck) = W8 at t1 t5 tv tB ⊢
      refine hK.out _ _ ?_
      clear hK K
      refine done_ (done_of HT_.out (by kernel_rfl)) ?_
      clear HT_
      go_wp2
      exact ⟨.inr ⟨rfl, gv, ck, cs', t1, t5, tB, tv, q0, q1, q2⟩, by decide⟩
    · have hgk : gk' ≠ w.heap.size := by intro e; subst e; rw [r2] at r4; injection r4 with r4; injection r4 with r4; subst r4; simp [ZV] at r5
      have d0 := blk_cell r1 0
      have d1 := blk_cell r1 1
      have d2 := blk_cell r1 2
      have d3 := blk_cell r1 3
      have d4 := blk_cell r1 4
      have d5 := blk_cell r1 5
      have g6 := setRow_heap wr w.heap.size ZV #[.int .i64 0, .int .i64 0, .string (⟨#[114, 111, 111, 116]⟩ : ByteArray), .string (⟨#[]⟩ : ByteArray), .slice (some ⟨ba, 0, none⟩) 0 0, .slice (some ⟨gk', 0, none⟩) 1 ck] 33 (0, 0) r2
      have gB2 : Below w.heap.size w (wr.setRow w.heap.size #[.int .i64 0, .int .i64 0, .string (⟨#[114, 111, 111, 116]⟩ : ByteArray), .string (⟨#[]⟩ : ByteArray), .slice (some ⟨ba, 0, none⟩) 0 0, .slice (some ⟨gk', 0, none⟩) 1 ck]) := below_row r3 (Nat.le_refl _) _
      have g7 : (wr.setRow w.heap.size #[.int .i64 0, .int .i64 0, .string (⟨#[114, 111, 111, 116]⟩ : ByteArray), .string (⟨#[]⟩ : ByteArray), .slice (some ⟨ba, 0, none⟩) 0 0, .slice (some ⟨gk', 0, none⟩) 1 ck]).heap[gk']? = _ := (setRow_other _ _ _ _ hgk).trans r4
      go_wp2_with (first | ((with_reducible refine gate_store (t := 33) (p := 2) (v := .tmp 42) rfl ?_); refine store_row_ rfl 33 (.tmp 2) (.tmp 42) rfl w.heap.size #[.int .i64 0, .int .i64 0, .string (⟨#[114, 111, 111, 116]⟩ : ByteArray), .string (⟨#[]⟩ : ByteArray), .slice (some ⟨ba, 0, none⟩) 0 0, .slice (some ⟨gk', 0, none⟩) 1 ck] rfl rfl 33 ZV r2 (by kernel_rfl) rfl (by kernel_rfl) ?_))
      refine bodyPost_ret (results_cell_row rfl _ _ w.heap.size 33 #[.int .i64 0, .int .i64 0, .string (⟨#[114, 111, 111, 116]⟩ : ByteArray), .string (⟨#[]⟩ : ByteArray), .slice (some ⟨ba, 0, none⟩) 0 0, .slice (some ⟨gk', 0, none⟩) 1 ck] (0, 0) _ rfl g6 Try.underlying33 rfl (by kernel_rfl)) rfl ?_
      exact ⟨⟨ba, gk', ck, cs', rfl, g7, r5, r6, r7⟩, gB2⟩
end
section
attribute [local go_sem] Oper.semAt_some
theorem KeptBut.at_ {R : Nat → Prop} {w w' : World} {g : Nat} {o : Obj} (h : w.heap[g]? = some o) (k : KeptBut R w w') (hr : ¬ R g) : w'.heap[g]? = some o := (k.2.2.2.2 g (Array.getElem?_eq_some_iff.1 h).1 hr).trans h
theorem KeptBut.below {R : Nat → Prop} {B : Nat} {a w w' : World} (h : Below B a w) (k : KeptBut R w w') (hB : B ≤ w.heap.size) (hr : ∀ i, R i → B ≤ i) : Below B a w' := h.trans ⟨k.1, k.2.1, k.2.2.1, k.2.2.2.1, fun i hi => k.2.2.2.2 i (by omega) (fun e => by have := hr i e; omega)⟩
theorem mkm (w : World) : (Instr.makeMap 57 none).run Try.prog w = .ok (.map (some w.heap.size)) (w.alloc (.map #[] 0)) := rfl
attribute [local go_sem] mkm
abbrev ZP : Array Value := #[.int .i64 0, .int .i64 0, .int .i64 0, .int .i64 0, .int .i64 0, .int .i64 0, .int .i64 0, .string (⟨#[]⟩ : ByteArray), .string (⟨#[]⟩ : ByteArray)]
abbrev LC : Array Value := #[.int .i64 3, .int .i64 1, .int .i64 0, .int .i64 0, .int .i64 0, .int .i64 0, .int .i64 0, .string (⟨#[112]⟩ : ByteArray), .string (⟨#[]⟩ : ByteArray), .int .i64 4, .int .i64 1, .int .i64 0, .int .i64 0, .int .i64 0, .int .i64 0, .int .i64 0, .string (⟨#[]⟩ : ByteArray), .string (⟨#[]⟩ : ByteArray)]
theorem store_new_ {P : Program} {ops : Array Oper} {rest : List Oper} {o : Oper} {a : Act} {w : World} {Q : Exit → Act → World → Prop} (hg0 : o.guard = none) (ty : TypeId) (x y : Operand) (ho : o.op = .store ty x y)
    (t : TypeId) (old cells : Array Value) (hx : a.eval x = .pointer (some ⟨w.heap.size, 0, none⟩)) (hy : a.eval y = .agg cells) (hi : (P.info? ty).map (·.size) = some cells.size)
    (hold : old.size = cells.size) (h1 : cells.all (·.oneCell') = true)
    (h : wpList P ops Q rest (a.put o.dst undef) (w.alloc (.cells cells t))) : wpList P ops Q (o :: rest) a (w.alloc (.cells old t)) := by
  refine store_row_ hg0 ty x y ho w.heap.size cells hx hy t old (blk_new w _) hi hold h1 ?_
  rw [World.setRow_alloc_new]
  exact h
theorem check1 (w : World) : Calls Try.prog 9 #[VP1] w fun e w' => e = .returned (.int .i64 0) ∧ Below w.heap.size w w' := by
  refine (patch_Check.calls 40 _ _ _ _ _ _ _ _ _ 0 w (by kernel_rfl)).mono ?_
  rintro e w' ⟨rfl, h⟩
  exact ⟨rfl, h⟩
theorem check2 (w : World) : Calls Try.prog 9 #[VP2] w fun e w' => e = .returned (.int .i64 0) ∧ Below w.heap.size w w' := by
  refine (patch_Check.calls 40 _ _ _ _ _ _ _ _ _ 0 w (by kernel_rfl)).mono ?_
  rintro e w' ⟨rfl, h⟩
  exact ⟨rfl, h⟩
theorem checkz (w : World) : Calls Try.prog 9 #[.agg ZP] w fun e w' => e = .returned (.int .i64 1) ∧ Below w.heap.size w w' := by
  refine (patch_Check.calls 40 _ _ _ _ _ _ _ _ _ 1 w (by kernel_rfl)).mono ?_
  rintro e w' ⟨rfl, h⟩
  exact ⟨rfl, h⟩
set_option maxHeartbeats 8000000 in
set_option maxRecDepth 100000 in
theorem apply0 (w : World) (lb : Nat) (hl : w.heap[lb]? = some (.cells LC 25 (0, 0))) : Calls Try.prog 14 #[VN0, .slice (some ⟨lb, 0, none⟩) 2 2] w fun e w' => (∃ ba gk ck cs', e = .returned (.tuple #[.agg #[.int .i64 0, .int .i64 0, .string (⟨#[114, 111, 111, 116]⟩ : ByteArray), .string (⟨#[]⟩ : ByteArray), .slice (some ⟨ba, 0, none⟩) 0 0, .slice (some ⟨gk, 0, none⟩) 1 ck], .int .i64 2, .int .i64 0]) ∧ w'.heap[gk]? = some (.cells cs' 33 (0, 0)) ∧ cs'[0]? = some (.int .i64 1) ∧ cs'[1]? = some (.int .i64 0) ∧ cs'[2]? = some (.string (⟨#[112]⟩ : ByteArray))) ∧ Below w.heap.size w w' := by
  have hll := (Array.getElem?_eq_some_iff.1 hl).1
  go_enter Try.func14, Try.ntmps14
  go_upto_region 1 with fail
  have hW1 : ((w.alloc (.cells VC0 33)).alloc (.cells ZV 33)).heap.size = w.heap.size + 2 := by simp
  have e0 := blk_any (blk_new w (.cells VC0 33)) (.cells ZV 33)
  have eB := blk_new (w.alloc (.cells VC0 33)) (.cells ZV 33)
  rw [show (w.alloc (.cells VC0 33)).heap.size = w.heap.size + 1 by simp] at eB
  have hB1 := below_alloc (below_alloc (Below.refl w.heap.size w) (.cells VC0 33)) (.cells ZV 33)
  have xl := blk_any (blk_any hl (.cells VC0 33)) (.cells ZV 33)
  generalize (w.alloc (.cells VC0 33)).alloc (.cells ZV 33) = W1 at hW1 e0 eB hB1 xl ⊢
  have c0 := blk_cell e0 0
  have c1 := blk_cell e0 1
  have c2 := blk_cell e0 2
  have c3 := blk_cell e0 3
  have c4 := blk_cell e0 4
  have c5 := blk_cell e0 5
  go_upto_region 5 with (go_at_call 34; refine (vcheck0 W1).mono ?_; rintro e W2 ⟨rfl, hB2⟩)
  clear c0 c1 c2 c3 c4 c5
  have hn2 : w.heap.size + 2 ≤ W2.heap.size := by have := hB2.size; omega
  have f0 := blk_any (blk_any (blk_any (blk_belowx e0 hB2) (.map #[] 0)) (.map #[] 0)) (.cells #[.pointer none, .map (some W2.heap.size), .map (some (W2.heap.size + 1))] 60)
  have fB := blk_any (blk_any (blk_any (blk_belowx eB hB2) (.map #[] 0)) (.map #[] 0)) (.cells #[.pointer none, .map (some W2.heap.size), .map (some (W2.heap.size + 1))] 60)
  have fl := blk_any (blk_any (blk_any (blk_belowx xl hB2) (.map #[] 0)) (.map #[] 0)) (.cells #[.pointer none, .map (some W2.heap.size), .map (some (W2.heap.size + 1))] 60)
  have fh := blk_any (blk_any (blk_new W2 (.map #[] 0)) (.map #[] 0)) (.cells #[.pointer none, .map (some W2.heap.size), .map (some (W2.heap.size + 1))] 60)
  have fy := blk_any (blk_new (W2.alloc (.map #[] 0)) (.map #[] 0)) (.cells #[.pointer none, .map (some W2.heap.size), .map (some (W2.heap.size + 1))] 60)
  have fb := blk_new ((W2.alloc (.map #[] 0)).alloc (.map #[] 0)) (.cells #[.pointer none, .map (some W2.heap.size), .map (some (W2.heap.size + 1))] 60)
  have hB3 := below_alloc (below_alloc (below_alloc (below_step hB1 hB2) (.map #[] 0)) (.map #[] 0)) (.cells #[.pointer none, .map (some W2.heap.size), .map (some (W2.heap.size + 1))] 60)
  rw [show (W2.alloc (.map #[] 0)).heap.size = W2.heap.size + 1 by simp] at fy
  rw [show ((W2.alloc (.map #[] 0)).alloc (.map #[] 0)).heap.size = W2.heap.size + 1 + 1 by simp] at fb
  have hW3 : (((W2.alloc (.map #[] 0)).alloc (.map #[] 0)).alloc (.cells #[.pointer none, .map (some W2.heap.size), .map (some (W2.heap.size + 1))] 60)).heap.size = W2.heap.size + 1 + 1 + 1 := by simp
  generalize hW3e : ((W2.alloc (.map #[] 0)).alloc (.map #[] 0)).alloc (.cells #[.pointer none, .map (some W2.heap.size), .map (some (W2.heap.size + 1))] 60) = W3 at f0 fB fl fh fy fb hB3 hW3 ⊢
  clear hW3e hB1 e0 eB xl hB2
  generalize W2.heap.size = n at *
  have c0 := blk_cell f0 0
  have c1 := blk_cell f0 1
  have c2 := blk_cell f0 2
  have c3 := blk_cell f0 3
  have c4 := blk_cell f0 4
  have c5 := blk_cell f0 5
  go_upto_region 6 with (go_at_call 35; refine (load0 W3 (n + 1 + 1) (n + 1) 0 _ fb fy).mono ?_; rintro e W4 ⟨rfl, gn, gy, gg⟩; rw [hW3]; have gb : W4.heap[n + 1 + 1]? = _ := (gg.block _ (by omega) (by intro e; injection e; omega)).trans fb; have fz : W4.frozen? ⟨n + 1 + 1, 0, none⟩ = false := (by simp [World.frozen?, gb]); have q0 := blk_cell gb 0)
  rw [hW3] at gn gy
  have gh : W4.heap[n]? = _ := (gg.block _ (by omega) (by intro e; injection e; omega)).trans fh
  have gB : W4.heap[w.heap.size + 1]? = _ := (gg.block _ (by omega) (by intro e; injection e; omega)).trans fB
  have gl : W4.heap[lb]? = _ := (gg.block _ (by omega) (by intro e; injection e; omega)).trans fl
  have hB4 : Below w.heap.size w W4 := Below.grown hB3 gg (by omega) (by intro k e; injection e; omega)
  have b5 : (W4.setCell ⟨n + 1 + 1, 0, none⟩ (.pointer (some ⟨n + 1 + 1 + 1 + 2, 0, none⟩))).heap[n + 1 + 1]? = some (.cells #[.pointer (some ⟨n + 1 + 1 + 1 + 2, 0, none⟩), .map (some n), .map (some (n + 1))] 60 (0, 0)) := set_self gb _
  have h5 := set_far (b := n + 1 + 1) (k := 0) gh (by omega) (.pointer (some ⟨n + 1 + 1 + 1 + 2, 0, none⟩))
  have B5 := set_far (b := n + 1 + 1) (k := 0) gB (by omega) (.pointer (some ⟨n + 1 + 1 + 1 + 2, 0, none⟩))
  have l5 := set_far (b := n + 1 + 1) (k := 0) gl (by omega) (.pointer (some ⟨n + 1 + 1 + 1 + 2, 0, none⟩))
  have y5 := set_far (b := n + 1 + 1) (k := 0) gy (by omega) (.pointer (some ⟨n + 1 + 1 + 1 + 2, 0, none⟩))
  have d5 := set_far (b := n + 1 + 1) (k := 0) gn (by omega) (.pointer (some ⟨n + 1 + 1 + 1 + 2, 0, none⟩))
  have hB5 := Below.setCell hB4 (p := ⟨n + 1 + 1, 0, none⟩) (by show w.heap.size ≤ n + 1 + 1; omega) (.pointer (some ⟨n + 1 + 1 + 1 + 2, 0, none⟩))
  clear c0 c1 c2 c3 c4 c5 f0 fB fl fh fy fb hB3 gb gg gn gy gh gB gl hB4 fz q0 hW1
  generalize (W4.setCell ⟨n + 1 + 1, 0, none⟩ (.pointer (some ⟨n + 1 + 1 + 1 + 2, 0, none⟩))) = W5 at b5 h5 B5 l5 y5 d5 hB5 ⊢
  clear hW3
  obtain ⟨nd, hnd⟩ : ∃ nd, nd = n + 1 + 1 + 1 + 2 := ⟨_, rfl⟩
  obtain ⟨bb, hbb⟩ : ∃ bb, bb = n + 1 + 1 := ⟨_, rfl⟩
  obtain ⟨mm, hmm⟩ : ∃ mm, mm = n + 1 := ⟨_, rfl⟩
  rw [← hnd] at b5 y5 d5 ⊢
  rw [← hbb] at b5 ⊢
  rw [← hmm] at b5 y5 ⊢
  generalize n + 1 + 1 + 1 + 1 = ab at d5
  have o1 : n < mm := by omega
  have o2 : mm < bb := by omega
  have o3 : bb < nd := by omega
  clear hnd hbb hmm
  go_wp2
  go_loopw [31] (fun i wr => (i = .int .i64 0 ∧ wr = W5) ∨ (i = .int .i64 1 ∧ ∃ ne, wr.heap[bb]? = some (.cells #[.pointer (some ⟨nd, 0, none⟩), .map (some n), .map (some mm)] 60 (0, 0)) ∧ wr.heap[w.heap.size + 1]? = some (.cells ZV 33 (0, 0)) ∧ Below w.heap.size w wr ∧ nd < ne ∧ wr.heap[lb]? = some (.cells LC 25 (0, 0)) ∧ wr.heap[n]? = some (.map #[⟨.agg #[.int .i64 1, .int .i64 0], .pointer (some ⟨ne, 0, none⟩), 0⟩] (0 + 1)) ∧ wr.heap[mm]? = some (.map #[⟨.agg #[.int .i64 0, .int .i64 0], .pointer (some ⟨nd, 0, none⟩), 0⟩, ⟨.agg #[.int .i64 1, .int .i64 0], .pointer (some ⟨ne, 0, none⟩), 0 + 1⟩] (0 + 1 + 1)) ∧ wr.heap[nd]? = some (.cells (ND ab) 80 (0, 0)) ∧ wr.heap[ne]? = some (.cells NE 80 (0, 0))) ∨ (i = .int .i64 2 ∧ ∃ ne g cap cs, wr.heap[bb]? = some (.cells #[.pointer (some ⟨nd, 0, none⟩), .map (some n), .map (some mm)] 60 (0, 0)) ∧ wr.heap[w.heap.size + 1]? = some (.cells ZV 33 (0, 0)) ∧ Below w.heap.size w wr ∧ nd < ne ∧ wr.heap[n]? = some (.map #[] (0 + 1)) ∧ wr.heap[nd]? = some (.cells (ND2 ab g cap) 80 (0, 0)) ∧ wr.heap[ne]? = some (.cells (NE2 nd) 80 (0, 0)) ∧ wr.heap[g]? = some (.cells cs 58 (0, 0)) ∧ cs[0]? = some (.pointer (some ⟨ne, 0, none⟩)))) (fun i _ => match i with | .int _ k => (2 - k).toNat | _ => 0)
  case atStart => exact .inl ⟨rfl, rfl⟩
  case round =>
    rcases hrel with ⟨rfl, rfl⟩ | ⟨rfl, ne, r1, r2, r3, r4, r5, r6, r7, r8, r9⟩ | ⟨rfl, ne, g, cap, cs, r1, r2, r3, r4, r5, r6, r7, r8, r9⟩
    · have c0 := blk_cell l5 0
      have c1 := blk_cell l5 1
      have c2 := blk_cell l5 2
      have c3 := blk_cell l5 3
      have c4 := blk_cell l5 4
      have c5 := blk_cell l5 5
      have c6 := blk_cell l5 6
      have c7 := blk_cell l5 7
      have c8 := blk_cell l5 8
      go_upto_region 9 with (first | ((with_reducible refine gate_store (t := 25) (p := 10) (v := .tmp 35) rfl ?_); refine store_new_ rfl 25 (.tmp 10) (.tmp 35) rfl 25 ZP VQ1 rfl rfl (by kernel_rfl) rfl (by kernel_rfl) ?_))
      have HBX := hB5
      have p0 := blk_new wr (.cells VQ1 25)
      have b5 := blk_any b5 (.cells VQ1 25)
      have h5 := blk_any h5 (.cells VQ1 25)
      have B5 := blk_any B5 (.cells VQ1 25)
      have l5 := blk_any l5 (.cells VQ1 25)
      have y5 := blk_any y5 (.cells VQ1 25)
      have d5 := blk_any d5 (.cells VQ1 25)
      have hB6 := below_alloc HBX (.cells VQ1 25)
      clear c0 c1 c2 c3 c4 c5 c6 c7 c8
      generalize wr.heap.size = gp at p0 ⊢
      generalize wr.alloc (.cells VQ1 25) = W6 at p0 hB6 b5 h5 B5 l5 y5 d5 ⊢
      have c0 := blk_cell p0 0
      have c1 := blk_cell p0 1
      have c2 := blk_cell p0 2
      have c3 := blk_cell p0 3
      have c4 := blk_cell p0 4
      have c5 := blk_cell p0 5
      have c6 := blk_cell p0 6
      have c7 := blk_cell p0 7
      have c8 := blk_cell p0 8
      go_upto_region 12 with (first | (go_at_call 9; refine (check1 W6).mono ?_; rintro e W7 ⟨rfl, hB7⟩; have d0 := blk_cell (blk_belowx p0 hB7) 0) | (go_at_call 36; refine (step3 _ _).mono ?_; rintro e W8 ⟨rfl, rfl⟩))
      clear c0 c1 c2 c3 c4 c5 c6 c7 c8 d0
      have p0 := blk_belowx p0 hB7
      have b5 := blk_belowx b5 hB7
      have h5 := blk_belowx h5 hB7
      have B5 := blk_belowx B5 hB7
      have l5 := blk_belowx l5 hB7
      have y5 := blk_belowx y5 hB7
      have d5 := blk_belowx d5 hB7
      have hB8 := below_step hB6 hB7
      clear hB6 hB7
      have c0 := blk_cell p0 0
      have c1 := blk_cell p0 1
      have c2 := blk_cell p0 2
      have c3 := blk_cell p0 3
      have c4 := blk_cell p0 4
      have c5 := blk_cell p0 5
      have c6 := blk_cell p0 6
      have c7 := blk_cell p0 7
      have c8 := blk_cell p0 8
      have hs5 : nd < W8.heap.size := (Array.getElem?_eq_some_iff.1 d5).1
      have hM := make0 W8 bb n mm 0 (0 + 1) 0 _ _ b5 h5 y5 (by decide) (by omega)
      go_upto_region 13 with (go_at_call 49; refine hM.mono ?_; clear hM; rintro e W9 ⟨rfl, hM⟩)
      obtain ⟨m1, m2, m3, m4⟩ := hM
      have hs8 : w.heap.size ≤ W8.heap.size := hB8.size
      have b5 := KeptBut.at_ b5 m4 (by omega)
      have B5 := KeptBut.at_ B5 m4 (by omega)
      have l5 := KeptBut.at_ l5 m4 (by omega)
      have d5 := KeptBut.at_ d5 m4 (by omega)
      have hB9 := KeptBut.below hB8 m4 hs8 (by intro i e; omega)
      go_wp2
      exact ⟨.inr (.inl ⟨rfl, W8.heap.size + 1, b5, B5, hB9, by omega, l5, m3, m2, d5, m1⟩), by decide⟩
    · have c0 := blk_cell r5 9
      have c1 := blk_cell r5 10
      have c2 := blk_cell r5 11
      have c3 := blk_cell r5 12
      have c4 := blk_cell r5 13
      have c5 := blk_cell r5 14
      have c6 := blk_cell r5 15
      have c7 := blk_cell r5 16
      have c8 := blk_cell r5 17
      have HBX := r3
      go_upto_region 9 with (first | ((with_reducible refine gate_store (t := 25) (p := 10) (v := .tmp 35) rfl ?_); refine store_new_ rfl 25 (.tmp 10) (.tmp 35) rfl 25 ZP VQ2 rfl rfl (by kernel_rfl) rfl (by kernel_rfl) ?_))
      have p0 := blk_new wr (.cells VQ2 25)
      have r1 := blk_any r1 (.cells VQ2 25)
      have r2 := blk_any r2 (.cells VQ2 25)
      have r6 := blk_any r6 (.cells VQ2 25)
      have r7 := blk_any r7 (.cells VQ2 25)
      have r8 := blk_any r8 (.cells VQ2 25)
      have r9 := blk_any r9 (.cells VQ2 25)
      have hB6 := below_alloc HBX (.cells VQ2 25)
      clear c0 c1 c2 c3 c4 c5 c6 c7 c8
      generalize wr.heap.size = gp at p0 ⊢
      generalize wr.alloc (.cells VQ2 25) = W6 at p0 hB6 r1 r2 r6 r7 r8 r9 ⊢
      have c0 := blk_cell p0 0
      have c1 := blk_cell p0 1
      have c2 := blk_cell p0 2
      have c3 := blk_cell p0 3
      have c4 := blk_cell p0 4
      have c5 := blk_cell p0 5
      have c6 := blk_cell p0 6
      have c7 := blk_cell p0 7
      have c8 := blk_cell p0 8
      go_upto_region 12 with (first | (go_at_call 9; refine (check2 W6).mono ?_; rintro e W7 ⟨rfl, hB7⟩; have d0 := blk_cell (blk_belowx p0 hB7) 0) | (go_at_call 36; refine (step4 _ _).mono ?_; rintro e W8 ⟨rfl, rfl⟩))
      clear c0 c1 c2 c3 c4 c5 c6 c7 c8 d0
      have p0 := blk_belowx p0 hB7
      have r1 := blk_belowx r1 hB7
      have r2 := blk_belowx r2 hB7
      have r6 := blk_belowx r6 hB7
      have r7 := blk_belowx r7 hB7
      have r8 := blk_belowx r8 hB7
      have r9 := blk_belowx r9 hB7
      have hB8 := below_step hB6 hB7
      clear hB6 hB7
      have c0 := blk_cell p0 0
      have c1 := blk_cell p0 1
      have c2 := blk_cell p0 2
      have c3 := blk_cell p0 3
      have c4 := blk_cell p0 4
      have c5 := blk_cell p0 5
      have c6 := blk_cell p0 6
      have c7 := blk_cell p0 7
      have c8 := blk_cell p0 8
      have hM := put0 W8 bb n mm (0 + 1) 0 (0 + 1 + 1) 0 (0 + 1) nd ne ab r1 r6 r7 r8 r9 (by omega)
      go_upto_region 13 with (go_at_call 50; refine hM.mono ?_; clear hM; rintro e W9 ⟨rfl, hM⟩)
      obtain ⟨⟨g, cap, cs, m1, m2, m3, m4⟩, m5, m6, m7⟩ := hM
      have hs8 : w.heap.size ≤ W8.heap.size := hB8.size
      have r1 := KeptBut.at_ r1 m7 (by omega)
      have r2 := KeptBut.at_ r2 m7 (by omega)
      have hB9 := KeptBut.below hB8 m7 hs8 (by intro i e; omega)
      go_wp2
      exact ⟨.inr (.inr ⟨rfl, ne, g, cap, cs, r1, r2, hB9, r4, m6, m4, m5, m2, m3⟩), by decide⟩
    · have hln : (Builtin.len_ #[57] 3 #[.map (some n)]).run Try.prog wr = .ok (.int .i64 0) wr := mlen (k := 23) (e := 58) (by kernel_rfl) r5
      have q0 := blk_cell r1 0
      have q1 := blk_cell r1 1
      have hT := tellR wr nd ab g cap ne cs r8 r9 r7 r6
      go_wp2_with (first | (go_at_call 37; refine hT.mono ?_; clear hT; rintro e W9 ⟨⟨ba, gk, ck, cs', rfl, hT1, hT2, hT3, hT4⟩, hB9⟩; have r2 := blk_belowx r2 hB9; have g6 := setRow_heap W9 (w.heap.size + 1) ZV #[.int .i64 0, .int .i64 0, .string (⟨#[114, 111, 111, 116]⟩ : ByteArray), .string (⟨#[]⟩ : ByteArray), .slice (some ⟨ba, 0, none⟩) 0 0, .slice (some ⟨gk, 0, none⟩) 1 ck] 33 (0, 0) r2; have gB := below_row (below_step r3 hB9) (Nat.le_succ _) #[.int .i64 0, .int .i64 0, .string (⟨#[114, 111, 111, 116]⟩ : ByteArray), .string (⟨#[]⟩ : ByteArray), .slice (some ⟨ba, 0, none⟩) 0 0, .slice (some ⟨gk, 0, none⟩) 1 ck]) | ((with_reducible refine gate_store (t := 33) (p := 4) (v := .tmp 66) rfl ?_); refine store_row_ rfl 33 (.tmp 4) (.tmp 66) rfl (w.heap.size + 1) #[.int .i64 0, .int .i64 0, .string (⟨#[114, 111, 111, 116]⟩ : ByteArray), .string (⟨#[]⟩ : ByteArray), .slice (some ⟨ba, 0, none⟩) 0 0, .slice (some ⟨gk, 0, none⟩) 1 ck] rfl rfl 33 ZV r2 (by kernel_rfl) rfl (by kernel_rfl) ?_))
      refine bodyPost_ret (results_ctt rfl _ _ (w.heap.size + 1) 33 #[.int .i64 0, .int .i64 0, .string (⟨#[114, 111, 111, 116]⟩ : ByteArray), .string (⟨#[]⟩ : ByteArray), .slice (some ⟨ba, 0, none⟩) 0 0, .slice (some ⟨gk, 0, none⟩) 1 ck] (0, 0) _ rfl g6 Try.underlying33 rfl (by kernel_rfl)) rfl ?_
      have hgk : gk ≠ w.heap.size + 1 := by intro e; subst e; rw [r2] at hT1; injection hT1 with hT1; injection hT1 with hT1; subst hT1; simp [ZV] at hT2
      exact ⟨⟨ba, gk, ck, cs', rfl, (setRow_other _ _ _ _ hgk).trans hT1, hT2, hT3, hT4⟩, gB⟩
end
section
attribute [local go_sem] Oper.semAt_some
attribute [local go_sem high] eqA23 eqPs
noncomputable def T11_3 : Bool × List (List Nat × List Nat) := rtab .any (opsOf Try.f11 3)
theorem tab11_3 : rtab .any (opsOf Try.f11 3) = T11_3 := rfl
set_option maxHeartbeats 8000000 in
set_option maxRecDepth 100000 in
theorem awake0 (w : World) : Calls Try.prog 11 #[] w fun e w' => e = .returned (.bool true) ∧ Below w.heap.size w w' := by
  go_enter Try.func11, Try.ntmps11
  go_upto_region 2 with (first | ((with_reducible refine gate_store (t := 23) (p := 1) (v := .tmp 5) rfl ?_); refine store_new_ rfl 23 (.tmp 1) (.tmp 5) rfl 23 #[.int .i64 0, .int .i64 0] #[.int .i64 1, .int .i64 0] rfl rfl (by kernel_rfl) rfl (by kernel_rfl) ?_))
  have e0 := blk_new w (.cells #[.int .i64 1, .int .i64 0] 23)
  have hB1 : Below w.heap.size w (w.alloc (.cells #[.int .i64 1, .int .i64 0] 23)) := below_alloc (Below.refl _ _) _
  have hW1 : (w.alloc (.cells #[.int .i64 1, .int .i64 0] 23)).heap.size = w.heap.size + 1 := by simp
  generalize w.alloc (.cells #[.int .i64 1, .int .i64 0] 23) = W1 at e0 hB1 hW1 ⊢
  have c0 := blk_cell e0 0
  have c1 := blk_cell e0 1
  have hl := blk_new W1 (.cells LC 25)
  rw [hW1] at hl
  go_upto_region 3 with (first | (go_at_call 14; refine (apply0 (W1.alloc (.cells LC 25)) (w.heap.size + 1) hl).mono ?_; rintro e W2 ⟨⟨ba, gk, ck, cs', rfl, h1, h2, h3, h4⟩, hB2⟩) | ((with_reducible refine gate_store (t := 33) (p := 2) (v := .tmp 14) rfl ?_); refine store_new_ rfl 33 (.tmp 2) (.tmp 14) rfl 33 ZV #[.int .i64 0, .int .i64 0, .string (⟨#[114, 111, 111, 116]⟩ : ByteArray), .string (⟨#[]⟩ : ByteArray), .slice (some ⟨ba, 0, none⟩) 0 0, .slice (some ⟨gk, 0, none⟩) 1 ck] rfl rfl (by kernel_rfl) rfl (by kernel_rfl) ?_))
  have g0 := blk_any (blk_belowx (w := W1.alloc (.cells LC 25)) (blk_any e0 _) hB2) (.cells #[.int .i64 0, .int .i64 0, .string (⟨#[114, 111, 111, 116]⟩ : ByteArray), .string (⟨#[]⟩ : ByteArray), .slice (some ⟨ba, 0, none⟩) 0 0, .slice (some ⟨gk, 0, none⟩) 1 ck] 33)
  have gt := blk_new W2 (.cells #[.int .i64 0, .int .i64 0, .string (⟨#[114, 111, 111, 116]⟩ : ByteArray), .string (⟨#[]⟩ : ByteArray), .slice (some ⟨ba, 0, none⟩) 0 0, .slice (some ⟨gk, 0, none⟩) 1 ck] 33)
  have gg := blk_any h1 (.cells #[.int .i64 0, .int .i64 0, .string (⟨#[114, 111, 111, 116]⟩ : ByteArray), .string (⟨#[]⟩ : ByteArray), .slice (some ⟨ba, 0, none⟩) 0 0, .slice (some ⟨gk, 0, none⟩) 1 ck] 33)
  have gB := below_alloc (below_step (below_alloc hB1 _) hB2) (.cells #[.int .i64 0, .int .i64 0, .string (⟨#[114, 111, 111, 116]⟩ : ByteArray), .string (⟨#[]⟩ : ByteArray), .slice (some ⟨ba, 0, none⟩) 0 0, .slice (some ⟨gk, 0, none⟩) 1 ck] 33)
  have k0 := (blk_cell gg 0).trans h2
  have k1 := (blk_cell gg 1).trans h3
  have k2 := (blk_cell gg 2).trans h4
  clear hl c0 c1 e0 hB1 hW1 hB2 h1
  generalize W2.heap.size = nt at gt ⊢
  generalize W2.alloc (.cells #[.int .i64 0, .int .i64 0, .string (⟨#[114, 111, 111, 116]⟩ : ByteArray), .string (⟨#[]⟩ : ByteArray), .slice (some ⟨ba, 0, none⟩) 0 0, .slice (some ⟨gk, 0, none⟩) 1 ck] 33) = W3 at g0 gt gg gB k0 k1 k2 ⊢
  refine start_ (n := 35) (S := fun w' => w'.cell? ⟨nt, 5, none⟩ = some (.slice (some ⟨gk, 0, none⟩) 1 ck) ∧ w'.cell? ⟨gk, 0, none⟩ = some (.int .i64 1) ∧ w'.cell? ⟨gk, 1, none⟩ = some (.int .i64 0) ∧ w'.cell? ⟨gk, 2, none⟩ = some (.string (⟨#[112]⟩ : ByteArray)) ∧ w'.cell? ⟨w.heap.size, 0, none⟩ = some (.int .i64 1) ∧ w'.cell? ⟨w.heap.size, 1, none⟩ = some (.int .i64 0)) (ds := []) #[false, false, false, false, false, false, false, false, false, false, false, false, false, false, false, false, false, false, false, false, false, false, false, false, false, false, false, false, false, false, false, false, false, false, false] (by kernel_rfl) rfl rfl ⟨(blk_cell gt 5).trans rfl, k0, k1, k2, (blk_cell g0 0).trans rfl, (blk_cell g0 1).trans rfl⟩ (fun hHeld => ?_)
  refine with_tab tab11_3 (fun HT_ => ?_)
  refine pzp_ 0 17 HT_ ?_
  refine pzp_ 1 18 HT_ ?_
  refine pzp_ 2 19 HT_ ?_
  refine pzp_ 3 20 HT_ ?_
  refine pzp_ 4 21 HT_ ?_
  refine pzp_ 5 22 HT_ ?_
  refine pzp_ 6 23 HT_ ?_
  refine pzp_ 7 24 HT_ ?_
  refine pzt6_ 8 25 HT_ hHeld ?_
  refine pzp_ 9 26 HT_ ?_
  refine pzp_ 10 27 HT_ ?_
  refine pzp_ 11 28 HT_ ?_
  refine pzp_ 12 29 HT_ ?_
  refine pzp_ 13 30 HT_ ?_
  refine pzt6_ 14 31 HT_ hHeld ?_
  refine pzp_ 15 32 HT_ ?_
  refine pzp_ 16 33 HT_ ?_
  refine pzt6_ 17 34 HT_ hHeld ?_
  refine pzt6_ 18 35 HT_ hHeld ?_
  refine pzp_ 19 36 HT_ ?_
  refine pzp_ 20 37 HT_ ?_
  refine pzp_ 21 38 HT_ ?_
  refine pzp_ 22 39 HT_ ?_
  refine pzt6_ 23 40 HT_ hHeld ?_
  refine pzp_ 24 41 HT_ ?_
  refine pzp_ 25 42 HT_ ?_
  refine pzt6_ 26 43 HT_ hHeld ?_
  refine pzp_ 27 44 HT_ ?_
  refine pzp_ 28 45 HT_ ?_
  refine pzp_ 29 46 HT_ ?_
  refine pzp_ 30 47 HT_ ?_
  refine pzo_ 31 48 HT_ (fun K hK => ?_)
  rw [if_pos (by rfl)]
  go_wp2_with (go_at_call 9; refine (checkz W3.drew).mono ?_; rintro e W5 ⟨rfl, hB5⟩)
  have m0 := blk_belowx (w := W3.drew) g0 hB5
  have mt := blk_belowx (w := W3.drew) gt hB5
  have mg := blk_belowx (w := W3.drew) gg hB5
  have mB := below_step (pw_below_drewN gB 1) hB5
  refine hK.out _ _ ⟨(blk_cell mt 5).trans rfl, (blk_cell mg 0).trans h2, (blk_cell mg 1).trans h3, (blk_cell mg 2).trans h4, (blk_cell m0 0).trans rfl, (blk_cell m0 1).trans rfl⟩ (fun hHeld => ?_)
  clear hK K
  refine pzp_ 32 49 HT_ ?_
  refine pzp_ 33 50 HT_ ?_
  refine pzp_ 34 0 HT_ ?_
  refine done_ (done_of HT_.out (by kernel_rfl)) ?_
  clear HT_ hHeld
  go_wp2
  go_ret
  exact ⟨rfl, mB⟩
end
def topiarylaw17_awake.f (_ : Nat) : Option Bool := some true
theorem topiarylaw17_awake.mono : ∀ k, LeO (topiarylaw17_awake.f k) (topiarylaw17_awake.f (k + 1)) := fun _ => LeO.refl _
theorem topiarylaw17_awake.calls (k : Nat) (r : Bool) (w : World) (h : topiarylaw17_awake.f k = some r) :
    Calls Try.prog 11 #[] w fun e w' => e = .returned (.bool r) ∧ Below w.heap.size w w' := by
  cases h
  exact awake0 w


end Go.Proofs.Ytaogeajjidnfgaa.QPatchTouches
