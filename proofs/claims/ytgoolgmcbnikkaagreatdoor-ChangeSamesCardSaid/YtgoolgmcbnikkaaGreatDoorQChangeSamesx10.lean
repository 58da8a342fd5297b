-- Own text of this seat, laid by the session's program ownprint.py (wip/tools). Lean checks it.
import Derived.Test.YtgoolgmcbnikkaaGreatDoorQChangeSamesx0
import Derived.Test.YtgoolgmcbnikkaaGreatDoorQChangeSamesx1
import Derived.Test.YtgoolgmcbnikkaaGreatDoorQChangeSamesx5
import Derived.Test.YtgoolgmcbnikkaaGreatDoorQChangeSamesx7
import Derived.Test.YtgoolgmcbnikkaaGreatDoorQChangeSamesx8
import Derived.Test.YtgoolgmcbnikkaaGreatDoorQChangeSamesx9
namespace Go.Proofs.YtgoolgmcbnikkaaGreatDoor.QChangeSames
open Go.RowKit Go.Proofs.YtgoolgmcbnikkaaGreatDoorW.PrintWords Go.Proofs.YtgoolgmcbnikkaaGreatDoorW.PrintLast Go.Proofs.YtgoolgmcbnikkaaGreatDoorW.PrintMore
attribute [local go_sem] max2_int min2_int max_two min_two max_three min_three max_four min_four   -- for this text's walks alone
set_option linter.unusedVariables false
set_option linter.unusedSimpArgs false

attribute [local go_sem high] eqA23
/-! ### change_Parse: function 16 (by hand) -/
set_option linter.unusedVariables false
/-- what the reader of a change's words tells: the node's stamp, the place, the name, the value (each with what is left of the text, and whether it was bad) -/
def parseNode (k : Nat) (r5 r1 r2 : Int) (s : ByteArray) (b : Bool) : Option (Int × Int × ByteArray × Bool) := if r5 = 1 then some (r1, r2, s, b) else change_reader_stamp.f k s b false
def parsePlace (k : Nat) (r5 r8 r9 r10 r11 : Int) (s : ByteArray) (b : Bool) : Option (Int × Int × Int × Int × ByteArray × Bool) := if r5 = 1 ∨ r5 = 2 then (change_reader_stamp.f k s b false).bind fun p => (change_reader_stamp.f k p.2.2.1 p.2.2.2 true).bind fun q => some (p.1, p.2.1, q.1, q.2.1, q.2.2.1, q.2.2.2) else some (r8, r9, r10, r11, s, b)
def parseName (r5 : Int) (r12 : ByteArray) (s : ByteArray) (b : Bool) : Option (ByteArray × ByteArray × Bool) := if r5 = 1 ∨ r5 = 3 ∨ r5 = 4 then change_reader_next.f s b else some (r12, s, b)
def parseValue (k : Nat) (r5 : Int) (r13 : ByteArray) (s : ByteArray) (b : Bool) : Option (ByteArray × Bool) := if r5 = 3 ∨ r5 = 5 then none else some (r13, b)
def change_Parse.f (k : Nat) (a0 : ByteArray) : Option (Int × Int × Int × List Int × Int × Int × Int × Int × Int × Int × Int × ByteArray × ByteArray × Int) := if (a0.size : Int) > 262144 then none else
 (change_reader_head.f k a0 false).bind fun h => match h with
 | (r1, r2, r3, r4, r5, _, _, r8, r9, r10, r11, r12, r13, s, b) =>
  if r5 = 1 then (parseNode k r5 r1 r2 s b).bind fun n => (parsePlace k r5 r8 r9 r10 r11 n.2.2.1 n.2.2.2).bind fun p => (parseName r5 r12 p.2.2.2.2.1 p.2.2.2.2.2).bind fun m => (parseValue k r5 r13 m.2.1 m.2.2).bind fun v =>
  (change_Text.f k r1 r2 r3 r4 r5 n.1 n.2.1 p.1 p.2.1 p.2.2.1 p.2.2.2.1 m.1 v.1).bind fun t =>
  if v.2 = true ∨ t.2 ≠ 0 ∨ t.1.toList ≠ a0.toList then some (0, 0, 0, ([] : List Int), 0, 0, 0, 0, 0, 0, 0, (⟨#[]⟩ : ByteArray), (⟨#[]⟩ : ByteArray), 2) else some (r1, r2, r3, r4, r5, n.1, n.2.1, p.1, p.2.1, p.2.2.1, p.2.2.2.1, m.1, v.1, 0) else none
theorem change_Parse.mono : ∀ a0 k, LeO (change_Parse.f k a0) (change_Parse.f (k + 1) a0) := by
 intro a0 k
 unfold change_Parse.f
 refine LeO.ite (LeO.refl _) (LeO.bind (change_reader_head.mono _ _ k) fun h => ?_)
 obtain ⟨r1, r2, r3, r4, r5, _, _, r8, r9, r10, r11, r12, r13, s, b⟩ := h
 refine LeO.ite ?_ (LeO.refl _)
 refine LeO.bind ?_ fun n => LeO.bind ?_ fun p => LeO.bind ?_ fun m => LeO.bind ?_ fun v => LeO.bind (change_Text.mono _ _ _ _ _ _ _ _ _ _ _ _ _ k) fun t => LeO.refl _
 ·unfold parseNode
  exact LeO.ite (LeO.refl _) (change_reader_stamp.mono _ _ _ k)
 ·unfold parsePlace
  exact LeO.ite (LeO.bind (change_reader_stamp.mono _ _ _ k) fun p => LeO.bind (change_reader_stamp.mono _ _ _ k) fun q => LeO.refl _) (LeO.refl _)
 ·exact LeO.refl _
 ·exact LeO.refl _
/-- what stands in memory while a change is read: the answer's cell, the change so far, the reader -/
structure PB (w W : World) (rB g cB : Nat) (cs : Array Value) (s : ByteArray) (b : Bool) (v : Value) (deps : List Int) : Prop where
 hr : W.heap[rB]? = some (.cells #[.int .i64 0, .int .i64 0, .int .i64 0, .slice none 0 0, .int .i64 0, .int .i64 0, .int .i64 0, .int .i64 0, .int .i64 0, .int .i64 0, .int .i64 0, .string (⟨#[]⟩ : ByteArray), .string (⟨#[]⟩ : ByteArray)] 26 (0, 0))
 hc : W.heap[cB]? = some (.cells cs 26 (0, 0))
 hI : IsS56 w W g s b
 hR : Kd.R (Kd.int .i64) 3 W w.heap.size (fun _ => True) v deps
 hB : Below w.heap.size w W
 n1 : w.heap.size ≤ rB
 n2 : w.heap.size ≤ cB
 n3 : rB ≠ cB
theorem PB.gr {w W : World} {rB g cB : Nat} {cs : Array Value} {s : ByteArray} {b : Bool} {v : Value} {deps : List Int} (h : PB w W rB g cB cs s b v deps) : g ≠ rB := fun e => by have := h.hI.1; rw [e, h.hr] at this; simp at this
theorem PB.gc {w W : World} {rB g cB : Nat} {cs : Array Value} {s : ByteArray} {b : Bool} {v : Value} {deps : List Int} (h : PB w W rB g cB cs s b v deps) : g ≠ cB := fun e => by have := h.hI.1; rw [e, h.hc] at this; simp at this
theorem PB.put {w W : World} {rB g cB : Nat} {cs : Array Value} {s : ByteArray} {b : Bool} {v : Value} {deps : List Int} (h : PB w W rB g cB cs s b v deps) (j : Nat) (x : Value) : PB w (W.setCell ⟨cB, j, none⟩ x) rB g cB (cs.setIfInBounds j x) s b v deps := by
 refine ⟨(Below.heap_setCell W ⟨cB, j, none⟩ x rB h.n3).trans h.hr, blk_put (cs' := cs.setIfInBounds j x) h.hc j x rfl, IsS56.far h.hI h.gc x, ?_, h.hB.setCell (p := ⟨cB, j, none⟩) h.n2 x, h.n1, h.n2, h.n3⟩
 exact Kd.R_mono (Kd.R_far (p := ⟨cB, j, none⟩) (Kd.R_types h.hR h.hc (by decide)) (fun _ hk => hk.2) _) (fun _ _ => trivial)
theorem PB.call {w W : World} {rB g cB : Nat} {cs : Array Value} {s : ByteArray} {b : Bool} {v : Value} {deps : List Int} {W' : World} {s' : ByteArray} {b' : Bool} (h : PB w W rB g cB cs s b v deps) (hk : KeepBut W W' g none) (hi : IsS56 w W' g s' b') (hb : Below w.heap.size w W') : PB w W' rB g cB cs s' b' v deps := by
 refine ⟨hk.blk h.hr (Ne.symm h.gr) (by simp), hk.blk h.hc (Ne.symm h.gc) (by simp), hi, ?_, hb, h.n1, h.n2, h.n3⟩
 exact Kd.R_mono (Kd.R_keep (Kd.R_types h.hR h.hI.1 (by decide)) hk (fun _ hk => hk.2)) (fun _ _ => trivial)
theorem PB.below {w W : World} {rB g cB : Nat} {cs : Array Value} {s : ByteArray} {b : Bool} {v : Value} {deps : List Int} {W' : World} (h : PB w W rB g cB cs s b v deps) (hb : Below W.heap.size W W') : PB w W' rB g cB cs s b v deps :=
 ⟨blk_below h.hr hb, blk_below h.hc hb, IsS56.below h.hI hb, Kd.R_below h.hR hb, h.hB.trans (hb.mono h.hB.size), h.n1, h.n2, h.n3⟩
theorem PB.bad {w W : World} {rB g cB : Nat} {cs : Array Value} {s : ByteArray} {b : Bool} {v : Value} {deps : List Int} (h : PB w W rB g cB cs s b v deps) (x : Bool) : PB w (W.setCell ⟨g, 1, none⟩ (.bool x)) rB g cB cs s x v deps :=
 h.call ((KeepBut.refl _ _ _).set_ 1 _) (IsS56.set_1 h.hI x) (h.hB.setCell (p := ⟨g, 1, none⟩) h.hI.2 _)
theorem PB.as {w W : World} {rB g cB : Nat} {cs : Array Value} {s : ByteArray} {b : Bool} {v : Value} {deps : List Int} {cs' : Array Value} (h : PB w W rB g cB cs s b v deps) (e : cs' = cs) : PB w W rB g cB cs' s b v deps := e ▸ h
theorem PB.fill {w W : World} {rB g cB : Nat} {s : ByteArray} {b : Bool} {v : Value} {deps : List Int} (h : PB w W rB g cB #[.int .i64 0, .int .i64 0, .int .i64 0, .slice none 0 0, .int .i64 0, .int .i64 0, .int .i64 0, .int .i64 0, .int .i64 0, .int .i64 0, .int .i64 0, .string (⟨#[]⟩ : ByteArray), .string (⟨#[]⟩ : ByteArray)] s b v deps) (x0 x1 x2 x3 x4 x5 x6 x7 x8 x9 x10 x11 x12 y5 y6 : Value) : PB w (((((((((((((((W.setCell ⟨cB, 0, none⟩ x0).setCell ⟨cB, 1, none⟩ x1).setCell ⟨cB, 2, none⟩ x2).setCell ⟨cB, 3, none⟩ x3).setCell ⟨cB, 4, none⟩ x4).setCell ⟨cB, 5, none⟩ x5).setCell ⟨cB, 6, none⟩ x6).setCell ⟨cB, 7, none⟩ x7).setCell ⟨cB, 8, none⟩ x8).setCell ⟨cB, 9, none⟩ x9).setCell ⟨cB, 10, none⟩ x10).setCell ⟨cB, 11, none⟩ x11).setCell ⟨cB, 12, none⟩ x12).setCell ⟨cB, 5, none⟩ y5).setCell ⟨cB, 6, none⟩ y6) rB g cB #[x0, x1, x2, x3, x4, y5, y6, x7, x8, x9, x10, x11, x12] s b v deps := by
 have e : (((((((((((((((#[.int .i64 0, .int .i64 0, .int .i64 0, .slice none 0 0, .int .i64 0, .int .i64 0, .int .i64 0, .int .i64 0, .int .i64 0, .int .i64 0, .int .i64 0, .string (⟨#[]⟩ : ByteArray), .string (⟨#[]⟩ : ByteArray)].setIfInBounds 0 x0).setIfInBounds 1 x1).setIfInBounds 2 x2).setIfInBounds 3 x3).setIfInBounds 4 x4).setIfInBounds 5 x5).setIfInBounds 6 x6).setIfInBounds 7 x7).setIfInBounds 8 x8).setIfInBounds 9 x9).setIfInBounds 10 x10).setIfInBounds 11 x11).setIfInBounds 12 x12).setIfInBounds 5 y5).setIfInBounds 6 y6) = #[x0, x1, x2, x3, x4, y5, y6, x7, x8, x9, x10, x11, x12] := by simp
 rw [← e]
 exact (((((((((((((((h.put 0 x0).put 1 x1).put 2 x2).put 3 x3).put 4 x4).put 5 x5).put 6 x6).put 7 x7).put 8 x8).put 9 x9).put 10 x10).put 11 x11).put 12 x12).put 5 y5).put 6 y6)
theorem PB.cells {w W : World} {rB g cB : Nat} {s : ByteArray} {b : Bool} {v : Value} {deps : List Int} {x0 x1 x2 x3 x4 x5 x6 x7 x8 x9 x10 x11 x12 : Value} (h : PB w W rB g cB #[x0, x1, x2, x3, x4, x5, x6, x7, x8, x9, x10, x11, x12] s b v deps) : W.cell? ⟨cB, 0, none⟩ = some x0 ∧ W.frozen? ⟨cB, 0, none⟩ = false ∧ W.cell? ⟨cB, 1, none⟩ = some x1 ∧ W.frozen? ⟨cB, 1, none⟩ = false ∧ W.cell? ⟨cB, 2, none⟩ = some x2 ∧ W.frozen? ⟨cB, 2, none⟩ = false ∧ W.cell? ⟨cB, 3, none⟩ = some x3 ∧ W.frozen? ⟨cB, 3, none⟩ = false ∧ W.cell? ⟨cB, 4, none⟩ = some x4 ∧ W.frozen? ⟨cB, 4, none⟩ = false ∧ W.cell? ⟨cB, 5, none⟩ = some x5 ∧ W.frozen? ⟨cB, 5, none⟩ = false ∧ W.cell? ⟨cB, 6, none⟩ = some x6 ∧ W.frozen? ⟨cB, 6, none⟩ = false ∧ W.cell? ⟨cB, 7, none⟩ = some x7 ∧ W.frozen? ⟨cB, 7, none⟩ = false ∧ W.cell? ⟨cB, 8, none⟩ = some x8 ∧ W.frozen? ⟨cB, 8, none⟩ = false ∧ W.cell? ⟨cB, 9, none⟩ = some x9 ∧ W.frozen? ⟨cB, 9, none⟩ = false ∧ W.cell? ⟨cB, 10, none⟩ = some x10 ∧ W.frozen? ⟨cB, 10, none⟩ = false ∧ W.cell? ⟨cB, 11, none⟩ = some x11 ∧ W.frozen? ⟨cB, 11, none⟩ = false ∧ W.cell? ⟨cB, 12, none⟩ = some x12 ∧ W.frozen? ⟨cB, 12, none⟩ = false ∧ W.cell? ⟨g, 0, none⟩ = some (.string s) ∧ W.cell? ⟨g, 1, none⟩ = some (.bool b) ∧ W.frozen? ⟨g, 0, none⟩ = false ∧ W.frozen? ⟨g, 1, none⟩ = false ∧ g ≠ cB :=
 ⟨blk_cell h.hc 0, blk_frozen h.hc 0, blk_cell h.hc 1, blk_frozen h.hc 1, blk_cell h.hc 2, blk_frozen h.hc 2, blk_cell h.hc 3, blk_frozen h.hc 3, blk_cell h.hc 4, blk_frozen h.hc 4, blk_cell h.hc 5, blk_frozen h.hc 5, blk_cell h.hc 6, blk_frozen h.hc 6, blk_cell h.hc 7, blk_frozen h.hc 7, blk_cell h.hc 8, blk_frozen h.hc 8, blk_cell h.hc 9, blk_frozen h.hc 9, blk_cell h.hc 10, blk_frozen h.hc 10, blk_cell h.hc 11, blk_frozen h.hc 11, blk_cell h.hc 12, blk_frozen h.hc 12, blk_cell h.hI.1 0, blk_cell h.hI.1 1, blk_frozen h.hI.1 0, blk_frozen h.hI.1 1, h.gc⟩
theorem PB.rcells {w W : World} {rB g cB : Nat} {cs : Array Value} {s : ByteArray} {b : Bool} {v : Value} {deps : List Int} (h : PB w W rB g cB cs s b v deps) : W.cell? ⟨rB, 0, none⟩ = some (.int .i64 0) ∧ W.frozen? ⟨rB, 0, none⟩ = false ∧ W.cell? ⟨rB, 1, none⟩ = some (.int .i64 0) ∧ W.frozen? ⟨rB, 1, none⟩ = false ∧ W.cell? ⟨rB, 2, none⟩ = some (.int .i64 0) ∧ W.frozen? ⟨rB, 2, none⟩ = false ∧ W.cell? ⟨rB, 3, none⟩ = some (.slice none 0 0) ∧ W.frozen? ⟨rB, 3, none⟩ = false ∧ W.cell? ⟨rB, 4, none⟩ = some (.int .i64 0) ∧ W.frozen? ⟨rB, 4, none⟩ = false ∧ W.cell? ⟨rB, 5, none⟩ = some (.int .i64 0) ∧ W.frozen? ⟨rB, 5, none⟩ = false ∧ W.cell? ⟨rB, 6, none⟩ = some (.int .i64 0) ∧ W.frozen? ⟨rB, 6, none⟩ = false ∧ W.cell? ⟨rB, 7, none⟩ = some (.int .i64 0) ∧ W.frozen? ⟨rB, 7, none⟩ = false ∧ W.cell? ⟨rB, 8, none⟩ = some (.int .i64 0) ∧ W.frozen? ⟨rB, 8, none⟩ = false ∧ W.cell? ⟨rB, 9, none⟩ = some (.int .i64 0) ∧ W.frozen? ⟨rB, 9, none⟩ = false ∧ W.cell? ⟨rB, 10, none⟩ = some (.int .i64 0) ∧ W.frozen? ⟨rB, 10, none⟩ = false ∧ W.cell? ⟨rB, 11, none⟩ = some (.string (⟨#[]⟩ : ByteArray)) ∧ W.frozen? ⟨rB, 11, none⟩ = false ∧ W.cell? ⟨rB, 12, none⟩ = some (.string (⟨#[]⟩ : ByteArray)) ∧ W.frozen? ⟨rB, 12, none⟩ = false ∧ rB ≠ cB :=
 ⟨(blk_cell h.hr 0).trans rfl, blk_frozen h.hr 0, (blk_cell h.hr 1).trans rfl, blk_frozen h.hr 1, (blk_cell h.hr 2).trans rfl, blk_frozen h.hr 2, (blk_cell h.hr 3).trans rfl, blk_frozen h.hr 3, (blk_cell h.hr 4).trans rfl, blk_frozen h.hr 4, (blk_cell h.hr 5).trans rfl, blk_frozen h.hr 5, (blk_cell h.hr 6).trans rfl, blk_frozen h.hr 6, (blk_cell h.hr 7).trans rfl, blk_frozen h.hr 7, (blk_cell h.hr 8).trans rfl, blk_frozen h.hr 8, (blk_cell h.hr 9).trans rfl, blk_frozen h.hr 9, (blk_cell h.hr 10).trans rfl, blk_frozen h.hr 10, (blk_cell h.hr 11).trans rfl, blk_frozen h.hr 11, (blk_cell h.hr 12).trans rfl, blk_frozen h.hr 12, h.n3⟩
/-- the answer's cell, filled -/
structure FR (w W : World) (rB : Nat) (cs : Array Value) (v : Value) (deps : List Int) : Prop where
 hr : W.heap[rB]? = some (.cells cs 26 (0, 0))
 hR : Kd.R (Kd.int .i64) 3 W w.heap.size (fun _ => True) v deps
 hB : Below w.heap.size w W
 n1 : w.heap.size ≤ rB
theorem FR.put {w W : World} {rB : Nat} {cs : Array Value} {v : Value} {deps : List Int} (h : FR w W rB cs v deps) (j : Nat) (x : Value) : FR w (W.setCell ⟨rB, j, none⟩ x) rB (cs.setIfInBounds j x) v deps := by
 refine ⟨blk_put (cs' := cs.setIfInBounds j x) h.hr j x rfl, ?_, h.hB.setCell (p := ⟨rB, j, none⟩) h.n1 x, h.n1⟩
 exact Kd.R_mono (Kd.R_far (p := ⟨rB, j, none⟩) (Kd.R_types h.hR h.hr (by decide)) (fun _ hk => hk.2) _) (fun _ _ => trivial)
theorem FR.fill {w W : World} {rB : Nat} {v : Value} {deps : List Int} (h : FR w W rB #[.int .i64 0, .int .i64 0, .int .i64 0, .slice none 0 0, .int .i64 0, .int .i64 0, .int .i64 0, .int .i64 0, .int .i64 0, .int .i64 0, .int .i64 0, .string (⟨#[]⟩ : ByteArray), .string (⟨#[]⟩ : ByteArray)] v deps) (x0 x1 x2 x3 x4 x5 x6 x7 x8 x9 x10 x11 x12 : Value) : FR w (((((((((((((W.setCell ⟨rB, 0, none⟩ x0).setCell ⟨rB, 1, none⟩ x1).setCell ⟨rB, 2, none⟩ x2).setCell ⟨rB, 3, none⟩ x3).setCell ⟨rB, 4, none⟩ x4).setCell ⟨rB, 5, none⟩ x5).setCell ⟨rB, 6, none⟩ x6).setCell ⟨rB, 7, none⟩ x7).setCell ⟨rB, 8, none⟩ x8).setCell ⟨rB, 9, none⟩ x9).setCell ⟨rB, 10, none⟩ x10).setCell ⟨rB, 11, none⟩ x11).setCell ⟨rB, 12, none⟩ x12) rB #[x0, x1, x2, x3, x4, x5, x6, x7, x8, x9, x10, x11, x12] v deps := by
 have e : (((((((((((((#[.int .i64 0, .int .i64 0, .int .i64 0, .slice none 0 0, .int .i64 0, .int .i64 0, .int .i64 0, .int .i64 0, .int .i64 0, .int .i64 0, .int .i64 0, .string (⟨#[]⟩ : ByteArray), .string (⟨#[]⟩ : ByteArray)].setIfInBounds 0 x0).setIfInBounds 1 x1).setIfInBounds 2 x2).setIfInBounds 3 x3).setIfInBounds 4 x4).setIfInBounds 5 x5).setIfInBounds 6 x6).setIfInBounds 7 x7).setIfInBounds 8 x8).setIfInBounds 9 x9).setIfInBounds 10 x10).setIfInBounds 11 x11).setIfInBounds 12 x12) = #[x0, x1, x2, x3, x4, x5, x6, x7, x8, x9, x10, x11, x12] := by simp
 rw [← e]
 exact (((((((((((((h.put 0 x0).put 1 x1).put 2 x2).put 3 x3).put 4 x4).put 5 x5).put 6 x6).put 7 x7).put 8 x8).put 9 x9).put 10 x10).put 11 x11).put 12 x12)
theorem PB.fr {w W : World} {rB g cB : Nat} {cs : Array Value} {s : ByteArray} {b : Bool} {v : Value} {deps : List Int} (h : PB w W rB g cB cs s b v deps) : FR w W rB #[.int .i64 0, .int .i64 0, .int .i64 0, .slice none 0 0, .int .i64 0, .int .i64 0, .int .i64 0, .int .i64 0, .int .i64 0, .int .i64 0, .int .i64 0, .string (⟨#[]⟩ : ByteArray), .string (⟨#[]⟩ : ByteArray)] v deps := ⟨h.hr, h.hR, h.hB, h.n1⟩
theorem PB.fr0 {w W : World} {rB g cB : Nat} {cs : Array Value} {s : ByteArray} {b : Bool} {v : Value} {deps : List Int} (h : PB w W rB g cB cs s b v deps) : FR w W rB #[.int .i64 0, .int .i64 0, .int .i64 0, .slice none 0 0, .int .i64 0, .int .i64 0, .int .i64 0, .int .i64 0, .int .i64 0, .int .i64 0, .int .i64 0, .string (⟨#[]⟩ : ByteArray), .string (⟨#[]⟩ : ByteArray)] (.slice none 0 0) [] := ⟨h.hr, Kd.R_nil _ _ _ _ _, h.hB, h.n1⟩
def ParsePost (w : World) (r1 r2 r3 : Int) (r4 : List Int) (r5 r6 r7 r8 r9 r10 r11 : Int) (r12 r13 : ByteArray) (r14 : Int) (e : Ending) (w' : World) : Prop := ∃ v3_ : Value, e = .returned (.tuple #[.agg #[.int .i64 r1, .int .i64 r2, .int .i64 r3, v3_, .int .i64 r5, .int .i64 r6, .int .i64 r7, .int .i64 r8, .int .i64 r9, .int .i64 r10, .int .i64 r11, .string r12, .string r13], .int .i64 r14]) ∧ Kd.R (Kd.int .i64) 3 w' w.heap.size (fun _ => True) v3_ r4 ∧ Below w.heap.size w w'
def PP (w : World) (a0 : ByteArray) (bad : Bool) (tx : ByteArray) (er : Int) (r1 r2 r3 : Int) (r4 : List Int) (r5 r6 r7 r8 r9 r10 r11 : Int) (r12 r13 : ByteArray) (e : Ending) (w' : World) : Prop := if bad = true ∨ er ≠ 0 ∨ tx.toList ≠ a0.toList then ParsePost w 0 0 0 ([] : List Int) 0 0 0 0 0 0 0 (⟨#[]⟩ : ByteArray) (⟨#[]⟩ : ByteArray) 2 e w' else ParsePost w r1 r2 r3 r4 r5 r6 r7 r8 r9 r10 r11 r12 r13 0 e w'
theorem blk13 {W : World} {g : Nat} {t : TypeId} {x0 x1 x2 x3 x4 x5 x6 x7 x8 x9 x10 x11 x12 : Value} (h : W.heap[g]? = some (.cells #[x0, x1, x2, x3, x4, x5, x6, x7, x8, x9, x10, x11, x12] t (0, 0))) : W.cell? ⟨g, 0, none⟩ = some x0 ∧ W.frozen? ⟨g, 0, none⟩ = false ∧ W.cell? ⟨g, 1, none⟩ = some x1 ∧ W.frozen? ⟨g, 1, none⟩ = false ∧ W.cell? ⟨g, 2, none⟩ = some x2 ∧ W.frozen? ⟨g, 2, none⟩ = false ∧ W.cell? ⟨g, 3, none⟩ = some x3 ∧ W.frozen? ⟨g, 3, none⟩ = false ∧ W.cell? ⟨g, 4, none⟩ = some x4 ∧ W.frozen? ⟨g, 4, none⟩ = false ∧ W.cell? ⟨g, 5, none⟩ = some x5 ∧ W.frozen? ⟨g, 5, none⟩ = false ∧ W.cell? ⟨g, 6, none⟩ = some x6 ∧ W.frozen? ⟨g, 6, none⟩ = false ∧ W.cell? ⟨g, 7, none⟩ = some x7 ∧ W.frozen? ⟨g, 7, none⟩ = false ∧ W.cell? ⟨g, 8, none⟩ = some x8 ∧ W.frozen? ⟨g, 8, none⟩ = false ∧ W.cell? ⟨g, 9, none⟩ = some x9 ∧ W.frozen? ⟨g, 9, none⟩ = false ∧ W.cell? ⟨g, 10, none⟩ = some x10 ∧ W.frozen? ⟨g, 10, none⟩ = false ∧ W.cell? ⟨g, 11, none⟩ = some x11 ∧ W.frozen? ⟨g, 11, none⟩ = false ∧ W.cell? ⟨g, 12, none⟩ = some x12 ∧ W.frozen? ⟨g, 12, none⟩ = false :=
 ⟨blk_cell h 0, blk_frozen h 0, blk_cell h 1, blk_frozen h 1, blk_cell h 2, blk_frozen h 2, blk_cell h 3, blk_frozen h 3, blk_cell h 4, blk_frozen h 4, blk_cell h 5, blk_frozen h 5, blk_cell h 6, blk_frozen h 6, blk_cell h 7, blk_frozen h 7, blk_cell h 8, blk_frozen h 8, blk_cell h 9, blk_frozen h 9, blk_cell h 10, blk_frozen h 10, blk_cell h 11, blk_frozen h 11, blk_cell h 12, blk_frozen h 12⟩
theorem FR.zero {w W : World} {rB : Nat} (h : FR w W rB #[.int .i64 0, .int .i64 0, .int .i64 0, .slice none 0 0, .int .i64 0, .int .i64 0, .int .i64 0, .int .i64 0, .int .i64 0, .int .i64 0, .int .i64 0, .string (⟨#[]⟩ : ByteArray), .string (⟨#[]⟩ : ByteArray)] (.slice none 0 0) []) : FR w (((((((((((((W.setCell ⟨rB, 0, none⟩ (.int .i64 0)).setCell ⟨rB, 1, none⟩ (.int .i64 0)).setCell ⟨rB, 2, none⟩ (.int .i64 0)).setCell ⟨rB, 3, none⟩ (.slice none 0 0)).setCell ⟨rB, 4, none⟩ (.int .i64 0)).setCell ⟨rB, 5, none⟩ (.int .i64 0)).setCell ⟨rB, 6, none⟩ (.int .i64 0)).setCell ⟨rB, 7, none⟩ (.int .i64 0)).setCell ⟨rB, 8, none⟩ (.int .i64 0)).setCell ⟨rB, 9, none⟩ (.int .i64 0)).setCell ⟨rB, 10, none⟩ (.int .i64 0)).setCell ⟨rB, 11, none⟩ (.string (⟨#[]⟩ : ByteArray))).setCell ⟨rB, 12, none⟩ (.string (⟨#[]⟩ : ByteArray))) rB #[.int .i64 0, .int .i64 0, .int .i64 0, .slice none 0 0, .int .i64 0, .int .i64 0, .int .i64 0, .int .i64 0, .int .i64 0, .int .i64 0, .int .i64 0, .string (⟨#[]⟩ : ByteArray), .string (⟨#[]⟩ : ByteArray)] (.slice none 0 0) [] := FR.fill h (.int .i64 0) (.int .i64 0) (.int .i64 0) (.slice none 0 0) (.int .i64 0) (.int .i64 0) (.int .i64 0) (.int .i64 0) (.int .i64 0) (.int .i64 0) (.int .i64 0) (.string (⟨#[]⟩ : ByteArray)) (.string (⟨#[]⟩ : ByteArray))
theorem PP.zero {w W : World} {rB : Nat} {a0 : ByteArray} {bad : Bool} {tx : ByteArray} {er : Int} {r1 r2 r3 : Int} {r4 : List Int} {r5 r6 r7 r8 r9 r10 r11 : Int} {r12 r13 : ByteArray} (h : FR w W rB #[.int .i64 0, .int .i64 0, .int .i64 0, .slice none 0 0, .int .i64 0, .int .i64 0, .int .i64 0, .int .i64 0, .int .i64 0, .int .i64 0, .int .i64 0, .string (⟨#[]⟩ : ByteArray), .string (⟨#[]⟩ : ByteArray)] (.slice none 0 0) []) (hc : bad = true ∨ er ≠ 0 ∨ tx.toList ≠ a0.toList) : PP w a0 bad tx er r1 r2 r3 r4 r5 r6 r7 r8 r9 r10 r11 r12 r13 (.returned (.tuple #[.agg #[.int .i64 0, .int .i64 0, .int .i64 0, .slice none 0 0, .int .i64 0, .int .i64 0, .int .i64 0, .int .i64 0, .int .i64 0, .int .i64 0, .int .i64 0, .string (⟨#[]⟩ : ByteArray), .string (⟨#[]⟩ : ByteArray)], .int .i64 2])) W := by
 unfold PP
 rw [if_pos hc]
 exact ⟨.slice none 0 0, rfl, h.hR, h.hB⟩
theorem PP.good {w W : World} {rB : Nat} {a0 tx : ByteArray} {v : Value} {r1 r2 r3 : Int} {r4 : List Int} {r5 r6 r7 r8 r9 r10 r11 : Int} {r12 r13 : ByteArray} (h : FR w W rB #[.int .i64 r1, .int .i64 r2, .int .i64 r3, v, .int .i64 r5, .int .i64 r6, .int .i64 r7, .int .i64 r8, .int .i64 r9, .int .i64 r10, .int .i64 r11, .string r12, .string r13] v r4) (hc : tx.toList = a0.toList) {e : Ending} (he : e = .returned (.tuple #[.agg #[.int .i64 r1, .int .i64 r2, .int .i64 r3, v, .int .i64 r5, .int .i64 r6, .int .i64 r7, .int .i64 r8, .int .i64 r9, .int .i64 r10, .int .i64 r11, .string r12, .string r13], .int .i64 0])) : PP w a0 false tx 0 r1 r2 r3 r4 r5 r6 r7 r8 r9 r10 r11 r12 r13 e W := by
 subst he
 unfold PP
 rw [if_neg (fun hh => hh.elim (fun h => absurd h (by decide)) fun h2 => h2.elim (fun h => h rfl) fun h3 => h3 hc)]
 exact ⟨v, rfl, h.hR, h.hB⟩
theorem pp_post {w : World} {a0 : ByteArray} {bad : Bool} {tx : ByteArray} {er : Int} {x1 x2 x3 : Int} {x4 : List Int} {x5 x6 x7 x8 x9 x10 x11 : Int} {x12 x13 : ByteArray} {r1 r2 r3 : Int} {r4 : List Int} {r5 r6 r7 r8 r9 r10 r11 : Int} {r12 r13 : ByteArray} {r14 : Int} {e : Ending} {w' : World}
  (h : (if bad = true ∨ er ≠ 0 ∨ tx.toList ≠ a0.toList then some (0, 0, 0, ([] : List Int), 0, 0, 0, 0, 0, 0, 0, (⟨#[]⟩ : ByteArray), (⟨#[]⟩ : ByteArray), 2) else some (x1, x2, x3, x4, x5, x6, x7, x8, x9, x10, x11, x12, x13, 0)) = some (r1, r2, r3, r4, r5, r6, r7, r8, r9, r10, r11, r12, r13, r14)) (hp : PP w a0 bad tx er x1 x2 x3 x4 x5 x6 x7 x8 x9 x10 x11 x12 x13 e w') : ParsePost w r1 r2 r3 r4 r5 r6 r7 r8 r9 r10 r11 r12 r13 r14 e w' := by
 unfold PP at hp
 by_cases hc : bad = true ∨ er ≠ 0 ∨ tx.toList ≠ a0.toList
 ·rw [if_pos hc] at h hp
  simp only [Option.some.injEq, Prod.mk.injEq] at h
  obtain ⟨rfl, rfl, rfl, rfl, rfl, rfl, rfl, rfl, rfl, rfl, rfl, rfl, rfl, rfl⟩ := h
  exact hp
 ·rw [if_neg hc] at h hp
  simp only [Option.some.injEq, Prod.mk.injEq] at h
  obtain ⟨rfl, rfl, rfl, rfl, rfl, rfl, rfl, rfl, rfl, rfl, rfl, rfl, rfl, rfl⟩ := h
  exact hp
set_option maxHeartbeats 8000000 in
set_option maxRecDepth 100000 in
theorem parse_kind1 (k : Nat) (a0 : ByteArray) (q1 q2 q3 : Int) (q4 : List Int) (q6 q7 q8 q9 q10 q11 : Int) (q12 q13 s0 : ByteArray) (b0 : Bool) (m0 n0 : Int) (s0_ : ByteArray) (b0_ : Bool) (m1 n1 : Int) (s1_ : ByteArray) (b1_ : Bool) (nm sN : ByteArray) (bN : Bool) (tx : ByteArray) (er : Int) (w : World) (htab : TabW_ w) (hlen : ¬ (a0.size : Int) > 262144) (hH : change_reader_head.f k a0 false = some (q1, q2, q3, q4, 1, q6, q7, q8, q9, q10, q11, q12, q13, s0, b0)) (hS0 : change_reader_stamp.f k s0 b0 false = some (m0, n0, s0_, b0_)) (hS1 : change_reader_stamp.f k s0_ b0_ true = some (m1, n1, s1_, b1_)) (hN : change_reader_next.f s1_ b1_ = some (nm, sN, bN)) (hT : change_Text.f k q1 q2 q3 q4 1 q1 q2 m0 n0 m1 n1 nm q13 = some (tx, er)) :
  Calls Tryz.prog 16 #[.string a0] w (PP w a0 bN tx er q1 q2 q3 q4 1 q1 q2 m0 n0 m1 n1 nm q13) := by
 have HTAB := Aside0.mk htab
 have HB := Aside0.mk (Below.refl w.heap.size w)
 clear htab
 have c0 : decide ((a0.size : Int) > 262144) = false := decide_eq_false hlen
 clear hlen
 have HH := Aside0.mk hH
 have HS0 := Aside0.mk hS0
 have HS1 := Aside0.mk hS1
 have HN := Aside0.mk hN
 have HT := Aside0.mk hT
 clear hH hS0 hS1 hN hT
 go_enter Tryz.func16, Tryz.ntmps16
 go_wp2_with (first | ((with_reducible refine gate_dst (N := 2) rfl ?_); refine box_event ?hg (N := 2) ?hd (cs := #[.int .i64 0, .int .i64 0, .int .i64 0, .slice none 0 0, .int .i64 0, .int .i64 0, .int .i64 0, .int .i64 0, .int .i64 0, .int .i64 0, .int .i64 0, .string (⟨#[]⟩ : ByteArray), .string (⟨#[]⟩ : ByteArray)]) (t := 26) ?hr ?_; (case hd => rfl); (case hg => rfl); (case hr => first | (go_simp; done) | (go_simp; rfl)); intro rB hgr wR hboxR hbR; obtain ⟨zr0, zrf0, zr1, zrf1, zr2, zrf2, zr3, zrf3, zr4, zrf4, zr5, zrf5, zr6, zrf6, zr7, zrf7, zr8, zrf8, zr9, zrf9, zr10, zrf10, zr11, zrf11, zr12, zrf12⟩ := blk13 hboxR; have HBX := Aside0.mk (And.intro hboxR (And.intro hbR hgr)); clear hboxR hbR hgr) | ((with_reducible refine gate_dst (N := 5) rfl ?_); refine box_event ?hg (N := 5) ?hd (cs := #[.int .i64 0, .int .i64 0, .int .i64 0, .slice none 0 0, .int .i64 0, .int .i64 0, .int .i64 0, .int .i64 0, .int .i64 0, .int .i64 0, .int .i64 0, .string (⟨#[]⟩ : ByteArray), .string (⟨#[]⟩ : ByteArray)]) (t := 26) ?hr ?_; (case hd => rfl); (case hg => rfl); (case hr => first | (go_simp; done) | (go_simp; rfl)); intro cB hgc w2 hboxC hbC; obtain ⟨zc0, zcf0, zc1, zcf1, zc2, zcf2, zc3, zcf3, zc4, zcf4, zc5, zcf5, zc6, zcf6, zc7, zcf7, zc8, zcf8, zc9, zcf9, zc10, zcf10, zc11, zcf11, zc12, zcf12⟩ := blk13 hboxC; have P0 := Aside0.mk (show PB w w2 rB wR.heap.size cB #[.int .i64 0, .int .i64 0, .int .i64 0, .slice none 0 0, .int .i64 0, .int .i64 0, .int .i64 0, .int .i64 0, .int .i64 0, .int .i64 0, .int .i64 0, .string (⟨#[]⟩ : ByteArray), .string (⟨#[]⟩ : ByteArray)] s0 b0 (.slice Av q4.length cv) q4 from ⟨blk_below H1.out.2.2.2 hbC, hboxC, IsS56.below H1.out.2.1 hbC, Kd.R_below H1.out.1 hbC, H1.out.2.2.1.trans (hbC.mono H1.out.2.2.1.size), by rw [HBX.out.2.2]; exact Nat.le_refl _, by rw [hgc]; exact H1.out.2.2.1.size, by rw [hgc]; exact Nat.ne_of_lt (blk_lt H1.out.2.2.2)⟩); clear hboxC hbC hgc) | (go_at_call 46; refine (change_reader_head.calls k wR.heap.size a0 false q1 q2 q3 q4 1 q6 q7 q8 q9 q10 q11 q12 q13 s0 b0 w _ (IsS56.new w wR a0 false HBX.out.2.1) (below_alloc HBX.out.2.1 _) HTAB.out HH.out).mono ?_; rintro e w1 ⟨v_, rfl, hrow, hi, hb, hk⟩; obtain ⟨Av, cv, rfl⟩ := Kd.R_slice hrow; have hr1 := hk.blk (blk_alloc HBX.out.1 (.cells #[.string a0, .bool false] 56)) (by have := blk_lt HBX.out.1; omega) (by simp); have H1 := Aside0.mk (And.intro (Kd.R_lower hrow (below_alloc HBX.out.2.1 (.cells #[.string a0, .bool false] 56)).size) (And.intro hi (And.intro hb hr1))); clear hrow hi hb hk hr1))
 have hp_ := PB.as (cs' := #[.int .i64 q1, .int .i64 q2, .int .i64 q3, .slice Av q4.length cv, .int .i64 1, .int .i64 q1, .int .i64 q2, .int .i64 q8, .int .i64 q9, .int .i64 q10, .int .i64 q11, .string q12, .string q13]) (PB.fill P0.out (.int .i64 q1) (.int .i64 q2) (.int .i64 q3) (.slice Av q4.length cv) (.int .i64 1) (.int .i64 q6) (.int .i64 q7) (.int .i64 q8) (.int .i64 q9) (.int .i64 q10) (.int .i64 q11) (.string q12) (.string q13) (.int .i64 q1) (.int .i64 q2)) (by first | rfl | simp)
 refine (change_reader_stamp.calls k wR.heap.size s0 b0 false m0 n0 s0_ b0_ w _ hp_.hI hp_.hB HTAB.out HS0.out).mono ?_
 rintro e w3 ⟨rfl, hi, hb, hk⟩
 have P3 := Aside0.mk (hp_.call hk hi hb)
 clear hp_ hi hb hk P0
 clear zr0 zrf0 zc0 zcf0 zr1 zrf1 zc1 zcf1 zr2 zrf2 zc2 zcf2 zr3 zrf3 zc3 zcf3 zr4 zrf4 zc4 zcf4 zr5 zrf5 zc5 zcf5 zr6 zrf6 zc6 zcf6 zr7 zrf7 zc7 zcf7 zr8 zrf8 zc8 zcf8 zr9 zrf9 zc9 zcf9 zr10 zrf10 zc10 zcf10 zr11 zrf11 zc11 zcf11 zr12 zrf12 zc12 zcf12
 obtain ⟨v0, vf0, v1, vf1, v2, vf2, v3, vf3, v4, vf4, v5, vf5, v6, vf6, v7, vf7, v8, vf8, v9, vf9, v10, vf10, v11, vf11, v12, vf12, vr, vs, vrf, vsf, vn⟩ := P3.out.cells
 go_wp2_with fail
 have hp_ := PB.as (cs' := #[.int .i64 q1, .int .i64 q2, .int .i64 q3, .slice Av q4.length cv, .int .i64 1, .int .i64 q1, .int .i64 q2, .int .i64 m0, .int .i64 n0, .int .i64 q10, .int .i64 q11, .string q12, .string q13]) (((P3.out).put 7 (.int .i64 m0)).put 8 (.int .i64 n0)) (by first | rfl | simp)
 refine (change_reader_stamp.calls k wR.heap.size s0_ b0_ true m1 n1 s1_ b1_ w _ hp_.hI hp_.hB HTAB.out HS1.out).mono ?_
 rintro e w4 ⟨rfl, hi, hb, hk⟩
 have P4 := Aside0.mk (hp_.call hk hi hb)
 clear hp_ hi hb hk P3
 clear v0 vf0 v1 vf1 v2 vf2 v3 vf3 v4 vf4 v5 vf5 v6 vf6 v7 vf7 v8 vf8 v9 vf9 v10 vf10 v11 vf11 v12 vf12 vr vs vrf vsf vn
 obtain ⟨u0, uf0, u1, uf1, u2, uf2, u3, uf3, u4, uf4, u5, uf5, u6, uf6, u7, uf7, u8, uf8, u9, uf9, u10, uf10, u11, uf11, u12, uf12, ur, us, urf, usf, un⟩ := P4.out.cells
 go_wp2_with fail
 have hp_ := PB.as (cs' := #[.int .i64 q1, .int .i64 q2, .int .i64 q3, .slice Av q4.length cv, .int .i64 1, .int .i64 q1, .int .i64 q2, .int .i64 m0, .int .i64 n0, .int .i64 m1, .int .i64 n1, .string q12, .string q13]) (((P4.out).put 9 (.int .i64 m1)).put 10 (.int .i64 n1)) (by first | rfl | simp)
 refine (change_reader_next.calls wR.heap.size s1_ b1_ nm sN bN w _ hp_.hI hp_.hB HTAB.out HN.out).mono ?_
 rintro e w5 ⟨rfl, hi, hb, hk⟩
 have P5 := Aside0.mk (hp_.call hk hi hb)
 clear hp_ hi hb hk P4
 clear u0 uf0 u1 uf1 u2 uf2 u3 uf3 u4 uf4 u5 uf5 u6 uf6 u7 uf7 u8 uf8 u9 uf9 u10 uf10 u11 uf11 u12 uf12 ur us urf usf un
 obtain ⟨v0, vf0, v1, vf1, v2, vf2, v3, vf3, v4, vf4, v5, vf5, v6, vf6, v7, vf7, v8, vf8, v9, vf9, v10, vf10, v11, vf11, v12, vf12, vr, vs, vrf, vsf, vn⟩ := P5.out.cells
 go_wp2_with fail
 have hp_ := PB.as (cs' := #[.int .i64 q1, .int .i64 q2, .int .i64 q3, .slice Av q4.length cv, .int .i64 1, .int .i64 q1, .int .i64 q2, .int .i64 m0, .int .i64 n0, .int .i64 m1, .int .i64 n1, .string nm, .string q13]) ((P5.out).put 11 (.string nm)) (by first | rfl | simp)
 obtain ⟨A_, c_, he_, h1_, h2_⟩ := Kd.R_reads hp_.hR
 cases he_
 refine (change_Text.calls k q1 q2 q3 Av cv q4 1 q1 q2 m0 n0 m1 n1 nm q13 tx er _ h2_ h1_ (tabW_below_ HTAB.out hp_.hB) HT.out).mono ?_
 rintro e w6 ⟨rfl, hb⟩
 have P6 := Aside0.mk (hp_.below hb)
 clear hp_ hb h1_ h2_ P5
 clear v0 vf0 v1 vf1 v2 vf2 v3 vf3 v4 vf4 v5 vf5 v6 vf6 v7 vf7 v8 vf8 v9 vf9 v10 vf10 v11 vf11 v12 vf12 vr vs vrf vsf vn
 obtain ⟨u0, uf0, u1, uf1, u2, uf2, u3, uf3, u4, uf4, u5, uf5, u6, uf6, u7, uf7, u8, uf8, u9, uf9, u10, uf10, u11, uf11, u12, uf12, ur, us, urf, usf, un⟩ := P6.out.cells
 obtain ⟨z0, y0, z1, y1, z2, y2, z3, y3, z4, y4, z5, y5, z6, y6, z7, y7, z8, y8, z9, y9, z10, y10, z11, y11, z12, y12, zn⟩ := P6.out.rcells
 cases bN
 case true =>
  go_wp2
  exact bodyPost_ret (results_ct rfl _ _ rB 26 _ (0, 0) _ rfl (P6.out.fr0.zero).hr Tryz.underlying26 rfl (by kernel_rfl)) rfl (PP.zero P6.out.fr0.zero (.inl rfl))
 case false =>
  by_cases her : er = 0
  ·subst her
   by_cases htx : tx.toList = a0.toList
   ·have t1 : (tx.toList == a0.toList) = true := beq_iff_eq.2 htx
    have t2 : (tx.toList != a0.toList) = false := bne_eq_false_iff_eq.2 htx
    have HTX := Aside0.mk htx
    clear htx
    go_wp2
    have hF := FR.fill P6.out.fr (.int .i64 q1) (.int .i64 q2) (.int .i64 q3) (.slice Av q4.length cv) (.int .i64 1) (.int .i64 q1) (.int .i64 q2) (.int .i64 m0) (.int .i64 n0) (.int .i64 m1) (.int .i64 n1) (.string nm) (.string q13)
    exact bodyPost_ret (results_ct rfl _ _ rB 26 _ (0, 0) _ rfl hF.hr Tryz.underlying26 rfl (by kernel_rfl)) rfl (PP.good hF HTX.out rfl)
   ·have t1 : (tx.toList == a0.toList) = false := beq_eq_false_iff_ne.2 htx
    have t2 : (tx.toList != a0.toList) = true := bne_iff_ne.2 htx
    have HTX := Aside0.mk htx
    clear htx
    go_wp2
    exact bodyPost_ret (results_ct rfl _ _ rB 26 _ (0, 0) _ rfl (P6.out.fr0.zero).hr Tryz.underlying26 rfl (by kernel_rfl)) rfl (PP.zero P6.out.fr0.zero (.inr (.inr HTX.out)))
  ·have t1 : (er == 0) = false := beq_eq_false_iff_ne.2 her
   have t2 : (er != 0) = true := bne_iff_ne.2 her
   have HER := Aside0.mk her
   clear her
   go_wp2
   exact bodyPost_ret (results_ct rfl _ _ rB 26 _ (0, 0) _ rfl (P6.out.fr0.zero).hr Tryz.underlying26 rfl (by kernel_rfl)) rfl (PP.zero P6.out.fr0.zero (.inr (.inl HER.out)))
set_option maxHeartbeats 8000000 in
set_option maxRecDepth 100000 in
theorem change_Parse.calls (k : Nat) (a0 : ByteArray) (r1 : Int) (r2 : Int) (r3 : Int) (r4 : List Int) (r5 : Int) (r6 : Int) (r7 : Int) (r8 : Int) (r9 : Int) (r10 : Int) (r11 : Int) (r12 : ByteArray) (r13 : ByteArray) (r14 : Int) (w : World) (htab : TabW_ w) (h : change_Parse.f k a0 = some (r1, r2, r3, r4, r5, r6, r7, r8, r9, r10, r11, r12, r13, r14)) :
  Calls Tryz.prog 16 #[.string a0] w fun e w' => ∃ v3_ : Value, e = .returned (.tuple #[.agg #[.int .i64 r1, .int .i64 r2, .int .i64 r3, v3_, .int .i64 r5, .int .i64 r6, .int .i64 r7, .int .i64 r8, .int .i64 r9, .int .i64 r10, .int .i64 r11, .string r12, .string r13], .int .i64 r14]) ∧ Kd.R (Kd.int .i64) 3 w' w.heap.size (fun _ => True) v3_ r4 ∧ Below w.heap.size w w' := by
 unfold change_Parse.f at h
 by_cases hlen : (a0.size : Int) > 262144
 ·rw [if_pos hlen] at h; cases h
 ·rw [if_neg hlen] at h
  obtain ⟨hd, hH, ha⟩ := Option.bind_eq_some_iff.mp h
  clear h
  obtain ⟨q1, q2, q3, q4, q5, q6, q7, q8, q9, q10, q11, q12, q13, s0, b0⟩ := hd
  simp only at ha
  by_cases z1 : q5 = 1
  rotate_left
  ·rw [if_neg z1] at ha; cases ha
  rw [if_pos z1] at ha
  obtain ⟨⟨n1, n2, s1, b1⟩, hN, hb⟩ := Option.bind_eq_some_iff.mp ha
  clear ha
  obtain ⟨⟨p1, p2, p3, p4, s2, b2⟩, hP, hc⟩ := Option.bind_eq_some_iff.mp hb
  clear hb
  obtain ⟨⟨nm, s3, b3⟩, hM, hd_⟩ := Option.bind_eq_some_iff.mp hc
  clear hc
  obtain ⟨⟨vl, b4⟩, hV, he⟩ := Option.bind_eq_some_iff.mp hd_
  clear hd_
  obtain ⟨⟨tx, er⟩, hT, hf⟩ := Option.bind_eq_some_iff.mp he
  clear he
  have h := hf
  clear hf
  simp only at hP hM hV hT h
  unfold parseNode at hN
  unfold parsePlace at hP
  unfold parseName at hM
  unfold parseValue at hV
  subst z1
  rw [if_pos rfl] at hN
  simp only [Option.some.injEq, Prod.mk.injEq] at hN
  obtain ⟨rfl, rfl, rfl, rfl⟩ := hN
  rw [if_pos (by omega)] at hP
  obtain ⟨⟨pa, pb, sP, bP⟩, hP1, hP⟩ := Option.bind_eq_some_iff.mp hP
  obtain ⟨⟨pc, pd, sQ, bQ⟩, hP2, hP⟩ := Option.bind_eq_some_iff.mp hP
  simp only [Option.some.injEq, Prod.mk.injEq] at hP hP2
  obtain ⟨rfl, rfl, rfl, rfl, rfl, rfl⟩ := hP
  rw [if_pos (by omega)] at hM
  rw [if_neg (by omega)] at hV
  simp only [Option.some.injEq, Prod.mk.injEq] at hV
  obtain ⟨rfl, rfl⟩ := hV
  exact (parse_kind1 (htab := htab) (hlen := hlen) (hH := hH) (hS0 := hP1) (hS1 := hP2) (hN := hM) (hT := hT)).mono fun e w' hp => pp_post h hp


/-! ### topiarylaw05_awake: function 13 -/
def topiarylaw05_awake.f (k : Nat)  : Option (Bool) := (change_Parse.f k (⟨#[99, 114, 101, 97, 116, 101, 32, 51, 46, 49, 32, 49, 32, 50, 32, 114, 111, 111, 116, 32, 45, 32, 112]⟩ : ByteArray)).bind fun bt265 => ((change_Text.f k bt265.1 bt265.2.1 bt265.2.2.1 bt265.2.2.2.1 bt265.2.2.2.2.1 bt265.2.2.2.2.2.1 bt265.2.2.2.2.2.2.1 bt265.2.2.2.2.2.2.2.1 bt265.2.2.2.2.2.2.2.2.1 bt265.2.2.2.2.2.2.2.2.2.1 bt265.2.2.2.2.2.2.2.2.2.2.1 bt265.2.2.2.2.2.2.2.2.2.2.2.1 bt265.2.2.2.2.2.2.2.2.2.2.2.2.1).bind fun bt282 => (if bt265.2.2.2.2.2.2.2.2.2.2.2.2.2 = 0 then (if bt282.2 = 0 then (if bt282.1.toList = ([99, 114, 101, 97, 116, 101, 32, 51, 46, 49, 32, 49, 32, 50, 32, 114, 111, 111, 116, 32, 45, 32, 112] : List UInt8) then ((change_Check.f k bt265.1 bt265.2.1 bt265.2.2.1 bt265.2.2.2.1 bt265.2.2.2.2.1 bt265.2.2.2.2.2.1 bt265.2.2.2.2.2.2.1 bt265.2.2.2.2.2.2.2.1 bt265.2.2.2.2.2.2.2.2.1 bt265.2.2.2.2.2.2.2.2.2.1 bt265.2.2.2.2.2.2.2.2.2.2.1 bt265.2.2.2.2.2.2.2.2.2.2.2.1 bt265.2.2.2.2.2.2.2.2.2.2.2.2.1).bind fun t284 => (if t284 = 0 then (some (bt265.2.2.2.2.2.2.2.2.2.2.2.1.toList == ([112] : List UInt8))) else (some false))) else (some false)) else (some false)) else (some false)))
theorem topiarylaw05_awake.mono : ∀ k, LeO (topiarylaw05_awake.f k ) (topiarylaw05_awake.f (k + 1) ) := by
 intro  k
 unfold topiarylaw05_awake.f
 repeat' first
   | (with_reducible exact change_Check.mono _ _ _ _ _ _ _ _ _ _ _ _ _ _)
   | (with_reducible exact change_Parse.mono _ _)
   | (with_reducible exact change_Text.mono _ _ _ _ _ _ _ _ _ _ _ _ _ _)
   | (with_reducible exact LeO.refl _)
   | (with_reducible exact LeO.none _)
   | (with_reducible refine LeO.ite ?_ ?_)
   | (with_reducible refine LeO.bind ?_ (fun _ => ?_))
   | exact change_Check.mono _ _ _ _ _ _ _ _ _ _ _ _ _ _
   | exact change_Parse.mono _ _
   | exact change_Text.mono _ _ _ _ _ _ _ _ _ _ _ _ _ _
   | exact LeO.none _
   | refine LeO.ite ?_ ?_
   | refine LeO.bind ?_ (fun _ => ?_)
set_option maxHeartbeats 8000000 in
set_option maxRecDepth 100000 in
theorem topiarylaw05_awake.calls (k : Nat)  (r : Bool) (w : World) (htab : TabW_ w) (h : topiarylaw05_awake.f k  = some r) :
  Calls Tryz.prog 13 #[] w fun e w' => e = .returned (.bool r) ∧ Below w.heap.size w w' := by
 have HTAB := Aside0.mk htab
 clear htab
 have hu26 := Tryz.underlying26
 have HB := Aside0.mk (Below.refl w.heap.size w)
 have H : ((change_Parse.f k (⟨#[99, 114, 101, 97, 116, 101, 32, 51, 46, 49, 32, 49, 32, 50, 32, 114, 111, 111, 116, 32, 45, 32, 112]⟩ : ByteArray)).bind fun bt265 => ((change_Text.f k bt265.1 bt265.2.1 bt265.2.2.1 bt265.2.2.2.1 bt265.2.2.2.2.1 bt265.2.2.2.2.2.1 bt265.2.2.2.2.2.2.1 bt265.2.2.2.2.2.2.2.1 bt265.2.2.2.2.2.2.2.2.1 bt265.2.2.2.2.2.2.2.2.2.1 bt265.2.2.2.2.2.2.2.2.2.2.1 bt265.2.2.2.2.2.2.2.2.2.2.2.1 bt265.2.2.2.2.2.2.2.2.2.2.2.2.1).bind fun bt282 => (if bt265.2.2.2.2.2.2.2.2.2.2.2.2.2 = 0 then (if bt282.2 = 0 then (if bt282.1.toList = ([99, 114, 101, 97, 116, 101, 32, 51, 46, 49, 32, 49, 32, 50, 32, 114, 111, 111, 116, 32, 45, 32, 112] : List UInt8) then ((change_Check.f k bt265.1 bt265.2.1 bt265.2.2.1 bt265.2.2.2.1 bt265.2.2.2.2.1 bt265.2.2.2.2.2.1 bt265.2.2.2.2.2.2.1 bt265.2.2.2.2.2.2.2.1 bt265.2.2.2.2.2.2.2.2.1 bt265.2.2.2.2.2.2.2.2.2.1 bt265.2.2.2.2.2.2.2.2.2.2.1 bt265.2.2.2.2.2.2.2.2.2.2.2.1 bt265.2.2.2.2.2.2.2.2.2.2.2.2.1).bind fun t284 => (if t284 = 0 then (some (bt265.2.2.2.2.2.2.2.2.2.2.2.1.toList == ([112] : List UInt8))) else (some false))) else (some false)) else (some false)) else (some false)))) = some r := h
 clear h
 replace H := Option.bind_eq_some_iff.mp H
 obtain ⟨⟨t265, t266, t267, t268, t271, t272, t273, t274, t275, t276, t277, t278, t279, t280⟩, A10, H⟩ := H
 (try dsimp only at H)
 have A1 := Aside0.mk A10
 clear A10
 replace H := Option.bind_eq_some_iff.mp H
 obtain ⟨⟨t282, t283⟩, A20, H⟩ := H
 (try dsimp only at H)
 have A2 := Aside0.mk A20
 clear A20
 by_cases c3 : t280 = 0
 focus
  rw [if_pos c3] at H
  have c3b0 : (t280 == 0) = true := beq_iff_eq.mpr c3
  have c3b1 : (t280 != 0) = false := bne_eq_false_iff_eq.mpr c3
  clear c3
  by_cases c4 : t283 = 0
  focus
   rw [if_pos c4] at H
   have c4b0 : (t283 == 0) = true := beq_iff_eq.mpr c4
   have c4b1 : (t283 != 0) = false := bne_eq_false_iff_eq.mpr c4
   clear c4
   by_cases c5 : t282.toList = ([99, 114, 101, 97, 116, 101, 32, 51, 46, 49, 32, 49, 32, 50, 32, 114, 111, 111, 116, 32, 45, 32, 112] : List UInt8)
   focus
    rw [if_pos c5] at H
    have c5b0 : (t282.toList == ([99, 114, 101, 97, 116, 101, 32, 51, 46, 49, 32, 49, 32, 50, 32, 114, 111, 111, 116, 32, 45, 32, 112] : List UInt8)) = true := beq_iff_eq.mpr c5
    have c5b1 : (t282.toList != ([99, 114, 101, 97, 116, 101, 32, 51, 46, 49, 32, 49, 32, 50, 32, 114, 111, 111, 116, 32, 45, 32, 112] : List UInt8)) = false := bne_eq_false_iff_eq.mpr c5
    clear c5
    replace H := Option.bind_eq_some_iff.mp H
    obtain ⟨t284, A60, H⟩ := H
    have A6 := Aside0.mk A60
    clear A60
    by_cases c7 : t284 = 0
    focus
     rw [if_pos c7] at H
     have c7b0 : (t284 == 0) = true := beq_iff_eq.mpr c7
     have c7b1 : (t284 != 0) = false := bne_eq_false_iff_eq.mpr c7
     clear c7
     obtain rfl := Option.some.inj H
    rotate_right
    focus
     rw [if_neg c7] at H
     have c7b0 : (t284 == 0) = false := beq_eq_false_iff_ne.mpr c7
     have c7b1 : (t284 != 0) = true := bne_iff_ne.mpr c7
     obtain rfl := Option.some.inj H
   rotate_right
   focus
    rw [if_neg c5] at H
    have c5b0 : (t282.toList == ([99, 114, 101, 97, 116, 101, 32, 51, 46, 49, 32, 49, 32, 50, 32, 114, 111, 111, 116, 32, 45, 32, 112] : List UInt8)) = false := beq_eq_false_iff_ne.mpr c5
    have c5b1 : (t282.toList != ([99, 114, 101, 97, 116, 101, 32, 51, 46, 49, 32, 49, 32, 50, 32, 114, 111, 111, 116, 32, 45, 32, 112] : List UInt8)) = true := bne_iff_ne.mpr c5
    obtain rfl := Option.some.inj H
    have zqm0_ := True.intro
  rotate_right
  focus
   rw [if_neg c4] at H
   have c4b0 : (t283 == 0) = false := beq_eq_false_iff_ne.mpr c4
   have c4b1 : (t283 != 0) = true := bne_iff_ne.mpr c4
   obtain rfl := Option.some.inj H
   have zqm0_ := True.intro
 rotate_right
 focus
  rw [if_neg c3] at H
  have c3b0 : (t280 == 0) = false := beq_eq_false_iff_ne.mpr c3
  have c3b1 : (t280 != 0) = true := bne_iff_ne.mpr c3
  obtain rfl := Option.some.inj H
  have zqm0_ := True.intro
 all_goals (try (clear zqm0_; go_enter Tryz.func13, Tryz.ntmps13; go_wp2_with (first | ((with_reducible refine gate_callee (f := 16) rfl ?_); refine zqG_ (some 6) rfl Tryz.func16 #[.string (⟨#[99, 114, 101, 97, 116, 101, 32, 51, 46, 49, 32, 49, 32, 50, 32, 114, 111, 111, 116, 32, 45, 32, 112]⟩ : ByteArray)] rfl ?_; (with_reducible refine (change_Parse.calls k (⟨#[99, 114, 101, 97, 116, 101, 32, 51, 46, 49, 32, 49, 32, 50, 32, 114, 111, 111, 116, 32, 45, 32, 112]⟩ : ByteArray) t265 t266 t267 t268 t271 t272 t273 t274 t275 t276 t277 t278 t279 t280 _ (tabW_below_ HTAB.out zq0_) A1.out).mono ?_); rintro e wz1 ⟨vz1, rfl, hoz2, hb⟩; refine ⟨_, rfl, ?_⟩; have HOz3 := Aside0.mk (Kd.R_lower hoz2 (below_size zq0_)); replace HB := Aside0.mk (below_step zq0_ hb); (try clear hb); (try clear hb2); (try clear hk); (try clear hi); (try clear hoz2)) | ((with_reducible refine gate_dst (N := 1) rfl ?_); refine box_event ?hg (N := 1) ?hd (cs := #[.int .i64 0, .int .i64 0, .int .i64 0, .slice none 0 0, .int .i64 0, .int .i64 0, .int .i64 0, .int .i64 0, .int .i64 0, .int .i64 0, .int .i64 0, .string (⟨#[]⟩ : ByteArray), .string (⟨#[]⟩ : ByteArray)]) (t := 26) ?hr ?_; (case hd => rfl); (case hg => rfl); (case hr => first | (go_simp; done) | (go_simp; rfl)); intro gbz4 hg wz2 hbox hb; replace HOz3 := Aside0.mk (Kd.R_below zq44_ hb); have BKz4 := Aside0.mk (hbox); have GWz4 := Aside0.mk ((zq7_ : w.heap.size ≤ gbz4)); have GEz4 := Aside0.mk ((zq7_ : w.heap.size ≤ gbz4)); replace HB := Aside0.mk (below_step zq0_ hb); clear hb hbox hg; obtain ⟨hczz5_0, hfzz5_0, hczz5_1, hfzz5_1, hczz5_2, hfzz5_2, hczz5_3, hfzz5_3, hczz5_4, hfzz5_4, hczz5_5, hfzz5_5, hczz5_6, hfzz5_6, hczz5_7, hfzz5_7, hczz5_8, hfzz5_8, hczz5_9, hfzz5_9, hczz5_10, hfzz5_10, hczz5_11, hfzz5_11, hczz5_12, hfzz5_12⟩ := zqC13_ BKz4.out; obtain ⟨Aoz6, coz6, eoz6⟩ := Kd.R_slice HOz3.out; subst eoz6) | ((with_reducible refine gate_callee (f := 14) rfl ?_); refine zqG_ (some 11) rfl Tryz.func14 #[.agg #[.int .i64 t265, .int .i64 t266, .int .i64 t267, .slice Aoz6 t268.length coz6, .int .i64 t271, .int .i64 t272, .int .i64 t273, .int .i64 t274, .int .i64 t275, .int .i64 t276, .int .i64 t277, .string t278, .string t279]] rfl ?_; (with_reducible refine (change_Text.calls k t265 t266 t267 _ _ t268 t271 t272 t273 t274 t275 t276 t277 t278 t279 t282 t283 _ ?side1 ?side2 (tabW_below_ HTAB.out (zqB1_ GEz4.out)) A2.out).mono ?_); (case side1 => refine (Kd.R_reads' (e := 3) (base := w.heap.size) (ok := fun k_ => True) (n := t268.length) (c := coz6) ?_).2.2; exact zq4_); (case side2 => exact (Kd.R_reads' HOz3.out).2.1); rintro e wz3 ⟨rfl, hb⟩; refine ⟨_, rfl, ?_⟩; replace HOz3 := Aside0.mk (Kd.R_below zq4_ hb); replace BKz4 := Aside0.mk (blk_below (g := gbz4) (o := .cells #[.int .i64 t265, .int .i64 t266, .int .i64 t267, .slice Aoz6 t268.length coz6, .int .i64 t271, .int .i64 t272, .int .i64 t273, .int .i64 t274, .int .i64 t275, .int .i64 t276, .int .i64 t277, .string t278, .string t279] 26 (0, 0)) zq1_ hb); replace HB := Aside0.mk (below_step (zqB1_ GEz4.out) hb); (try clear hb); (try clear hb2); (try clear hk); (try clear hi)))))
 ·go_ret
  exact ⟨by first | rfl | (simp [errW_none, errW_some] <;> rfl) | (simp [*, errW_none, errW_some] <;> rfl), by repeat (first | (with_reducible first | exact HB.out | apply below_alloc | apply pw_below_drewN | apply below_drew1 | refine below_set ?_ GEz4.out) | exact HB.out)⟩
 ·go_ret
  exact ⟨by first | rfl | (simp [errW_none, errW_some] <;> rfl) | (simp [*, errW_none, errW_some] <;> rfl), by repeat (first | (with_reducible first | exact HB.out | apply below_alloc | apply pw_below_drewN | apply below_drew1 | refine below_set ?_ GEz4.out) | exact HB.out)⟩
 ·go_ret
  exact ⟨by first | rfl | (simp [errW_none, errW_some] <;> rfl) | (simp [*, errW_none, errW_some] <;> rfl), by repeat (first | (with_reducible first | exact HB.out | apply below_alloc | apply pw_below_drewN | apply below_drew1 | refine below_set ?_ GEz4.out) | exact HB.out)⟩
 ·go_enter Tryz.func13, Tryz.ntmps13
  go_wp2_with (first | ((with_reducible refine gate_callee (f := 16) rfl ?_); refine zqG_ (some 6) rfl Tryz.func16 #[.string (⟨#[99, 114, 101, 97, 116, 101, 32, 51, 46, 49, 32, 49, 32, 50, 32, 114, 111, 111, 116, 32, 45, 32, 112]⟩ : ByteArray)] rfl ?_; (with_reducible refine (change_Parse.calls k (⟨#[99, 114, 101, 97, 116, 101, 32, 51, 46, 49, 32, 49, 32, 50, 32, 114, 111, 111, 116, 32, 45, 32, 112]⟩ : ByteArray) t265 t266 t267 t268 t271 t272 t273 t274 t275 t276 t277 t278 t279 t280 _ (tabW_below_ HTAB.out zq0_) A1.out).mono ?_); rintro e wz1 ⟨vz1, rfl, hoz2, hb⟩; refine ⟨_, rfl, ?_⟩; have HOz3 := Aside0.mk (Kd.R_lower hoz2 (below_size zq0_)); replace HB := Aside0.mk (below_step zq0_ hb); (try clear hb); (try clear hb2); (try clear hk); (try clear hi); (try clear hoz2)) | ((with_reducible refine gate_dst (N := 1) rfl ?_); refine box_event ?hg (N := 1) ?hd (cs := #[.int .i64 0, .int .i64 0, .int .i64 0, .slice none 0 0, .int .i64 0, .int .i64 0, .int .i64 0, .int .i64 0, .int .i64 0, .int .i64 0, .int .i64 0, .string (⟨#[]⟩ : ByteArray), .string (⟨#[]⟩ : ByteArray)]) (t := 26) ?hr ?_; (case hd => rfl); (case hg => rfl); (case hr => first | (go_simp; done) | (go_simp; rfl)); intro gbz4 hg wz2 hbox hb; replace HOz3 := Aside0.mk (Kd.R_below zq44_ hb); have BKz4 := Aside0.mk (hbox); have GWz4 := Aside0.mk ((zq7_ : w.heap.size ≤ gbz4)); have GEz4 := Aside0.mk ((zq7_ : w.heap.size ≤ gbz4)); replace HB := Aside0.mk (below_step zq0_ hb); clear hb hbox hg; obtain ⟨hczz5_0, hfzz5_0, hczz5_1, hfzz5_1, hczz5_2, hfzz5_2, hczz5_3, hfzz5_3, hczz5_4, hfzz5_4, hczz5_5, hfzz5_5, hczz5_6, hfzz5_6, hczz5_7, hfzz5_7, hczz5_8, hfzz5_8, hczz5_9, hfzz5_9, hczz5_10, hfzz5_10, hczz5_11, hfzz5_11, hczz5_12, hfzz5_12⟩ := zqC13_ BKz4.out; obtain ⟨Aoz6, coz6, eoz6⟩ := Kd.R_slice HOz3.out; subst eoz6) | ((with_reducible refine gate_callee (f := 14) rfl ?_); refine zqG_ (some 11) rfl Tryz.func14 #[.agg #[.int .i64 t265, .int .i64 t266, .int .i64 t267, .slice Aoz6 t268.length coz6, .int .i64 t271, .int .i64 t272, .int .i64 t273, .int .i64 t274, .int .i64 t275, .int .i64 t276, .int .i64 t277, .string t278, .string t279]] rfl ?_; (with_reducible refine (change_Text.calls k t265 t266 t267 _ _ t268 t271 t272 t273 t274 t275 t276 t277 t278 t279 t282 t283 _ ?side1 ?side2 (tabW_below_ HTAB.out (zqB1_ GEz4.out)) A2.out).mono ?_); (case side1 => refine (Kd.R_reads' (e := 3) (base := w.heap.size) (ok := fun k_ => True) (n := t268.length) (c := coz6) ?_).2.2; exact zq4_); (case side2 => exact (Kd.R_reads' HOz3.out).2.1); rintro e wz3 ⟨rfl, hb⟩; refine ⟨_, rfl, ?_⟩; replace HOz3 := Aside0.mk (Kd.R_below zq4_ hb); replace BKz4 := Aside0.mk (blk_below (g := gbz4) (o := .cells #[.int .i64 t265, .int .i64 t266, .int .i64 t267, .slice Aoz6 t268.length coz6, .int .i64 t271, .int .i64 t272, .int .i64 t273, .int .i64 t274, .int .i64 t275, .int .i64 t276, .int .i64 t277, .string t278, .string t279] 26 (0, 0)) zq1_ hb); replace HB := Aside0.mk (below_step (zqB1_ GEz4.out) hb); (try clear hb); (try clear hb2); (try clear hk); (try clear hi); obtain ⟨hczz7_0, hfzz7_0, hczz7_1, hfzz7_1, hczz7_2, hfzz7_2, hczz7_3, hfzz7_3, hczz7_4, hfzz7_4, hczz7_5, hfzz7_5, hczz7_6, hfzz7_6, hczz7_7, hfzz7_7, hczz7_8, hfzz7_8, hczz7_9, hfzz7_9, hczz7_10, hfzz7_10, hczz7_11, hfzz7_11, hczz7_12, hfzz7_12⟩ := zqC13_ BKz4.out) | (go_at_call 8; (with_reducible refine (change_Check.calls k t265 t266 t267 _ _ t268 t271 t272 t273 t274 t275 t276 t277 t278 t279 t284 _ ?side1 ?side2 A6.out).mono ?_); (case side1 => repeat (first | exact (Kd.R_reads' HOz3.out).2.2 | (with_reducible refine Kd.C_alloc ?_ _) | (with_reducible refine Kd.C_drewN ?_ _) | (with_reducible refine Kd.C_drew ?_))); (case side2 => exact (Kd.R_reads' HOz3.out).2.1); rintro e wz4 ⟨rfl, hb⟩; replace HOz3 := Aside0.mk (Kd.R_below zq44_ hb); replace BKz4 := Aside0.mk (blk_below (zqK_ BKz4.out) hb); replace HB := Aside0.mk (below_step (zqB1_ GEz4.out) hb); (try clear hb); (try clear hb2); (try clear hk); (try clear hi)))
  go_ret
  exact ⟨by first | rfl | (simp [errW_none, errW_some] <;> rfl) | (simp [*, errW_none, errW_some] <;> rfl), by repeat (first | (with_reducible first | exact HB.out | apply below_alloc | apply pw_below_drewN | apply below_drew1 | refine below_set ?_ GEz4.out) | exact HB.out)⟩
 ·go_enter Tryz.func13, Tryz.ntmps13
  go_wp2_with (first | ((with_reducible refine gate_callee (f := 16) rfl ?_); refine zqG_ (some 6) rfl Tryz.func16 #[.string (⟨#[99, 114, 101, 97, 116, 101, 32, 51, 46, 49, 32, 49, 32, 50, 32, 114, 111, 111, 116, 32, 45, 32, 112]⟩ : ByteArray)] rfl ?_; (with_reducible refine (change_Parse.calls k (⟨#[99, 114, 101, 97, 116, 101, 32, 51, 46, 49, 32, 49, 32, 50, 32, 114, 111, 111, 116, 32, 45, 32, 112]⟩ : ByteArray) t265 t266 t267 t268 t271 t272 t273 t274 t275 t276 t277 t278 t279 t280 _ (tabW_below_ HTAB.out zq0_) A1.out).mono ?_); rintro e wz1 ⟨vz1, rfl, hoz2, hb⟩; refine ⟨_, rfl, ?_⟩; have HOz3 := Aside0.mk (Kd.R_lower hoz2 (below_size zq0_)); replace HB := Aside0.mk (below_step zq0_ hb); (try clear hb); (try clear hb2); (try clear hk); (try clear hi); (try clear hoz2)) | ((with_reducible refine gate_dst (N := 1) rfl ?_); refine box_event ?hg (N := 1) ?hd (cs := #[.int .i64 0, .int .i64 0, .int .i64 0, .slice none 0 0, .int .i64 0, .int .i64 0, .int .i64 0, .int .i64 0, .int .i64 0, .int .i64 0, .int .i64 0, .string (⟨#[]⟩ : ByteArray), .string (⟨#[]⟩ : ByteArray)]) (t := 26) ?hr ?_; (case hd => rfl); (case hg => rfl); (case hr => first | (go_simp; done) | (go_simp; rfl)); intro gbz4 hg wz2 hbox hb; replace HOz3 := Aside0.mk (Kd.R_below zq44_ hb); have BKz4 := Aside0.mk (hbox); have GWz4 := Aside0.mk ((zq7_ : w.heap.size ≤ gbz4)); have GEz4 := Aside0.mk ((zq7_ : w.heap.size ≤ gbz4)); replace HB := Aside0.mk (below_step zq0_ hb); clear hb hbox hg; obtain ⟨hczz5_0, hfzz5_0, hczz5_1, hfzz5_1, hczz5_2, hfzz5_2, hczz5_3, hfzz5_3, hczz5_4, hfzz5_4, hczz5_5, hfzz5_5, hczz5_6, hfzz5_6, hczz5_7, hfzz5_7, hczz5_8, hfzz5_8, hczz5_9, hfzz5_9, hczz5_10, hfzz5_10, hczz5_11, hfzz5_11, hczz5_12, hfzz5_12⟩ := zqC13_ BKz4.out; obtain ⟨Aoz6, coz6, eoz6⟩ := Kd.R_slice HOz3.out; subst eoz6) | ((with_reducible refine gate_callee (f := 14) rfl ?_); refine zqG_ (some 11) rfl Tryz.func14 #[.agg #[.int .i64 t265, .int .i64 t266, .int .i64 t267, .slice Aoz6 t268.length coz6, .int .i64 t271, .int .i64 t272, .int .i64 t273, .int .i64 t274, .int .i64 t275, .int .i64 t276, .int .i64 t277, .string t278, .string t279]] rfl ?_; (with_reducible refine (change_Text.calls k t265 t266 t267 _ _ t268 t271 t272 t273 t274 t275 t276 t277 t278 t279 t282 t283 _ ?side1 ?side2 (tabW_below_ HTAB.out (zqB1_ GEz4.out)) A2.out).mono ?_); (case side1 => refine (Kd.R_reads' (e := 3) (base := w.heap.size) (ok := fun k_ => True) (n := t268.length) (c := coz6) ?_).2.2; exact zq4_); (case side2 => exact (Kd.R_reads' HOz3.out).2.1); rintro e wz3 ⟨rfl, hb⟩; refine ⟨_, rfl, ?_⟩; replace HOz3 := Aside0.mk (Kd.R_below zq4_ hb); replace BKz4 := Aside0.mk (blk_below (g := gbz4) (o := .cells #[.int .i64 t265, .int .i64 t266, .int .i64 t267, .slice Aoz6 t268.length coz6, .int .i64 t271, .int .i64 t272, .int .i64 t273, .int .i64 t274, .int .i64 t275, .int .i64 t276, .int .i64 t277, .string t278, .string t279] 26 (0, 0)) zq1_ hb); replace HB := Aside0.mk (below_step (zqB1_ GEz4.out) hb); (try clear hb); (try clear hb2); (try clear hk); (try clear hi); obtain ⟨hczz7_0, hfzz7_0, hczz7_1, hfzz7_1, hczz7_2, hfzz7_2, hczz7_3, hfzz7_3, hczz7_4, hfzz7_4, hczz7_5, hfzz7_5, hczz7_6, hfzz7_6, hczz7_7, hfzz7_7, hczz7_8, hfzz7_8, hczz7_9, hfzz7_9, hczz7_10, hfzz7_10, hczz7_11, hfzz7_11, hczz7_12, hfzz7_12⟩ := zqC13_ BKz4.out) | (go_at_call 8; (with_reducible refine (change_Check.calls k t265 t266 t267 _ _ t268 t271 t272 t273 t274 t275 t276 t277 t278 t279 t284 _ ?side1 ?side2 A6.out).mono ?_); (case side1 => repeat (first | exact (Kd.R_reads' HOz3.out).2.2 | (with_reducible refine Kd.C_alloc ?_ _) | (with_reducible refine Kd.C_drewN ?_ _) | (with_reducible refine Kd.C_drew ?_))); (case side2 => exact (Kd.R_reads' HOz3.out).2.1); rintro e wz4 ⟨rfl, hb⟩; replace HOz3 := Aside0.mk (Kd.R_below zq44_ hb); replace BKz4 := Aside0.mk (blk_below (zqK_ BKz4.out) hb); replace HB := Aside0.mk (below_step (zqB1_ GEz4.out) hb); (try clear hb); (try clear hb2); (try clear hk); (try clear hi); obtain ⟨hczz8_0, hfzz8_0, hczz8_1, hfzz8_1, hczz8_2, hfzz8_2, hczz8_3, hfzz8_3, hczz8_4, hfzz8_4, hczz8_5, hfzz8_5, hczz8_6, hfzz8_6, hczz8_7, hfzz8_7, hczz8_8, hfzz8_8, hczz8_9, hfzz8_9, hczz8_10, hfzz8_10, hczz8_11, hfzz8_11, hczz8_12, hfzz8_12⟩ := zqC13_ BKz4.out))
  go_ret
  exact ⟨by first | rfl | (simp [errW_none, errW_some] <;> rfl) | (simp [*, errW_none, errW_some] <;> rfl), by repeat (first | (with_reducible first | exact HB.out | apply below_alloc | apply pw_below_drewN | apply below_drew1 | refine below_set ?_ GEz4.out) | exact HB.out)⟩

/-! ### topiaryref02_Same: function 56 -/
def topiaryref02_Same.l0 : Nat → List Int → List Int → Int → Option (Bool)
 | 0, _, _, _ => none
 | k + 1, x0, x1, x5 => if x5 < (x0.length : Int) then (if 0 ≤ x5 then (if x5 < (x1.length : Int) then (if (rd x0 x5) = (rd x1 x5) then (topiaryref02_Same.l0 k x0 x1 (wrap64 (x5 + 1))) else (some false)) else (none)) else (none)) else (some true)
def topiaryref02_Same.f (k : Nat) (l0 : List Int) (l1 : List Int) : Option (Bool) := if (l0.length : Int) = (l1.length : Int) then (topiaryref02_Same.l0 k l0 l1 0) else (some false)
theorem topiaryref02_Same.mono_l : ∀ k, (∀ y0 y1 y2, LeO (topiaryref02_Same.l0 k y0 y1 y2) (topiaryref02_Same.l0 (k + 1) y0 y1 y2))
 | 0 => fun _ _ _ r h => by simp [topiaryref02_Same.l0] at h
 | k + 1 => by
  have ih0 := topiaryref02_Same.mono_l k
  ·intro y0 y1 y2
   unfold topiaryref02_Same.l0
   repeat' first
   | (with_reducible exact ih0 _ _ _)
   | (with_reducible exact LeO.refl _)
   | (with_reducible exact LeO.none _)
   | (with_reducible refine LeO.ite ?_ ?_)
   | (with_reducible refine LeO.bind ?_ (fun _ => ?_))
   | exact ih0 _ _ _
   | exact LeO.none _
   | refine LeO.ite ?_ ?_
   | refine LeO.bind ?_ (fun _ => ?_)
theorem topiaryref02_Same.mono : ∀ a0 a1 k, LeO (topiaryref02_Same.f k a0 a1) (topiaryref02_Same.f (k + 1) a0 a1) := by
 intro a0 a1 k
 have ih0 := topiaryref02_Same.mono_l k
 unfold topiaryref02_Same.f
 repeat' first
   | (with_reducible exact ih0 _ _ _)
   | (with_reducible exact LeO.refl _)
   | (with_reducible exact LeO.none _)
   | (with_reducible refine LeO.ite ?_ ?_)
   | (with_reducible refine LeO.bind ?_ (fun _ => ?_))
   | exact ih0 _ _ _
   | exact LeO.none _
   | refine LeO.ite ?_ ?_
   | refine LeO.bind ?_ (fun _ => ?_)
set_option maxHeartbeats 8000000 in
set_option maxRecDepth 100000 in
theorem topiaryref02_Same.calls (k : Nat) (A0 : Option Addr) (c0 : Nat) (l0 : List Int) (A1 : Option Addr) (c1 : Nat) (l1 : List Int) (r : Bool) (w : World) (hr0 : Kd.C (Kd.int .i64) w A0 l0.length l0) (hc0 : l0.length ≤ c0) (hr1 : Kd.C (Kd.int .i64) w A1 l1.length l1) (hc1 : l1.length ≤ c1) (h : topiaryref02_Same.f k l0 l1 = some r) :
  Calls Tryz.prog 56 #[.slice A0 l0.length c0, .slice A1 l1.length c1] w fun e w' => e = .returned (.bool r) ∧ Drawn0 w w' := by
 have HR0 := Aside0.mk hr0
 have HC0 := Aside0.mk hc0
 clear hr0 hc0
 have HR1 := Aside0.mk hr1
 have HC1 := Aside0.mk hc1
 clear hr1 hc1
 have H : (if (l0.length : Int) = (l1.length : Int) then (topiaryref02_Same.l0 k l0 l1 0) else (some false)) = some r := h
 clear h
 by_cases c3 : (l0.length : Int) = (l1.length : Int)
 ·rw [if_pos c3] at H
  have c3b0 : ((l0.length : Int) == (l1.length : Int)) = true := beq_iff_eq.mpr c3
  have c3b1 : ((l0.length : Int) != (l1.length : Int)) = false := bne_eq_false_iff_eq.mpr c3
  have c3b2 : (l0.length == l1.length) = true := by first | simpa using c3 | (simp at c3 ⊢; omega)
  clear c3
  have H' := Aside0.mk H
  clear H
  go_enter Tryz.func56, Tryz.ntmps56
  go_wp2
  repeat (go_quiet (fail); try go_wp2)
  go_loopg [5] k (fun kq v5 w' => ∃ (x5_1 : Int), v5 = .int .i64 x5_1 ∧ Aside0 (topiaryref02_Same.l0 kq l0 l1 x5_1 = some r) ∧ Aside0 (kq ≤ k) ∧ Drawn0 w w')
  case atStart => exact ⟨(0), zq8_, H', ⟨Nat.le_refl _⟩, by repeat (first | exact Drawn0.refl _ | apply Drawn0.step)⟩
  case round =>
   clear H'
   try clear c1
   try clear p2
   try clear c3
   try clear c3b0
   try clear c3b1
   try clear c3b2
   obtain ⟨x5_1, rfl, HA, HK1, ⟨m1, rfl⟩⟩ := hrel
   cases gk with
   | zero => exact absurd HA.out (by simp [topiaryref02_Same.l0])
   | succ k1 =>
    have H := HA.out
    clear HA
    simp only [topiaryref02_Same.l0] at H
    by_cases c4 : x5_1 < (l0.length : Int)
    ·rw [if_pos c4] at H
     have c4b0 : decide (x5_1 < (l0.length : Int)) = true := decide_eq_true c4
     clear c4
     by_cases c5 : 0 ≤ x5_1
     ·rw [if_pos c5] at H
      have c5b0 : decide (0 ≤ x5_1) = true := decide_eq_true c5
      clear c5
      by_cases c6 : x5_1 < (l1.length : Int)
      ·rw [if_pos c6] at H
       have c6b0 : decide (x5_1 < (l1.length : Int)) = true := decide_eq_true c6
       clear c6
       by_cases c7 : (rd l0 x5_1) = (rd l1 x5_1)
       ·rw [if_pos c7] at H
        have c7b0 : ((rd l0 x5_1) == (rd l1 x5_1)) = true := beq_iff_eq.mpr c7
        have c7b1 : ((rd l0 x5_1) != (rd l1 x5_1)) = false := bne_eq_false_iff_eq.mpr c7
        clear c7
        have H' := Aside0.mk H
        clear H
        have p285 : 0 ≤ (x5_1 : Int) := of_decide_eq_true zq2_
        have q285 : x5_1 < (l0.length : Int) := of_decide_eq_true zq2_
        obtain ⟨ad285, e285, hx285_0⟩ := Kd.at_int HR0.out x5_1 p285 q285
        cases e285
        replace p285 := eq_true p285
        replace q285 := eq_true q285
        have p286 : 0 ≤ (x5_1 : Int) := of_decide_eq_true zq2_
        have q286 : x5_1 < (l1.length : Int) := of_decide_eq_true zq2_
        obtain ⟨ad286, e286, hx286_0⟩ := Kd.at_int HR1.out x5_1 p286 q286
        cases e286
        replace p286 := eq_true p286
        replace q286 := eq_true q286
        go_wp2
        repeat (go_quiet (fail); try go_wp2)
        go_roundg k1
        case measure => have := HK1.out; omega
        case rel => exact ⟨(wrap64 (x5_1 + 1)), zq8_, H', ⟨by have := HK1.out; omega⟩, by repeat (first | exact Drawn0.refl _ | apply Drawn0.step)⟩
       ·rw [if_neg c7] at H
        have c7b0 : ((rd l0 x5_1) == (rd l1 x5_1)) = false := beq_eq_false_iff_ne.mpr c7
        have c7b1 : ((rd l0 x5_1) != (rd l1 x5_1)) = true := bne_iff_ne.mpr c7
        obtain rfl := Option.some.inj H
        have p285 : 0 ≤ (x5_1 : Int) := of_decide_eq_true zq2_
        have q285 : x5_1 < (l0.length : Int) := of_decide_eq_true zq2_
        obtain ⟨ad285, e285, hx285_0⟩ := Kd.at_int HR0.out x5_1 p285 q285
        cases e285
        replace p285 := eq_true p285
        replace q285 := eq_true q285
        have p286 : 0 ≤ (x5_1 : Int) := of_decide_eq_true zq2_
        have q286 : x5_1 < (l1.length : Int) := of_decide_eq_true zq2_
        obtain ⟨ad286, e286, hx286_0⟩ := Kd.at_int HR1.out x5_1 p286 q286
        cases e286
        replace p286 := eq_true p286
        replace q286 := eq_true q286
        go_wp2
        repeat (go_quiet (fail); try go_wp2)
        go_ret
        exact ⟨by first | rfl | (simp; done) | (simp [*]; done), by repeat (first | exact Drawn0.refl _ | apply Drawn0.step)⟩
      ·rw [if_neg c6] at H
       exact absurd H (by simp)
     ·rw [if_neg c5] at H
      exact absurd H (by simp)
    ·rw [if_neg c4] at H
     have c4b0 : decide (x5_1 < (l0.length : Int)) = false := decide_eq_false c4
     clear c4
     obtain rfl := Option.some.inj H
     go_wp2
     repeat (go_quiet (fail); try go_wp2)
     go_ret
     exact ⟨by first | rfl | (simp; done) | (simp [*]; done), by repeat (first | exact Drawn0.refl _ | apply Drawn0.step)⟩
 ·rw [if_neg c3] at H
  have c3b0 : ((l0.length : Int) == (l1.length : Int)) = false := beq_eq_false_iff_ne.mpr c3
  have c3b1 : ((l0.length : Int) != (l1.length : Int)) = true := bne_iff_ne.mpr c3
  have c3b2 : (l0.length == l1.length) = false := by first | simpa using c3 | (simp at c3 ⊢; omega)
  obtain rfl := Option.some.inj H
  go_enter Tryz.func56, Tryz.ntmps56
  go_wp2
  repeat (go_quiet (fail); try go_wp2)
  go_ret
  exact ⟨by first | rfl | (simp; done) | (simp [*]; done), by repeat (first | exact Drawn0.refl _ | apply Drawn0.step)⟩

/-! ### topiaryref05_Same: function 18 -/
def topiaryref05_Same.f (k : Nat) (a0_0 : Int) (a0_1 : Int) (a0_2 : Int) (l0_3 : List Int) (a0_4 : Int) (a0_5 : Int) (a0_6 : Int) (a0_7 : Int) (a0_8 : Int) (a0_9 : Int) (a0_10 : Int) (a0_11 : ByteArray) (a0_12 : ByteArray) (a1_0 : Int) (a1_1 : Int) (a1_2 : Int) (l1_3 : List Int) (a1_4 : Int) (a1_5 : Int) (a1_6 : Int) (a1_7 : Int) (a1_8 : Int) (a1_9 : Int) (a1_10 : Int) (a1_11 : ByteArray) (a1_12 : ByteArray) : Option (Bool) := if (a0_0 == a1_0 && (a0_1 == a1_1)) = true then (if a0_2 = a1_2 then ((topiaryref02_Same.f k l0_3 l1_3).bind fun t289 => (if t289 = true then (if a0_4 = a1_4 then (if (a0_5 == a1_5 && (a0_6 == a1_6)) = true then (if (a0_7 == a1_7 && (a0_8 == a1_8)) = true then (if (a0_9 == a1_9 && (a0_10 == a1_10)) = true then (if a0_11.toList = a1_11.toList then (some (a0_12.toList == a1_12.toList)) else (some false)) else (some false)) else (some false)) else (some false)) else (some false)) else (some false))) else (some false)) else (some false)
theorem topiaryref05_Same.mono : ∀ a0 a1 a2 a3 a4 a5 a6 a7 a8 a9 a10 a11 a12 a13 a14 a15 a16 a17 a18 a19 a20 a21 a22 a23 a24 a25 k, LeO (topiaryref05_Same.f k a0 a1 a2 a3 a4 a5 a6 a7 a8 a9 a10 a11 a12 a13 a14 a15 a16 a17 a18 a19 a20 a21 a22 a23 a24 a25) (topiaryref05_Same.f (k + 1) a0 a1 a2 a3 a4 a5 a6 a7 a8 a9 a10 a11 a12 a13 a14 a15 a16 a17 a18 a19 a20 a21 a22 a23 a24 a25) := by
 intro a0 a1 a2 a3 a4 a5 a6 a7 a8 a9 a10 a11 a12 a13 a14 a15 a16 a17 a18 a19 a20 a21 a22 a23 a24 a25 k
 unfold topiaryref05_Same.f
 repeat' first
   | (with_reducible exact topiaryref02_Same.mono _ _ _)
   | (with_reducible exact LeO.refl _)
   | (with_reducible exact LeO.none _)
   | (with_reducible refine LeO.ite ?_ ?_)
   | (with_reducible refine LeO.bind ?_ (fun _ => ?_))
   | exact topiaryref02_Same.mono _ _ _
   | exact LeO.none _
   | refine LeO.ite ?_ ?_
   | refine LeO.bind ?_ (fun _ => ?_)
set_option maxHeartbeats 8000000 in
set_option maxRecDepth 100000 in
theorem topiaryref05_Same.calls (k : Nat) (a0_0 : Int) (a0_1 : Int) (a0_2 : Int) (A0_3 : Option Addr) (c0_3 : Nat) (l0_3 : List Int) (a0_4 : Int) (a0_5 : Int) (a0_6 : Int) (a0_7 : Int) (a0_8 : Int) (a0_9 : Int) (a0_10 : Int) (a0_11 : ByteArray) (a0_12 : ByteArray) (a1_0 : Int) (a1_1 : Int) (a1_2 : Int) (A1_3 : Option Addr) (c1_3 : Nat) (l1_3 : List Int) (a1_4 : Int) (a1_5 : Int) (a1_6 : Int) (a1_7 : Int) (a1_8 : Int) (a1_9 : Int) (a1_10 : Int) (a1_11 : ByteArray) (a1_12 : ByteArray) (r : Bool) (w : World) (hr0_3 : Kd.C (Kd.int .i64) w A0_3 l0_3.length l0_3) (hc0_3 : l0_3.length ≤ c0_3) (hr1_3 : Kd.C (Kd.int .i64) w A1_3 l1_3.length l1_3) (hc1_3 : l1_3.length ≤ c1_3) (h : topiaryref05_Same.f k a0_0 a0_1 a0_2 l0_3 a0_4 a0_5 a0_6 a0_7 a0_8 a0_9 a0_10 a0_11 a0_12 a1_0 a1_1 a1_2 l1_3 a1_4 a1_5 a1_6 a1_7 a1_8 a1_9 a1_10 a1_11 a1_12 = some r) :
  Calls Tryz.prog 18 #[.agg #[.int .i64 a0_0, .int .i64 a0_1, .int .i64 a0_2, .slice A0_3 l0_3.length c0_3, .int .i64 a0_4, .int .i64 a0_5, .int .i64 a0_6, .int .i64 a0_7, .int .i64 a0_8, .int .i64 a0_9, .int .i64 a0_10, .string a0_11, .string a0_12], .agg #[.int .i64 a1_0, .int .i64 a1_1, .int .i64 a1_2, .slice A1_3 l1_3.length c1_3, .int .i64 a1_4, .int .i64 a1_5, .int .i64 a1_6, .int .i64 a1_7, .int .i64 a1_8, .int .i64 a1_9, .int .i64 a1_10, .string a1_11, .string a1_12]] w fun e w' => e = .returned (.bool r) ∧ Below w.heap.size w w' := by
 have hu26 := Tryz.underlying26
 have hu23 := Tryz.underlying23
 have HR0_3 := Aside0.mk hr0_3
 have HC0_3 := Aside0.mk hc0_3
 clear hr0_3 hc0_3
 have HR1_3 := Aside0.mk hr1_3
 have HC1_3 := Aside0.mk hc1_3
 clear hr1_3 hc1_3
 have HB := Aside0.mk (Below.refl w.heap.size w)
 have H : (if (a0_0 == a1_0 && (a0_1 == a1_1)) = true then (if a0_2 = a1_2 then ((topiaryref02_Same.f k l0_3 l1_3).bind fun t289 => (if t289 = true then (if a0_4 = a1_4 then (if (a0_5 == a1_5 && (a0_6 == a1_6)) = true then (if (a0_7 == a1_7 && (a0_8 == a1_8)) = true then (if (a0_9 == a1_9 && (a0_10 == a1_10)) = true then (if a0_11.toList = a1_11.toList then (some (a0_12.toList == a1_12.toList)) else (some false)) else (some false)) else (some false)) else (some false)) else (some false)) else (some false))) else (some false)) else (some false)) = some r := h
 clear h
 by_cases c3 : (a0_0 == a1_0 && (a0_1 == a1_1)) = true
 focus
  rw [if_pos c3] at H
  have c3b0 : (a0_0 == a1_0 && (a0_1 == a1_1)) = true := c3
  (try (have c3b1 : decide (a0_0 = a1_0 && (a0_1 == a1_1)) = true := by simpa using c3))
  (try (have c3b2 : (a0_0 == a1_0 && (a0_1 == a1_1)) = true := by simpa using c3))
  clear c3
  by_cases c4 : a0_2 = a1_2
  focus
   rw [if_pos c4] at H
   have c4b0 : (a0_2 == a1_2) = true := beq_iff_eq.mpr c4
   have c4b1 : (a0_2 != a1_2) = false := bne_eq_false_iff_eq.mpr c4
   clear c4
   replace H := Option.bind_eq_some_iff.mp H
   obtain ⟨t289, A50, H⟩ := H
   have A5 := Aside0.mk A50
   clear A50
   by_cases c6 : t289 = true
   focus
    subst c6
    have H1 : (if a0_4 = a1_4 then (if (a0_5 == a1_5 && (a0_6 == a1_6)) = true then (if (a0_7 == a1_7 && (a0_8 == a1_8)) = true then (if (a0_9 == a1_9 && (a0_10 == a1_10)) = true then (if a0_11.toList = a1_11.toList then (some (a0_12.toList == a1_12.toList)) else (some false)) else (some false)) else (some false)) else (some false)) else (some false)) = some r := by rw [if_pos rfl] at H; exact H
    clear H
    have H := H1
    clear H1
    by_cases c7 : a0_4 = a1_4
    focus
     rw [if_pos c7] at H
     have c7b0 : (a0_4 == a1_4) = true := beq_iff_eq.mpr c7
     have c7b1 : (a0_4 != a1_4) = false := bne_eq_false_iff_eq.mpr c7
     clear c7
     by_cases c8 : (a0_5 == a1_5 && (a0_6 == a1_6)) = true
     focus
      rw [if_pos c8] at H
      have c8b0 : (a0_5 == a1_5 && (a0_6 == a1_6)) = true := c8
      (try (have c8b1 : decide (a0_5 = a1_5 && (a0_6 == a1_6)) = true := by simpa using c8))
      (try (have c8b2 : (a0_5 == a1_5 && (a0_6 == a1_6)) = true := by simpa using c8))
      clear c8
      by_cases c9 : (a0_7 == a1_7 && (a0_8 == a1_8)) = true
      focus
       rw [if_pos c9] at H
       have c9b0 : (a0_7 == a1_7 && (a0_8 == a1_8)) = true := c9
       (try (have c9b1 : decide (a0_7 = a1_7 && (a0_8 == a1_8)) = true := by simpa using c9))
       (try (have c9b2 : (a0_7 == a1_7 && (a0_8 == a1_8)) = true := by simpa using c9))
       clear c9
       by_cases c10 : (a0_9 == a1_9 && (a0_10 == a1_10)) = true
       focus
        rw [if_pos c10] at H
        have c10b0 : (a0_9 == a1_9 && (a0_10 == a1_10)) = true := c10
        (try (have c10b1 : decide (a0_9 = a1_9 && (a0_10 == a1_10)) = true := by simpa using c10))
        (try (have c10b2 : (a0_9 == a1_9 && (a0_10 == a1_10)) = true := by simpa using c10))
        clear c10
        by_cases c11 : a0_11.toList = a1_11.toList
        focus
         rw [if_pos c11] at H
         have c11b0 : (a0_11.toList == a1_11.toList) = true := beq_iff_eq.mpr c11
         have c11b1 : (a0_11.toList != a1_11.toList) = false := bne_eq_false_iff_eq.mpr c11
         clear c11
         obtain rfl := Option.some.inj H
         have zqm1_ := True.intro
        rotate_right
        focus
         rw [if_neg c11] at H
         have c11b0 : (a0_11.toList == a1_11.toList) = false := beq_eq_false_iff_ne.mpr c11
         have c11b1 : (a0_11.toList != a1_11.toList) = true := bne_iff_ne.mpr c11
         obtain rfl := Option.some.inj H
         have zqm1_ := True.intro
       rotate_right
       focus
        rw [if_neg c10] at H
        have c10b0 : (a0_9 == a1_9 && (a0_10 == a1_10)) = false := by simpa using c10
        (try (have c10b1 : decide (a0_9 = a1_9 && (a0_10 == a1_10)) = false := by simpa using c10))
        (try (have c10b2 : (a0_9 == a1_9 && (a0_10 == a1_10)) = false := by simpa using c10))
        (try (have c10b3 : ¬ (a0_9 = a1_9 && (a0_10 == a1_10)) := by simpa using c10))
        clear c10
        obtain rfl := Option.some.inj H
        have zqm1_ := True.intro
      rotate_right
      focus
       rw [if_neg c9] at H
       have c9b0 : (a0_7 == a1_7 && (a0_8 == a1_8)) = false := by simpa using c9
       (try (have c9b1 : decide (a0_7 = a1_7 && (a0_8 == a1_8)) = false := by simpa using c9))
       (try (have c9b2 : (a0_7 == a1_7 && (a0_8 == a1_8)) = false := by simpa using c9))
       (try (have c9b3 : ¬ (a0_7 = a1_7 && (a0_8 == a1_8)) := by simpa using c9))
       clear c9
       obtain rfl := Option.some.inj H
       have zqm1_ := True.intro
     rotate_right
     focus
      rw [if_neg c8] at H
      have c8b0 : (a0_5 == a1_5 && (a0_6 == a1_6)) = false := by simpa using c8
      (try (have c8b1 : decide (a0_5 = a1_5 && (a0_6 == a1_6)) = false := by simpa using c8))
      (try (have c8b2 : (a0_5 == a1_5 && (a0_6 == a1_6)) = false := by simpa using c8))
      (try (have c8b3 : ¬ (a0_5 = a1_5 && (a0_6 == a1_6)) := by simpa using c8))
      clear c8
      obtain rfl := Option.some.inj H
      have zqm1_ := True.intro
    rotate_right
    focus
     rw [if_neg c7] at H
     have c7b0 : (a0_4 == a1_4) = false := beq_eq_false_iff_ne.mpr c7
     have c7b1 : (a0_4 != a1_4) = true := bne_iff_ne.mpr c7
     obtain rfl := Option.some.inj H
     have zqm1_ := True.intro
   rotate_right
   focus
    replace c6 := Bool.eq_false_iff.mpr c6
    subst c6
    have H1 : (some false) = some r := by rw [if_neg (show ¬ (false = true) by decide)] at H; exact H
    clear H
    have H := H1
    clear H1
    obtain rfl := Option.some.inj H
    have zqm0_ := True.intro
  rotate_right
  focus
   rw [if_neg c4] at H
   have c4b0 : (a0_2 == a1_2) = false := beq_eq_false_iff_ne.mpr c4
   have c4b1 : (a0_2 != a1_2) = true := bne_iff_ne.mpr c4
   obtain rfl := Option.some.inj H
   have zqm0_ := True.intro
 rotate_right
 focus
  rw [if_neg c3] at H
  have c3b0 : (a0_0 == a1_0 && (a0_1 == a1_1)) = false := by simpa using c3
  (try (have c3b1 : decide (a0_0 = a1_0 && (a0_1 == a1_1)) = false := by simpa using c3))
  (try (have c3b2 : (a0_0 == a1_0 && (a0_1 == a1_1)) = false := by simpa using c3))
  (try (have c3b3 : ¬ (a0_0 = a1_0 && (a0_1 == a1_1)) := by simpa using c3))
  clear c3
  obtain rfl := Option.some.inj H
  have zqm0_ := True.intro
 all_goals (try (clear zqm0_; go_enter Tryz.func18, Tryz.ntmps18; go_wp2_with (first | ((with_reducible refine gate_dst (N := 2) rfl ?_); refine box_event ?hg (N := 2) ?hd (cs := #[.int .i64 a0_0, .int .i64 a0_1, .int .i64 a0_2, .slice A0_3 l0_3.length c0_3, .int .i64 a0_4, .int .i64 a0_5, .int .i64 a0_6, .int .i64 a0_7, .int .i64 a0_8, .int .i64 a0_9, .int .i64 a0_10, .string a0_11, .string a0_12]) (t := 26) ?hr ?_; (case hd => rfl); (case hg => rfl); (case hr => first | (go_simp; done) | (go_simp; rfl)); intro gbz1 hg wz1 hbox hb; have BKz1 := Aside0.mk (hbox); have GWz1 := Aside0.mk ((zq7_ : w.heap.size ≤ gbz1)); have GEz1 := Aside0.mk ((zq7_ : w.heap.size ≤ gbz1)); replace HB := Aside0.mk (below_step zq0_ hb); clear hb hbox hg) | ((with_reducible refine gate_dst (N := 3) rfl ?_); refine box_event ?hg (N := 3) ?hd (cs := #[.int .i64 a1_0, .int .i64 a1_1, .int .i64 a1_2, .slice A1_3 l1_3.length c1_3, .int .i64 a1_4, .int .i64 a1_5, .int .i64 a1_6, .int .i64 a1_7, .int .i64 a1_8, .int .i64 a1_9, .int .i64 a1_10, .string a1_11, .string a1_12]) (t := 26) ?hr ?_; (case hd => rfl); (case hg => rfl); (case hr => first | (go_simp; done) | (go_simp; rfl)); intro gbz2 hg wz2 hbox hb; have BKz2 := Aside0.mk (hbox); have GWz2 := Aside0.mk ((zq25_ : w.heap.size ≤ gbz2)); have GEz2 := Aside0.mk ((zq25_ : w.heap.size ≤ gbz2)); replace HB := Aside0.mk (below_step (zqB1_ GEz1.out) hb); have NBz1_z2 := Aside0.mk ((zq37_ : gbz1 ≠ gbz2)); have NBz2_z1 := Aside0.mk ((zq38_ : gbz2 ≠ gbz1)); replace BKz1 := Aside0.mk (blk_below (zqK_ BKz1.out) hb); clear hb hbox hg; have hnbz3 := NBz1_z2.out; have hncz3 := NBz2_z1.out; obtain ⟨hczz4_0, hfzz4_0, hczz4_1, hfzz4_1, hczz4_2, hfzz4_2, hczz4_3, hfzz4_3, hczz4_4, hfzz4_4, hczz4_5, hfzz4_5, hczz4_6, hfzz4_6, hczz4_7, hfzz4_7, hczz4_8, hfzz4_8, hczz4_9, hfzz4_9, hczz4_10, hfzz4_10, hczz4_11, hfzz4_11, hczz4_12, hfzz4_12⟩ := zqC13_ BKz1.out; obtain ⟨hczz5_0, hfzz5_0, hczz5_1, hfzz5_1, hczz5_2, hfzz5_2, hczz5_3, hfzz5_3, hczz5_4, hfzz5_4, hczz5_5, hfzz5_5, hczz5_6, hfzz5_6, hczz5_7, hfzz5_7, hczz5_8, hfzz5_8, hczz5_9, hfzz5_9, hczz5_10, hfzz5_10, hczz5_11, hfzz5_11, hczz5_12, hfzz5_12⟩ := zqC13_ BKz2.out) | (go_at_call 56; (with_reducible refine (topiaryref02_Same.calls k _ _ l0_3 _ _ l1_3 false _ ?side1 ?side2 ?side3 ?side4 A5.out).mono ?_); (case side1 => repeat (first | exact (Kd.C_below HR0_3.out HB.out) | (with_reducible refine Kd.C_alloc ?_ _) | (with_reducible refine Kd.C_drewN ?_ _) | (with_reducible refine Kd.C_drew ?_))); (case side2 => exact HC0_3.out); (case side3 => repeat (first | exact (Kd.C_below HR1_3.out HB.out) | (with_reducible refine Kd.C_alloc ?_ _) | (with_reducible refine Kd.C_drewN ?_ _) | (with_reducible refine Kd.C_drew ?_))); (case side4 => exact HC1_3.out); rintro e w' ⟨rfl, ⟨nd, rfl⟩⟩))))
 all_goals (try (clear zqm1_; go_enter Tryz.func18, Tryz.ntmps18; go_wp2_with (first | ((with_reducible refine gate_dst (N := 2) rfl ?_); refine box_event ?hg (N := 2) ?hd (cs := #[.int .i64 a0_0, .int .i64 a0_1, .int .i64 a0_2, .slice A0_3 l0_3.length c0_3, .int .i64 a0_4, .int .i64 a0_5, .int .i64 a0_6, .int .i64 a0_7, .int .i64 a0_8, .int .i64 a0_9, .int .i64 a0_10, .string a0_11, .string a0_12]) (t := 26) ?hr ?_; (case hd => rfl); (case hg => rfl); (case hr => first | (go_simp; done) | (go_simp; rfl)); intro gbz1 hg wz1 hbox hb; have BKz1 := Aside0.mk (hbox); have GWz1 := Aside0.mk ((zq7_ : w.heap.size ≤ gbz1)); have GEz1 := Aside0.mk ((zq7_ : w.heap.size ≤ gbz1)); replace HB := Aside0.mk (below_step zq0_ hb); clear hb hbox hg) | ((with_reducible refine gate_dst (N := 3) rfl ?_); refine box_event ?hg (N := 3) ?hd (cs := #[.int .i64 a1_0, .int .i64 a1_1, .int .i64 a1_2, .slice A1_3 l1_3.length c1_3, .int .i64 a1_4, .int .i64 a1_5, .int .i64 a1_6, .int .i64 a1_7, .int .i64 a1_8, .int .i64 a1_9, .int .i64 a1_10, .string a1_11, .string a1_12]) (t := 26) ?hr ?_; (case hd => rfl); (case hg => rfl); (case hr => first | (go_simp; done) | (go_simp; rfl)); intro gbz2 hg wz2 hbox hb; have BKz2 := Aside0.mk (hbox); have GWz2 := Aside0.mk ((zq25_ : w.heap.size ≤ gbz2)); have GEz2 := Aside0.mk ((zq25_ : w.heap.size ≤ gbz2)); replace HB := Aside0.mk (below_step (zqB1_ GEz1.out) hb); have NBz1_z2 := Aside0.mk ((zq37_ : gbz1 ≠ gbz2)); have NBz2_z1 := Aside0.mk ((zq38_ : gbz2 ≠ gbz1)); replace BKz1 := Aside0.mk (blk_below (zqK_ BKz1.out) hb); clear hb hbox hg; have hnbz3 := NBz1_z2.out; have hncz3 := NBz2_z1.out; obtain ⟨hczz4_0, hfzz4_0, hczz4_1, hfzz4_1, hczz4_2, hfzz4_2, hczz4_3, hfzz4_3, hczz4_4, hfzz4_4, hczz4_5, hfzz4_5, hczz4_6, hfzz4_6, hczz4_7, hfzz4_7, hczz4_8, hfzz4_8, hczz4_9, hfzz4_9, hczz4_10, hfzz4_10, hczz4_11, hfzz4_11, hczz4_12, hfzz4_12⟩ := zqC13_ BKz1.out; obtain ⟨hczz5_0, hfzz5_0, hczz5_1, hfzz5_1, hczz5_2, hfzz5_2, hczz5_3, hfzz5_3, hczz5_4, hfzz5_4, hczz5_5, hfzz5_5, hczz5_6, hfzz5_6, hczz5_7, hfzz5_7, hczz5_8, hfzz5_8, hczz5_9, hfzz5_9, hczz5_10, hfzz5_10, hczz5_11, hfzz5_11, hczz5_12, hfzz5_12⟩ := zqC13_ BKz2.out) | (go_at_call 56; (with_reducible refine (topiaryref02_Same.calls k _ _ l0_3 _ _ l1_3 true _ ?side1 ?side2 ?side3 ?side4 A5.out).mono ?_); (case side1 => repeat (first | exact (Kd.C_below HR0_3.out HB.out) | (with_reducible refine Kd.C_alloc ?_ _) | (with_reducible refine Kd.C_drewN ?_ _) | (with_reducible refine Kd.C_drew ?_))); (case side2 => exact HC0_3.out); (case side3 => repeat (first | exact (Kd.C_below HR1_3.out HB.out) | (with_reducible refine Kd.C_alloc ?_ _) | (with_reducible refine Kd.C_drewN ?_ _) | (with_reducible refine Kd.C_drew ?_))); (case side4 => exact HC1_3.out); rintro e w' ⟨rfl, ⟨nd, rfl⟩⟩))))
 ·go_ret
  exact ⟨by first | rfl | (simp [errW_none, errW_some] <;> rfl) | (simp [*, errW_none, errW_some] <;> rfl), by repeat (first | (with_reducible first | exact HB.out | apply below_alloc | apply pw_below_drewN | apply below_drew1 | refine below_set ?_ GEz1.out | refine below_set ?_ GEz2.out) | exact HB.out)⟩
 ·go_ret
  exact ⟨by first | rfl | (simp [errW_none, errW_some] <;> rfl) | (simp [*, errW_none, errW_some] <;> rfl), by repeat (first | (with_reducible first | exact HB.out | apply below_alloc | apply pw_below_drewN | apply below_drew1 | refine below_set ?_ GEz1.out | refine below_set ?_ GEz2.out) | exact HB.out)⟩
 ·go_ret
  exact ⟨by first | rfl | (simp [errW_none, errW_some] <;> rfl) | (simp [*, errW_none, errW_some] <;> rfl), by repeat (first | (with_reducible first | exact HB.out | apply below_alloc | apply pw_below_drewN | apply below_drew1 | refine below_set ?_ GEz1.out | refine below_set ?_ GEz2.out) | exact HB.out)⟩
 ·go_ret
  exact ⟨by first | rfl | (simp [errW_none, errW_some] <;> rfl) | (simp [*, errW_none, errW_some] <;> rfl), by repeat (first | (with_reducible first | exact HB.out | apply below_alloc | apply pw_below_drewN | apply below_drew1 | refine below_set ?_ GEz1.out | refine below_set ?_ GEz2.out) | exact HB.out)⟩
 ·go_ret
  exact ⟨by first | rfl | (simp [errW_none, errW_some] <;> rfl) | (simp [*, errW_none, errW_some] <;> rfl), by repeat (first | (with_reducible first | exact HB.out | apply below_alloc | apply pw_below_drewN | apply below_drew1 | refine below_set ?_ GEz1.out | refine below_set ?_ GEz2.out) | exact HB.out)⟩
 ·go_ret
  exact ⟨by first | rfl | (simp [errW_none, errW_some] <;> rfl) | (simp [*, errW_none, errW_some] <;> rfl), by repeat (first | (with_reducible first | exact HB.out | apply below_alloc | apply pw_below_drewN | apply below_drew1 | refine below_set ?_ GEz1.out | refine below_set ?_ GEz2.out) | exact HB.out)⟩
 ·go_ret
  exact ⟨by first | rfl | (simp [errW_none, errW_some] <;> rfl) | (simp [*, errW_none, errW_some] <;> rfl), by repeat (first | (with_reducible first | exact HB.out | apply below_alloc | apply pw_below_drewN | apply below_drew1 | refine below_set ?_ GEz1.out | refine below_set ?_ GEz2.out) | exact HB.out)⟩
 ·go_ret
  exact ⟨by first | rfl | (simp [errW_none, errW_some] <;> rfl) | (simp [*, errW_none, errW_some] <;> rfl), by repeat (first | (with_reducible first | exact HB.out | apply below_alloc | apply pw_below_drewN | apply below_drew1 | refine below_set ?_ GEz1.out | refine below_set ?_ GEz2.out) | exact HB.out)⟩
 ·go_ret
  exact ⟨by first | rfl | (simp [errW_none, errW_some] <;> rfl) | (simp [*, errW_none, errW_some] <;> rfl), by repeat (first | (with_reducible first | exact HB.out | apply below_alloc | apply pw_below_drewN | apply below_drew1 | refine below_set ?_ GEz1.out | refine below_set ?_ GEz2.out) | exact HB.out)⟩

-- NOT PRINTED: function 132 (api_Stamp_132)

-- NOT PRINTED: function 149 (api_Stamp_149)

-- NOT PRINTED: function 133 (api_Stamp_133)

-- NOT PRINTED: function 140 (bits_Len32)

-- NOT PRINTED: function 117 (bits_Len)

-- NOT PRINTED: function 150 (slices_nextPowerOfTwo)

-- NOT PRINTED: function 151 (slices_xorshift_Next)

-- NOT PRINTED: function 134 (api_Stamp_134)

-- NOT PRINTED: function 155 (api_Stamp_155)

-- NOT PRINTED: function 153 (api_Stamp_153)

-- NOT PRINTED: function 152 (api_Stamp_152)

-- NOT PRINTED: function 135 (api_Stamp_135)

-- NOT PRINTED: function 136 (api_Stamp_136)

-- NOT PRINTED: function 137 (api_Stamp_137)

-- NOT PRINTED: function 138 (api_Stamp_138)

-- NOT PRINTED: function 139 (api_Stamp_139)

-- NOT PRINTED: function 116 (api_Stamp_116)

-- NOT PRINTED: function 98 (api_Stamp_98)

-- NOT PRINTED: function 100 (api_Stamp_100)

end Go.Proofs.YtgoolgmcbnikkaaGreatDoor.QChangeSames
