-- Own text of this seat, laid by the session's program ownprint.py (wip/tools). Lean checks it.
import Derived.Test.YtgoolgmcbnikkaaGreatDoorQChangeSamesx0
import Derived.Test.YtgoolgmcbnikkaaGreatDoorQChangeSamesx2
import Derived.Test.YtgoolgmcbnikkaaGreatDoorQChangeSamesx5
namespace Go.Proofs.YtgoolgmcbnikkaaGreatDoor.QChangeSames
open Go.RowKit Go.Proofs.YtgoolgmcbnikkaaGreatDoorW.PrintWords Go.Proofs.YtgoolgmcbnikkaaGreatDoorW.PrintLast Go.Proofs.YtgoolgmcbnikkaaGreatDoorW.PrintMore
attribute [local go_sem] max2_int min2_int max_two min_two max_three min_three max_four min_four   -- for this text's walks alone
set_option linter.unusedVariables false
set_option linter.unusedSimpArgs false

-- NOT PRINTED: function 115 (bytealg_IndexByteString)

-- NOT PRINTED: function 96 (stringslite_IndexByte)

-- NOT PRINTED: function 129 (bytealg_IndexString)

-- NOT PRINTED: function 130 (bytealg_Cutover)

-- NOT PRINTED: function 148 (bytealg_hashStr_string)

-- NOT PRINTED: function 131 (bytealg_IndexRabinKarp_string)

-- NOT PRINTED: function 114 (stringslite_Index)

-- NOT PRINTED: function 95 (stringslite_Cut)

/-! ### strings_Cut: function 80 (by hand) -/
def strings_Cut.f (a0 : ByteArray) (a1 : ByteArray) : Option (ByteArray × ByteArray × Bool) := if a0.size ≤ 1048576 then some (⟨(Lib.cut a0.data.toList a1.data.toList).1.toArray⟩, ⟨(Lib.cut a0.data.toList a1.data.toList).2.1.toArray⟩, (Lib.cut a0.data.toList a1.data.toList).2.2) else none
theorem drawnN_below_ (w : World) (n : Nat) : Below w.heap.size w (w.drewN n) := ⟨rfl, rfl, rfl, Nat.le_refl _, fun _ _ => rfl⟩
set_option maxRecDepth 100000 in
theorem strings_Cut.calls (a0 : ByteArray) (a1 : ByteArray) (r1 : ByteArray) (r2 : ByteArray) (r3 : Bool) (w : World) (htab : TabW_ w) (h : strings_Cut.f a0 a1 = some (r1, r2, r3)) :
  Calls Tryz.prog 80 #[.string a0, .string a1] w fun e w' => e = .returned (.tuple #[.string r1, .string r2, .bool r3]) ∧ Below w.heap.size w w' := by
 unfold strings_Cut.f at h
 split at h
 ·rename_i hs
  simp only [Option.some.injEq, Prod.mk.injEq] at h
  obtain ⟨rfl, rfl, rfl⟩ := h
  obtain ⟨m, hm⟩ := htab.2
  refine (Tryz.strings_Cut a0 a1 m w (by omega) hm).mono ?_
  rintro e w' ⟨rfl, n, rfl⟩
  exact ⟨rfl, drawnN_below_ _ _⟩
 ·cases h


/-- A state of type 56 at block g of W; what its slices lead to came in by w0. -/
def IsS56 (w0 W : World) (g : Nat) (f0 : ByteArray) (f1 : Bool) : Prop := W.heap[g]? = some (.cells #[.string f0, .bool f1] 56 (0, 0)) ∧ w0.heap.size ≤ g
theorem IsS56.grown {w0 W : World} {g : Nat} {f0 : ByteArray} {f1 : Bool} {W1 : World} {row : Option Nat} (h : IsS56 w0 W g f0 f1) (hw : W.grownBy W1 row) (hne : some g ≠ row) : IsS56 w0 W1 g f0 f1 := by
 obtain ⟨hb, hg⟩ := h
 exact ⟨blk_grown hb hw hne, hg⟩
theorem IsS56.own_neN {w0 W : World} {g : Nat} {f0 : ByteArray} {f1 : Bool} {α : Type} {d : Kd α} {e : Nat} {base : Nat} {ok : Nat → Prop} {v : Value} {xs : List α} (h : IsS56 w0 W g f0 f1) (ho : Kd.N d e W base ok v xs) (ht : e ≠ 56) : some g ≠ v.ownBlock := by
 obtain ⟨hb, hg⟩ := h
 exact Kd.N_ne ho hb ht
theorem IsS56.fresh {w0 W : World} {g : Nat} {f0 : ByteArray} {f1 : Bool} (h : IsS56 w0 W g f0 f1) : ∀ k, W.heap.size ≤ k → k ≠ g := by
 obtain ⟨hb, hg⟩ := h
 exact Kd.freshB hb
theorem IsS56.kept {w0 W : World} {g : Nat} {f0 : ByteArray} {f1 : Bool} {W1 : World} {S : Nat → Prop} (h : IsS56 w0 W g f0 f1) (hk : Kept W W1 S) (hne : ¬ S g) : IsS56 w0 W1 g f0 f1 := by
 obtain ⟨hb, hg⟩ := h
 exact ⟨blk_kept hb hk hne, hg⟩
theorem IsS56.below {w0 W : World} {g : Nat} {f0 : ByteArray} {f1 : Bool} {W1 : World} (h : IsS56 w0 W g f0 f1) (hw : Below W.heap.size W W1) : IsS56 w0 W1 g f0 f1 := h.grown (grown_of_below hw none) (by simp)
theorem IsS56.alloc {w0 W : World} {g : Nat} {f0 : ByteArray} {f1 : Bool} (h : IsS56 w0 W g f0 f1) (o : Obj) : IsS56 w0 (W.alloc o) g f0 f1 := h.below (below_alloc (Below.refl _ _) o)
theorem IsS56.drewN {w0 W : World} {g : Nat} {f0 : ByteArray} {f1 : Bool} (h : IsS56 w0 W g f0 f1) (m : Nat) : IsS56 w0 (W.drewN m) g f0 f1 := h
theorem IsS56.drew {w0 W : World} {g : Nat} {f0 : ByteArray} {f1 : Bool} (h : IsS56 w0 W g f0 f1) : IsS56 w0 W.drew g f0 f1 := h
theorem IsS56.at_ {w0 W : World} {g : Nat} {f0 : ByteArray} {f1 : Bool} {w' : World} {m : Nat} (hq : W.drewN m = w') (h : IsS56 w0 W g f0 f1) : IsS56 w0 w' g f0 f1 := by subst hq; exact IsS56.drewN h m
theorem IsS56.apart {w0 W : World} {g : Nat} {f0 : ByteArray} {f1 : Bool} {α : Type} {d : Kd α} {e : Nat} {base : Nat} {ok : Nat → Prop} {v : Value} {xs : List α} (h : IsS56 w0 W g f0 f1) (ho : d.R e W base ok v xs) (ht : ∀ q, q ∈ e :: d.E → q ≠ 56) : d.R e W base (fun k => ok k ∧ k ≠ g) v xs := by
 obtain ⟨hb, hg⟩ := h
 exact Kd.R_types ho hb ht
theorem IsS56.own_ne {w0 W : World} {g : Nat} {f0 : ByteArray} {f1 : Bool} {α : Type} {d : Kd α} {e : Nat} {base : Nat} {ok : Nat → Prop} {v : Value} {xs : List α} (h : IsS56 w0 W g f0 f1) (ho : d.R e W base ok v xs) (ht : e ≠ 56) : some g ≠ v.ownBlock := by
 obtain ⟨hb, hg⟩ := h
 exact Kd.R_ne ho hb ht
theorem IsS56.apartQ {w0 W : World} {g : Nat} {f0 : ByteArray} {f1 : Bool} {α : Type} {d : Kd α} {e : Nat} {base : Nat} {ok : Nat → Prop} {v : Value} {xs : List α} (h : IsS56 w0 W g f0 f1) (ho : d.Q e W base ok v xs) (ht : ∀ q, q ∈ e :: d.E → q ≠ 56) : d.Q e W base (fun k => ok k ∧ k ≠ g) v xs := by
 obtain ⟨hb, hg⟩ := h
 exact Kd.Q_types ho hb ht
theorem IsS56.own_neQ {w0 W : World} {g : Nat} {f0 : ByteArray} {f1 : Bool} {α : Type} {d : Kd α} {e : Nat} {base : Nat} {ok : Nat → Prop} {v : Value} {xs : List α} (h : IsS56 w0 W g f0 f1) (ho : d.Q e W base ok v xs) (ht : e ≠ 56) : some g ≠ v.ownBlock := by
 obtain ⟨hb, hg⟩ := h
 exact Kd.Q_ne ho hb ht
theorem IsS56.apartS {w0 W : World} {g : Nat} {f0 : ByteArray} {f1 : Bool} {α : Type} {d : Kd α} {e : Nat} {base : Nat} {ok : Nat → Prop} {v : Value} {xs : List α} (h : IsS56 w0 W g f0 f1) (ho : d.S e W base ok v xs) (ht : ∀ q, q ∈ e :: d.E → q ≠ 56) : d.S e W base (fun k => ok k ∧ k ≠ g) v xs := by
 obtain ⟨hb, hg⟩ := h
 exact Kd.S_types ho hb ht
theorem IsS56.own_neS {w0 W : World} {g : Nat} {f0 : ByteArray} {f1 : Bool} {α : Type} {d : Kd α} {e : Nat} {base : Nat} {ok : Nat → Prop} {v : Value} {xs : List α} (h : IsS56 w0 W g f0 f1) (ho : d.S e W base ok v xs) (ht : e ≠ 56) : some g ≠ v.ownBlock := by
 obtain ⟨hb, hg⟩ := h
 exact Kd.S_ne ho hb ht
theorem IsS56.lt {w0 W : World} {g : Nat} {f0 : ByteArray} {f1 : Bool} (h : IsS56 w0 W g f0 f1) : g < W.heap.size := by
 obtain ⟨hb, hg⟩ := h
 exact blk_lt hb
theorem IsS56.ge {w0 W : World} {g : Nat} {f0 : ByteArray} {f1 : Bool} (h : IsS56 w0 W g f0 f1) : w0.heap.size ≤ g := by
 obtain ⟨hb, hg⟩ := h
 exact hg
theorem IsS56.ne_blk {w0 W : World} {g : Nat} {f0 : ByteArray} {f1 : Bool} {a : Nat} {cs : Array Value} {t : TypeId} {fr : Nat × Nat} (h : IsS56 w0 W g f0 f1) (hb2 : W.heap[a]? = some (.cells cs t fr)) (ht : t ≠ 56) : g ≠ a := by
 obtain ⟨hb, hg⟩ := h
 rintro rfl
 rw [hb] at hb2
 injection hb2 with hb2
 injection hb2 with _ ht2
 exact ht ht2.symm
theorem IsS56.far {w0 W : World} {g : Nat} {f0 : ByteArray} {f1 : Bool} {p : Addr} (h : IsS56 w0 W g f0 f1) (hne : g ≠ p.block) (u : Value) : IsS56 w0 (W.setCell p u) g f0 f1 := by
 obtain ⟨hb, hg⟩ := h
 exact ⟨blk_far hb hne u, hg⟩
theorem cellS56_0 {W : World} {g : Nat} {f0 : ByteArray} {f1 : Bool} (h : W.heap[g]? = some (.cells #[.string f0, .bool f1] 56 (0, 0))) : W.cell? ⟨g, 0, none⟩ = some (.string f0) := (blk_cell h 0).trans rfl
theorem IsS56.set_0 {w0 W : World} {g : Nat} {f0 : ByteArray} {f1 : Bool} (h : IsS56 w0 W g f0 f1) (x : ByteArray) : IsS56 w0 (W.setCell ⟨g, 0, none⟩ (.string x)) g x f1 := by
 obtain ⟨hb, hg⟩ := h
 exact ⟨by simpa using blk_set hb 0 (.string x), hg⟩
theorem cellS56_1 {W : World} {g : Nat} {f0 : ByteArray} {f1 : Bool} (h : W.heap[g]? = some (.cells #[.string f0, .bool f1] 56 (0, 0))) : W.cell? ⟨g, 1, none⟩ = some (.bool f1) := (blk_cell h 1).trans rfl
theorem IsS56.set_1 {w0 W : World} {g : Nat} {f0 : ByteArray} {f1 : Bool} (h : IsS56 w0 W g f0 f1) (x : Bool) : IsS56 w0 (W.setCell ⟨g, 1, none⟩ (.bool x)) g f0 x := by
 obtain ⟨hb, hg⟩ := h
 exact ⟨by simpa using blk_set hb 1 (.bool x), hg⟩
theorem IsS56.new (w0 W : World) (f0 : ByteArray) (f1 : Bool) (hB : Below w0.heap.size w0 W) : IsS56 w0 (W.alloc (.cells #[.string f0, .bool f1] 56)) W.heap.size f0 f1 := ⟨by simpa using heap_alloc_new W _, hB.size⟩

/-! ### change_reader_next: function 48 -/
def change_reader_next.f (s0_0 : ByteArray) (s0_1 : Bool) : Option (ByteArray × ByteArray × Bool) := (strings_Cut.f s0_0 (⟨#[32]⟩ : ByteArray)).bind fun bt206 => (some (bt206.1, bt206.2.1, s0_1))
set_option maxHeartbeats 8000000 in
set_option maxRecDepth 100000 in
theorem change_reader_next.calls (g : Nat) (s0_0 : ByteArray) (s0_1 : Bool) (r1 : ByteArray) (r2 : ByteArray) (r3 : Bool) (w0 w : World) (hI : IsS56 w0 w g s0_0 s0_1) (hB : Below w0.heap.size w0 w) (htab : TabW_ w0) (h : change_reader_next.f s0_0 s0_1 = some (r1, r2, r3)) :
  Calls Tryz.prog 48 #[.pointer (some ⟨g, 0, none⟩)] w fun e w' => e = .returned (.string r1) ∧ IsS56 w0 w' g r2 r3 ∧ Below w0.heap.size w0 w' ∧ KeepBut w w' g none := by
 have HTAB := Aside0.mk htab
 clear htab
 have HI0 := Aside0.mk hI
 have HK := Aside0.mk (KeepBut.refl w g none)
 have HL := Aside0.mk hB.size
 clear hI
 have HW0 := Aside0.mk hB.size
 have HB := Aside0.mk hB
 clear hB
 have H : ((strings_Cut.f s0_0 (⟨#[32]⟩ : ByteArray)).bind fun bt206 => (some (bt206.1, bt206.2.1, s0_1))) = some (r1, r2, r3) := h
 clear h
 replace H := Option.bind_eq_some_iff.mp H
 obtain ⟨⟨t206, t207, t208⟩, A20, H⟩ := H
 replace H : (some (t206, t207, s0_1)) = some (r1, r2, r3) := H
 have A2 := Aside0.mk A20
 clear A20
 simp only [Option.some.injEq, Prod.mk.injEq] at H
 obtain ⟨rfl, rfl, rfl⟩ := H
 obtain ⟨HGz3, hgz3⟩ := HI0.out
 have hcz3_0 := cellS56_0 HGz3
 have hcz3_1 := cellS56_1 HGz3
 have hfz3_0 := blk_frozen HGz3 0
 have hfz3_1 := blk_frozen HGz3 1
 clear HGz3 hgz3
 go_enter Tryz.func48, Tryz.ntmps48
 go_wp2_with (first | ((with_reducible refine gate_callee (f := 80) rfl ?_); refine zqG_ (some 11) rfl Tryz.func80 #[.string s0_0, .string (⟨#[32]⟩ : ByteArray)] rfl ?_; (with_reducible refine (strings_Cut.calls s0_0 (⟨#[32]⟩ : ByteArray) t206 t207 t208 _ (tabW_below_ HTAB.out (zqB1_ (IsS56.ge HI0.out))) A2.out).mono ?_); rintro e w4 ⟨rfl, hb⟩; refine ⟨_, rfl, ?_⟩; replace HK := Aside0.mk (KeepBut.trans zq9_ (KeepBut.of_below hb g none) (.inl rfl)); replace HB := Aside0.mk (below_step (zqB1_ (IsS56.ge HI0.out)) hb); replace HI0 := Aside0.mk (IsS56.below zq20_ hb); (try clear hb); (try clear hb2); (try clear hk); (try clear hi); obtain ⟨HGz5, hgz5⟩ := HI0.out; have hcz5_0 := cellS56_0 HGz5; have hcz5_1 := cellS56_1 HGz5; have hfz5_0 := blk_frozen HGz5 0; have hfz5_1 := blk_frozen HGz5 1; clear HGz5 hgz5))
 go_ret
 exact ⟨by first | rfl | (simp [errW_none, errW_some] <;> rfl) | (simp [*, errW_none, errW_some] <;> rfl), by repeat (first | (with_reducible first | exact HI0.out | apply IsS56.alloc | apply IsS56.drewN | apply IsS56.drew | apply IsS56.set_0 | apply IsS56.set_1) | exact HI0.out), by repeat (first | (with_reducible first | exact HB.out | apply below_alloc | apply pw_below_drewN | apply below_drew1 | refine below_set ?_ (IsS56.ge HI0.out)) | exact HB.out), by repeat (first | (with_reducible first | exact HK.out | apply KeepBut.set_ | apply keep_drewN | apply keep_drew | apply keep_alloc) | exact HK.out)⟩

/-! ### ident_whole: function 94 -/
mutual
def ident_whole.j0 : Nat → ByteArray → Bool → Option (Int × Bool)
 | 0, _, _ => none
 | k + 1, x0, x23 => if x23 = true then (some (0, false)) else (ident_whole.l0 k x0 0 (x0.size : Int) 0)
def ident_whole.l0 : Nat → ByteArray → Int → Int → Int → Option (Int × Bool)
 | 0, _, _, _, _ => none
 | k + 1, x0, x4, x25, x26 => if x26 < x25 then (if 0 ≤ x26 then (if x26 < (x0.size : Int) then (if (bt x0 x26) < 48 then (some (0, false)) else (if (bt x0 x26) > 57 then (some (0, false)) else (ident_whole.l0 k x0 (wrap64 ((wrap64 (10 * x4)) + (((bt x0 x26) - 48) % 256))) x25 (wrap64 (x26 + 1))))) else (none)) else (none)) else (some (x4, true))
end
def ident_whole.f (k : Nat) (a0 : ByteArray) : Option (Int × Bool) := if (a0.size : Int) = 0 then (ident_whole.j0 k a0 true) else (if (a0.size : Int) > 14 then (ident_whole.j0 k a0 true) else (if 0 < (a0.size : Int) then (if (bt a0 0) = 48 then (ident_whole.j0 k a0 (decide ((a0.size : Int) > 1))) else (ident_whole.j0 k a0 false)) else (none)))
theorem ident_whole.mono_l : ∀ k, (∀ y0 y1, LeO (ident_whole.j0 k y0 y1) (ident_whole.j0 (k + 1) y0 y1)) ∧ (∀ y0 y1 y2 y3, LeO (ident_whole.l0 k y0 y1 y2 y3) (ident_whole.l0 (k + 1) y0 y1 y2 y3))
 | 0 => ⟨fun _ _ r h => by simp [ident_whole.j0] at h, fun _ _ _ _ r h => by simp [ident_whole.l0] at h⟩
 | k + 1 => by
  obtain ⟨ih0, ih1⟩ := ident_whole.mono_l k
  refine ⟨?_, ?_⟩
  ·intro y0 y1
   unfold ident_whole.j0
   repeat' first
   | (with_reducible exact ih0 _ _)
   | (with_reducible exact ih1 _ _ _ _)
   | (with_reducible exact LeO.refl _)
   | (with_reducible exact LeO.none _)
   | (with_reducible refine LeO.ite ?_ ?_)
   | (with_reducible refine LeO.bind ?_ (fun _ => ?_))
   | exact ih0 _ _
   | exact ih1 _ _ _ _
   | exact LeO.none _
   | refine LeO.ite ?_ ?_
   | refine LeO.bind ?_ (fun _ => ?_)
  ·intro y0 y1 y2 y3
   unfold ident_whole.l0
   repeat' first
   | (with_reducible exact ih0 _ _)
   | (with_reducible exact ih1 _ _ _ _)
   | (with_reducible exact LeO.refl _)
   | (with_reducible exact LeO.none _)
   | (with_reducible refine LeO.ite ?_ ?_)
   | (with_reducible refine LeO.bind ?_ (fun _ => ?_))
   | exact ih0 _ _
   | exact ih1 _ _ _ _
   | exact LeO.none _
   | refine LeO.ite ?_ ?_
   | refine LeO.bind ?_ (fun _ => ?_)
theorem ident_whole.mono : ∀ a0 k, LeO (ident_whole.f k a0) (ident_whole.f (k + 1) a0) := by
 intro a0 k
 obtain ⟨ih0, ih1⟩ := ident_whole.mono_l k
 unfold ident_whole.f
 repeat' first
   | (with_reducible exact ih0 _ _)
   | (with_reducible exact ih1 _ _ _ _)
   | (with_reducible exact LeO.refl _)
   | (with_reducible exact LeO.none _)
   | (with_reducible refine LeO.ite ?_ ?_)
   | (with_reducible refine LeO.bind ?_ (fun _ => ?_))
   | exact ih0 _ _
   | exact ih1 _ _ _ _
   | exact LeO.none _
   | refine LeO.ite ?_ ?_
   | refine LeO.bind ?_ (fun _ => ?_)
set_option maxHeartbeats 8000000 in
set_option maxRecDepth 100000 in
theorem ident_whole.calls (k : Nat) (a0 : ByteArray) (r1 : Int) (r2 : Bool) (w : World) (h : ident_whole.f k a0 = some (r1, r2)) :
  Calls Tryz.prog 94 #[.string a0] w fun e w' => e = .returned (.tuple #[.int .i64 r1, .bool r2]) ∧ Drawn0 w w' := by
 have H : (if (a0.size : Int) = 0 then (ident_whole.j0 k a0 true) else (if (a0.size : Int) > 14 then (ident_whole.j0 k a0 true) else (if 0 < (a0.size : Int) then (if (bt a0 0) = 48 then (ident_whole.j0 k a0 (decide ((a0.size : Int) > 1))) else (ident_whole.j0 k a0 false)) else (none)))) = some (r1, r2) := h
 clear h
 have HC2 := Aside0.mk H
 clear H
 go_enter Tryz.func94, Tryz.ntmps94
 go_upto_region 1 with (fail)
 go_cut [23] (fun v23 wc => ∃ (kq : Nat) (x23_1 : Bool), v23 = .bool x23_1 ∧ Aside0 (ident_whole.j0 kq a0 x23_1 = some (r1, r2)) ∧ Aside0 (kq ≤ k) ∧ Drawn0 w wc)
 case first =>
  have H := HC2.out
  clear HC2
  by_cases c3 : (a0.size : Int) = 0
  ·rw [if_pos c3] at H
   have c3b0 : ((a0.size : Int) == 0) = true := beq_iff_eq.mpr c3
   have c3b1 : ((a0.size : Int) != 0) = false := bne_eq_false_iff_eq.mpr c3
   clear c3
   (first | rw [c3b0] | (simp only [i64_w, i32_w]; rw [c3b0]) | skip)
   have H' := Aside0.mk H
   clear H
   go_wp2
   go_meet
   case rel => exact ⟨_, (true), zq8_, H', ⟨by first | omega | exact Nat.le_refl _⟩, by repeat (first | exact Drawn0.refl _ | apply Drawn0.step)⟩
  ·rw [if_neg c3] at H
   have c3b0 : ((a0.size : Int) == 0) = false := beq_eq_false_iff_ne.mpr c3
   have c3b1 : ((a0.size : Int) != 0) = true := bne_iff_ne.mpr c3
   (first | rw [c3b0] | (simp only [i64_w, i32_w]; rw [c3b0]) | skip)
   by_cases c4 : (a0.size : Int) > 14
   ·rw [if_pos c4] at H
    have c4b0 : decide (14 < (a0.size : Int)) = true := decide_eq_true c4
    have c4b1 : decide (14 < a0.size) = true := decide_eq_true (by omega)
    clear c4
    have H' := Aside0.mk H
    clear H
    go_wp2
    go_meet
    case rel => exact ⟨_, (true), zq8_, H', ⟨by first | omega | exact Nat.le_refl _⟩, by repeat (first | exact Drawn0.refl _ | apply Drawn0.step)⟩
   ·rw [if_neg c4] at H
    have c4b0 : decide (14 < (a0.size : Int)) = false := decide_eq_false c4
    have c4b1 : decide (14 < a0.size) = false := decide_eq_false (by omega)
    clear c4
    by_cases c5 : 0 < (a0.size : Int)
    ·rw [if_pos c5] at H
     have c5b0 : decide (0 < (a0.size : Int)) = true := decide_eq_true c5
     have c5b1 : decide (0 < a0.size) = true := decide_eq_true (by omega)
     clear c5
     by_cases c7 : (bt a0 0) = 48
     ·rw [if_pos c7] at H
      have c7b0 : ((bt a0 0) == 48) = true := beq_iff_eq.mpr c7
      have c7b1 : ((bt a0 0) != 48) = false := bne_eq_false_iff_eq.mpr c7
      clear c7
      have H' := Aside0.mk H
      clear H
      have p6 : 0 ≤ (0 : Int) := (by omega)
      have q6 : 0 < a0.size := zq45_
      have hx6 : ∀ h : 0 < a0.size, ((a0[0]'h).toNat : Int) = bt a0 0 := bt_at a0 0
      clear p6
      have qi6 : (0 < (a0.size : Int)) = True := eq_true (of_decide_eq_true zq2_)
      replace q6 := eq_true q6
      go_wp2
      go_meet
      case rel => exact ⟨_, (decide ((a0.size : Int) > 1)), zq8_, H', ⟨by first | omega | exact Nat.le_refl _⟩, by repeat (first | exact Drawn0.refl _ | apply Drawn0.step)⟩
     ·rw [if_neg c7] at H
      have c7b0 : ((bt a0 0) == 48) = false := beq_eq_false_iff_ne.mpr c7
      have c7b1 : ((bt a0 0) != 48) = true := bne_iff_ne.mpr c7
      have H' := Aside0.mk H
      clear H
      have p6 : 0 ≤ (0 : Int) := (by omega)
      have q6 : 0 < a0.size := zq45_
      have hx6 : ∀ h : 0 < a0.size, ((a0[0]'h).toNat : Int) = bt a0 0 := bt_at a0 0
      clear p6
      have qi6 : (0 < (a0.size : Int)) = True := eq_true (of_decide_eq_true zq2_)
      replace q6 := eq_true q6
      go_wp2
      go_meet
      case rel => exact ⟨_, (false), zq8_, H', ⟨by first | omega | exact Nat.le_refl _⟩, by repeat (first | exact Drawn0.refl _ | apply Drawn0.step)⟩
    ·rw [if_neg c5] at H
     exact absurd H (by simp)
 case rest =>
  clear HC2
  try clear p2
  try clear c3
  try clear c3b0
  try clear c3b1
  try clear c4
  try clear c4b0
  try clear c4b1
  try clear c5
  try clear c5b0
  try clear c5b1
  try clear p6
  try clear q6
  try clear hx6
  try clear qi6
  try clear c7
  try clear c7b0
  try clear c7b1
  try clear p6
  try clear q6
  obtain ⟨kq, x23_1, rfl, HA, HJ1, ⟨mc1, rfl⟩⟩ := hcut
  cases kq with
  | zero => exact absurd HA.out (by simp [ident_whole.j0])
  | succ kj1 =>
   have H := HA.out
   clear HA
   simp only [ident_whole.j0] at H
   by_cases c8 : x23_1 = true
   ·subst c8
    have H1 : (some (0, false)) = some (r1, r2) := by rw [if_pos rfl] at H; exact H
    clear H
    have H := H1
    clear H1
    simp only [Option.some.injEq, Prod.mk.injEq] at H
    obtain ⟨rfl, rfl⟩ := H
    go_wp2
    go_ret2
    exact ⟨by first | rfl | (simp; done) | (simp [*]; done), by repeat (first | exact Drawn0.refl _ | apply Drawn0.step)⟩
   ·replace c8 := Bool.eq_false_iff.mpr c8
    subst c8
    have H1 : (ident_whole.l0 kj1 a0 0 (a0.size : Int) 0) = some (r1, r2) := by rw [if_neg (show ¬ (false = true) by decide)] at H; exact H
    clear H
    have H := H1
    clear H1
    have H' := Aside0.mk H
    clear H
    go_wp2
    go_loopg [4, 26] kj1 (fun kq v4 v26 w' => ∃ (x4_2 : Int) (x26_2 : Int), v4 = .int .i64 x4_2 ∧ v26 = .int .i64 x26_2 ∧ Aside0 (ident_whole.l0 kq a0 x4_2 (a0.size : Int) x26_2 = some (r1, r2)) ∧ Aside0 (kq ≤ kj1) ∧ Drawn0 w w')
    case atStart => exact ⟨(0), (0), zq8_, zq8_, H', ⟨Nat.le_refl _⟩, by repeat (first | exact Drawn0.refl _ | apply Drawn0.step)⟩
    case round =>
     clear H'
     try clear c1
     try clear p2
     try clear c3
     try clear c3b0
     try clear c3b1
     try clear c4
     try clear c4b0
     try clear c4b1
     try clear c5
     try clear c5b0
     try clear c5b1
     try clear p6
     try clear q6
     try clear hx6
     try clear qi6
     try clear c7
     try clear c7b0
     try clear c7b1
     try clear c8
     try clear p2
     try clear p6
     try clear q6
     obtain ⟨x4_2, x26_2, rfl, rfl, HA, HK2, ⟨m2, rfl⟩⟩ := hrel
     cases gk with
     | zero => exact absurd HA.out (by simp [ident_whole.l0])
     | succ k2 =>
      have H := HA.out
      clear HA
      simp only [ident_whole.l0] at H
      by_cases c9 : x26_2 < (a0.size : Int)
      ·rw [if_pos c9] at H
       have c9b0 : decide (x26_2 < (a0.size : Int)) = true := decide_eq_true c9
       clear c9
       by_cases c10 : 0 ≤ x26_2
       ·rw [if_pos c10] at H
        have c10b0 : decide (0 ≤ x26_2) = true := decide_eq_true c10
        clear c10
        by_cases c11 : x26_2 < (a0.size : Int)
        ·rw [if_pos c11] at H
         have c11b0 : decide (x26_2 < (a0.size : Int)) = true := decide_eq_true c11
         clear c11
         by_cases c13 : (bt a0 x26_2) < 48
         ·rw [if_pos c13] at H
          have c13b0 : decide ((bt a0 x26_2) < 48) = true := decide_eq_true c13
          clear c13
          simp only [Option.some.injEq, Prod.mk.injEq] at H
          obtain ⟨rfl, rfl⟩ := H
          have p12 : 0 ≤ (x26_2 : Int) := of_decide_eq_true zq2_
          have q12 : x26_2 < (a0.size : Int) := of_decide_eq_true zq2_
          have hx12 := bt_at a0 x26_2
          replace p12 := eq_true p12
          replace q12 := eq_true q12
          go_wp2
          go_ret2
          exact ⟨by first | rfl | (simp; done) | (simp [*]; done), by repeat (first | exact Drawn0.refl _ | apply Drawn0.step)⟩
         ·rw [if_neg c13] at H
          have c13b0 : decide ((bt a0 x26_2) < 48) = false := decide_eq_false c13
          clear c13
          by_cases c15 : (bt a0 x26_2) > 57
          ·rw [if_pos c15] at H
           have c15b0 : decide (57 < (bt a0 x26_2)) = true := decide_eq_true c15
           clear c15
           simp only [Option.some.injEq, Prod.mk.injEq] at H
           obtain ⟨rfl, rfl⟩ := H
           have p12 : 0 ≤ (x26_2 : Int) := of_decide_eq_true zq2_
           have q12 : x26_2 < (a0.size : Int) := of_decide_eq_true zq2_
           have hx12 := bt_at a0 x26_2
           replace p12 := eq_true p12
           replace q12 := eq_true q12
           have p14 : 0 ≤ (x26_2 : Int) := of_decide_eq_true zq2_
           have q14 : x26_2 < (a0.size : Int) := of_decide_eq_true zq2_
           have hx14 := bt_at a0 x26_2
           replace p14 := eq_true p14
           replace q14 := eq_true q14
           go_wp2
           go_ret2
           exact ⟨by first | rfl | (simp; done) | (simp [*]; done), by repeat (first | exact Drawn0.refl _ | apply Drawn0.step)⟩
          ·rw [if_neg c15] at H
           have c15b0 : decide (57 < (bt a0 x26_2)) = false := decide_eq_false c15
           clear c15
           have H' := Aside0.mk H
           clear H
           have p12 : 0 ≤ (x26_2 : Int) := of_decide_eq_true zq2_
           have q12 : x26_2 < (a0.size : Int) := of_decide_eq_true zq2_
           have hx12 := bt_at a0 x26_2
           replace p12 := eq_true p12
           replace q12 := eq_true q12
           have p14 : 0 ≤ (x26_2 : Int) := of_decide_eq_true zq2_
           have q14 : x26_2 < (a0.size : Int) := of_decide_eq_true zq2_
           have hx14 := bt_at a0 x26_2
           replace p14 := eq_true p14
           replace q14 := eq_true q14
           have p16 : 0 ≤ (x26_2 : Int) := of_decide_eq_true zq2_
           have q16 : x26_2 < (a0.size : Int) := of_decide_eq_true zq2_
           have hx16 := bt_at a0 x26_2
           replace p16 := eq_true p16
           replace q16 := eq_true q16
           go_wp2
           go_roundg k2
           case measure => have := HJ1.out; have := HK2.out; omega
           case rel => exact ⟨(wrap64 ((wrap64 (10 * x4_2)) + (((bt a0 x26_2) - 48) % 256))), (wrap64 (x26_2 + 1)), zq8_, zq8_, H', ⟨by have := HJ1.out; have := HK2.out; omega⟩, by repeat (first | exact Drawn0.refl _ | apply Drawn0.step)⟩
        ·rw [if_neg c11] at H
         exact absurd H (by simp)
       ·rw [if_neg c10] at H
        exact absurd H (by simp)
      ·rw [if_neg c9] at H
       have c9b0 : decide (x26_2 < (a0.size : Int)) = false := decide_eq_false c9
       clear c9
       simp only [Option.some.injEq, Prod.mk.injEq] at H
       obtain ⟨rfl, rfl⟩ := H
       go_wp2
       go_ret2
       exact ⟨by first | rfl | (simp; done) | (simp [*]; done), by repeat (first | exact Drawn0.refl _ | apply Drawn0.step)⟩

/-! ### ident_Parse: function 79 -/
def ident_Parse.f (k : Nat) (a0 : ByteArray) : Option (Int × Int × Int) := if a0.toList = ([114, 111, 111, 116] : List UInt8) then (some (0, 0, 0)) else (if a0.toList = ([116, 114, 97, 115, 104] : List UInt8) then (some (0, 1, 0)) else ((strings_Cut.f a0 (⟨#[46]⟩ : ByteArray)).bind fun bt210 => ((ident_whole.f k bt210.1).bind fun bt213 => ((ident_whole.f k bt210.2.1).bind fun bt215 => (if bt210.2.2 = true then (if bt213.2 = true then (if bt215.2 = true then ((ident_Right.f bt213.1 bt215.1).bind fun t218 => (if t218 = true then (some (bt213.1, bt215.1, 0)) else (some (0, 0, 2)))) else (some (0, 0, 2))) else (some (0, 0, 2))) else (some (0, 0, 2)))))))
theorem ident_Parse.mono : ∀ a0 k, LeO (ident_Parse.f k a0) (ident_Parse.f (k + 1) a0) := by
 intro a0 k
 unfold ident_Parse.f
 repeat' first
   | (with_reducible exact ident_whole.mono _ _)
   | (with_reducible exact LeO.refl _)
   | (with_reducible exact LeO.none _)
   | (with_reducible refine LeO.ite ?_ ?_)
   | (with_reducible refine LeO.bind ?_ (fun _ => ?_))
   | exact ident_whole.mono _ _
   | exact LeO.none _
   | refine LeO.ite ?_ ?_
   | refine LeO.bind ?_ (fun _ => ?_)
set_option maxHeartbeats 8000000 in
set_option maxRecDepth 100000 in
theorem ident_Parse.calls (k : Nat) (a0 : ByteArray) (r1 : Int) (r2 : Int) (r3 : Int) (w : World) (htab : TabW_ w) (h : ident_Parse.f k a0 = some (r1, r2, r3)) :
  Calls Tryz.prog 79 #[.string a0] w fun e w' => e = .returned (.tuple #[.agg #[.int .i64 r1, .int .i64 r2], .int .i64 r3]) ∧ Below w.heap.size w w' := by
 have HTAB := Aside0.mk htab
 clear htab
 have hu23 := Tryz.underlying23
 have HB := Aside0.mk (Below.refl w.heap.size w)
 have H : (if a0.toList = ([114, 111, 111, 116] : List UInt8) then (some (0, 0, 0)) else (if a0.toList = ([116, 114, 97, 115, 104] : List UInt8) then (some (0, 1, 0)) else ((strings_Cut.f a0 (⟨#[46]⟩ : ByteArray)).bind fun bt210 => ((ident_whole.f k bt210.1).bind fun bt213 => ((ident_whole.f k bt210.2.1).bind fun bt215 => (if bt210.2.2 = true then (if bt213.2 = true then (if bt215.2 = true then ((ident_Right.f bt213.1 bt215.1).bind fun t218 => (if t218 = true then (some (bt213.1, bt215.1, 0)) else (some (0, 0, 2)))) else (some (0, 0, 2))) else (some (0, 0, 2))) else (some (0, 0, 2)))))))) = some (r1, r2, r3) := h
 clear h
 by_cases c2 : a0.toList = ([114, 111, 111, 116] : List UInt8)
 focus
  rw [if_pos c2] at H
  have c2b0 : (a0.toList == ([114, 111, 111, 116] : List UInt8)) = true := beq_iff_eq.mpr c2
  have c2b1 : (a0.toList != ([114, 111, 111, 116] : List UInt8)) = false := bne_eq_false_iff_eq.mpr c2
  clear c2
  simp only [Option.some.injEq, Prod.mk.injEq] at H
  obtain ⟨rfl, rfl, rfl⟩ := H
  have zqm5_ := True.intro
 rotate_right
 focus
  rw [if_neg c2] at H
  have c2b0 : (a0.toList == ([114, 111, 111, 116] : List UInt8)) = false := beq_eq_false_iff_ne.mpr c2
  have c2b1 : (a0.toList != ([114, 111, 111, 116] : List UInt8)) = true := bne_iff_ne.mpr c2
  by_cases c5 : a0.toList = ([116, 114, 97, 115, 104] : List UInt8)
  focus
   rw [if_pos c5] at H
   have c5b0 : (a0.toList == ([116, 114, 97, 115, 104] : List UInt8)) = true := beq_iff_eq.mpr c5
   have c5b1 : (a0.toList != ([116, 114, 97, 115, 104] : List UInt8)) = false := bne_eq_false_iff_eq.mpr c5
   clear c5
   simp only [Option.some.injEq, Prod.mk.injEq] at H
   obtain ⟨rfl, rfl, rfl⟩ := H
   have zqm5_ := True.intro
  rotate_right
  focus
   rw [if_neg c5] at H
   have c5b0 : (a0.toList == ([116, 114, 97, 115, 104] : List UInt8)) = false := beq_eq_false_iff_ne.mpr c5
   have c5b1 : (a0.toList != ([116, 114, 97, 115, 104] : List UInt8)) = true := bne_iff_ne.mpr c5
   replace H := Option.bind_eq_some_iff.mp H
   obtain ⟨⟨t210, t211, t212⟩, A80, H⟩ := H
   (try dsimp only at H)
   have A8 := Aside0.mk A80
   clear A80
   replace H := Option.bind_eq_some_iff.mp H
   obtain ⟨⟨t213, t214⟩, A90, H⟩ := H
   (try dsimp only at H)
   have A9 := Aside0.mk A90
   clear A90
   replace H := Option.bind_eq_some_iff.mp H
   obtain ⟨⟨t215, t216⟩, A100, H⟩ := H
   (try dsimp only at H)
   have A10 := Aside0.mk A100
   clear A100
   by_cases c11 : t212 = true
   focus
    subst c11
    have H1 : (if t214 = true then (if t216 = true then ((ident_Right.f t213 t215).bind fun t218 => (if t218 = true then (some (t213, t215, 0)) else (some (0, 0, 2)))) else (some (0, 0, 2))) else (some (0, 0, 2))) = some (r1, r2, r3) := by rw [if_pos rfl] at H; exact H
    clear H
    have H := H1
    clear H1
    by_cases c12 : t214 = true
    focus
     subst c12
     have H1 : (if t216 = true then ((ident_Right.f t213 t215).bind fun t218 => (if t218 = true then (some (t213, t215, 0)) else (some (0, 0, 2)))) else (some (0, 0, 2))) = some (r1, r2, r3) := by rw [if_pos rfl] at H; exact H
     clear H
     have H := H1
     clear H1
     by_cases c13 : t216 = true
     focus
      subst c13
      have H1 : ((ident_Right.f t213 t215).bind fun t218 => (if t218 = true then (some (t213, t215, 0)) else (some (0, 0, 2)))) = some (r1, r2, r3) := by rw [if_pos rfl] at H; exact H
      clear H
      have H := H1
      clear H1
      replace H := Option.bind_eq_some_iff.mp H
      obtain ⟨t218, A140, H⟩ := H
      have A14 := Aside0.mk A140
      clear A140
      by_cases c15 : t218 = true
      focus
       subst c15
       have H1 : (some (t213, t215, 0)) = some (r1, r2, r3) := by rw [if_pos rfl] at H; exact H
       clear H
       have H := H1
       clear H1
       simp only [Option.some.injEq, Prod.mk.injEq] at H
       obtain ⟨rfl, rfl, rfl⟩ := H
      rotate_right
      focus
       replace c15 := Bool.eq_false_iff.mpr c15
       subst c15
       have H1 : (some (0, 0, 2)) = some (r1, r2, r3) := by rw [if_neg (show ¬ (false = true) by decide)] at H; exact H
       clear H
       have H := H1
       clear H1
       simp only [Option.some.injEq, Prod.mk.injEq] at H
       obtain ⟨rfl, rfl, rfl⟩ := H
     rotate_right
     focus
      replace c13 := Bool.eq_false_iff.mpr c13
      subst c13
      have H1 : (some (0, 0, 2)) = some (r1, r2, r3) := by rw [if_neg (show ¬ (false = true) by decide)] at H; exact H
      clear H
      have H := H1
      clear H1
      simp only [Option.some.injEq, Prod.mk.injEq] at H
      obtain ⟨rfl, rfl, rfl⟩ := H
    rotate_right
    focus
     replace c12 := Bool.eq_false_iff.mpr c12
     subst c12
     have H1 : (some (0, 0, 2)) = some (r1, r2, r3) := by rw [if_neg (show ¬ (false = true) by decide)] at H; exact H
     clear H
     have H := H1
     clear H1
     simp only [Option.some.injEq, Prod.mk.injEq] at H
     obtain ⟨rfl, rfl, rfl⟩ := H
   rotate_right
   focus
    replace c11 := Bool.eq_false_iff.mpr c11
    subst c11
    have H1 : (some (0, 0, 2)) = some (r1, r2, r3) := by rw [if_neg (show ¬ (false = true) by decide)] at H; exact H
    clear H
    have H := H1
    clear H1
    simp only [Option.some.injEq, Prod.mk.injEq] at H
    obtain ⟨rfl, rfl, rfl⟩ := H
 all_goals (try (clear zqm5_; go_enter Tryz.func79, Tryz.ntmps79; go_wp2_with ((with_reducible refine gate_dst (N := 2) rfl ?_); refine box_event ?hg (N := 2) ?hd (cs := #[.int .i64 0, .int .i64 0]) (t := 23) ?hr ?_; (case hd => rfl); (case hg => rfl); (case hr => first | (go_simp; done) | (go_simp; rfl)); intro gbz1 hg wz1 hbox hb; have BKz1 := Aside0.mk (hbox); have GWz1 := Aside0.mk ((zq7_ : w.heap.size ≤ gbz1)); have GEz1 := Aside0.mk ((zq7_ : w.heap.size ≤ gbz1)); replace HB := Aside0.mk (below_step zq0_ hb); clear hb hbox hg; obtain ⟨hczz2_0, hfzz2_0, hczz2_1, hfzz2_1⟩ := zqC2_ BKz1.out)))
 ·go_enter Tryz.func79, Tryz.ntmps79
  go_wp2_with (first | ((with_reducible refine gate_dst (N := 2) rfl ?_); refine box_event ?hg (N := 2) ?hd (cs := #[.int .i64 0, .int .i64 0]) (t := 23) ?hr ?_; (case hd => rfl); (case hg => rfl); (case hr => first | (go_simp; done) | (go_simp; rfl)); intro gbz1 hg wz1 hbox hb; have BKz1 := Aside0.mk (hbox); have GWz1 := Aside0.mk ((zq7_ : w.heap.size ≤ gbz1)); have GEz1 := Aside0.mk ((zq7_ : w.heap.size ≤ gbz1)); replace HB := Aside0.mk (below_step zq0_ hb); clear hb hbox hg) | ((with_reducible refine gate_callee (f := 80) rfl ?_); refine zqG_ (some 21) rfl Tryz.func80 #[.string a0, .string (⟨#[46]⟩ : ByteArray)] rfl ?_; (with_reducible refine (strings_Cut.calls a0 (⟨#[46]⟩ : ByteArray) t210 t211 false _ (tabW_below_ HTAB.out (zqB1_ GEz1.out)) A8.out).mono ?_); rintro e wz2 ⟨rfl, hb⟩; refine ⟨_, rfl, ?_⟩; replace BKz1 := Aside0.mk (blk_below (zqK_ BKz1.out) hb); replace HB := Aside0.mk (below_step (zqB1_ GEz1.out) hb); (try clear hb); (try clear hb2); (try clear hk); (try clear hi)) | ((with_reducible refine gate_callee (f := 94) rfl ?_); refine zqG_ (some 27) rfl Tryz.func94 #[.string t210] rfl ?_; (with_reducible refine (ident_whole.calls k t210 t213 t214 _ A9.out).mono ?_); rintro e w' ⟨rfl, ⟨nd, rfl⟩⟩; refine ⟨_, rfl, ?_⟩; (try (rw [drewN_self wz2]; generalize hq_ : World.drewN wz2 _ = wz2; have n0_ : Aside0 (wz2.heap[gbz1]? = some (.cells #[.int .i64 0, .int .i64 0] 23 (0, 0))) := ⟨by rw [← hq_]; exact (zqK_ BKz1.out)⟩; have n1_ : Aside0 (Below w.heap.size w wz2) := ⟨by rw [← hq_]; exact (zqB1_ GEz1.out)⟩; clear BKz1 HB hq_; have BKz1 := n0_; have HB := n1_; clear n0_ n1_))) | ((with_reducible refine gate_callee (f := 94) rfl ?_); refine zqG_ (some 32) rfl Tryz.func94 #[.string t211] rfl ?_; (with_reducible refine (ident_whole.calls k t211 t215 t216 _ A10.out).mono ?_); rintro e w' ⟨rfl, ⟨nd, rfl⟩⟩; refine ⟨_, rfl, ?_⟩; (try (rw [drewN_self wz2]; generalize hq_ : World.drewN wz2 _ = wz2; have n0_ : Aside0 (wz2.heap[gbz1]? = some (.cells #[.int .i64 0, .int .i64 0] 23 (0, 0))) := ⟨by rw [← hq_]; exact (zqK_ BKz1.out)⟩; have n1_ : Aside0 (Below w.heap.size w wz2) := ⟨by rw [← hq_]; exact (zqB1_ GEz1.out)⟩; clear BKz1 HB hq_; have BKz1 := n0_; have HB := n1_; clear n0_ n1_))) | ((with_reducible refine gate_dst (N := 11) rfl ?_); refine box_event ?hg (N := 11) ?hd (cs := #[.int .i64 0, .int .i64 0]) (t := 23) ?hr ?_; (case hd => rfl); (case hg => rfl); (case hr => first | (go_simp; done) | (go_simp; rfl)); intro gbz2 hg wz3 hbox hb; have BKz2 := Aside0.mk (hbox); have GWz2 := Aside0.mk ((zq25_ : w.heap.size ≤ gbz2)); have GEz2 := Aside0.mk ((zq25_ : w.heap.size ≤ gbz2)); replace HB := Aside0.mk (below_step (zqB1_ GEz1.out) hb); have NBz1_z2 := Aside0.mk ((zq37_ : gbz1 ≠ gbz2)); have NBz2_z1 := Aside0.mk ((zq38_ : gbz2 ≠ gbz1)); replace BKz1 := Aside0.mk (blk_below (zqK_ BKz1.out) hb); clear hb hbox hg; have hnbz3 := NBz2_z1.out; have hncz3 := NBz1_z2.out; obtain ⟨hczz4_0, hfzz4_0, hczz4_1, hfzz4_1⟩ := zqC2_ BKz2.out; obtain ⟨hczz5_0, hfzz5_0, hczz5_1, hfzz5_1⟩ := zqC2_ BKz1.out))
  refine bodyPost_ret (results_ct rfl _ _ gbz1 23 #[.int .i64 0, .int .i64 0] (0, 0) _ rfl zq14_ Tryz.underlying23 rfl (by kernel_rfl)) rfl ?_
  exact ⟨by first | rfl | (simp [errW_none, errW_some] <;> rfl) | (simp [*, errW_none, errW_some] <;> rfl), by repeat (first | (with_reducible first | exact HB.out | apply below_alloc | apply pw_below_drewN | apply below_drew1 | refine below_set ?_ GEz1.out | refine below_set ?_ GEz2.out) | exact HB.out)⟩
 ·go_enter Tryz.func79, Tryz.ntmps79
  go_wp2_with (first | ((with_reducible refine gate_dst (N := 2) rfl ?_); refine box_event ?hg (N := 2) ?hd (cs := #[.int .i64 0, .int .i64 0]) (t := 23) ?hr ?_; (case hd => rfl); (case hg => rfl); (case hr => first | (go_simp; done) | (go_simp; rfl)); intro gbz1 hg wz1 hbox hb; have BKz1 := Aside0.mk (hbox); have GWz1 := Aside0.mk ((zq7_ : w.heap.size ≤ gbz1)); have GEz1 := Aside0.mk ((zq7_ : w.heap.size ≤ gbz1)); replace HB := Aside0.mk (below_step zq0_ hb); clear hb hbox hg) | ((with_reducible refine gate_callee (f := 80) rfl ?_); refine zqG_ (some 21) rfl Tryz.func80 #[.string a0, .string (⟨#[46]⟩ : ByteArray)] rfl ?_; (with_reducible refine (strings_Cut.calls a0 (⟨#[46]⟩ : ByteArray) t210 t211 true _ (tabW_below_ HTAB.out (zqB1_ GEz1.out)) A8.out).mono ?_); rintro e wz2 ⟨rfl, hb⟩; refine ⟨_, rfl, ?_⟩; replace BKz1 := Aside0.mk (blk_below (zqK_ BKz1.out) hb); replace HB := Aside0.mk (below_step (zqB1_ GEz1.out) hb); (try clear hb); (try clear hb2); (try clear hk); (try clear hi)) | ((with_reducible refine gate_callee (f := 94) rfl ?_); refine zqG_ (some 27) rfl Tryz.func94 #[.string t210] rfl ?_; (with_reducible refine (ident_whole.calls k t210 t213 false _ A9.out).mono ?_); rintro e w' ⟨rfl, ⟨nd, rfl⟩⟩; refine ⟨_, rfl, ?_⟩; (try (rw [drewN_self wz2]; generalize hq_ : World.drewN wz2 _ = wz2; have n0_ : Aside0 (wz2.heap[gbz1]? = some (.cells #[.int .i64 0, .int .i64 0] 23 (0, 0))) := ⟨by rw [← hq_]; exact (zqK_ BKz1.out)⟩; have n1_ : Aside0 (Below w.heap.size w wz2) := ⟨by rw [← hq_]; exact (zqB1_ GEz1.out)⟩; clear BKz1 HB hq_; have BKz1 := n0_; have HB := n1_; clear n0_ n1_))) | ((with_reducible refine gate_callee (f := 94) rfl ?_); refine zqG_ (some 32) rfl Tryz.func94 #[.string t211] rfl ?_; (with_reducible refine (ident_whole.calls k t211 t215 t216 _ A10.out).mono ?_); rintro e w' ⟨rfl, ⟨nd, rfl⟩⟩; refine ⟨_, rfl, ?_⟩; (try (rw [drewN_self wz2]; generalize hq_ : World.drewN wz2 _ = wz2; have n0_ : Aside0 (wz2.heap[gbz1]? = some (.cells #[.int .i64 0, .int .i64 0] 23 (0, 0))) := ⟨by rw [← hq_]; exact (zqK_ BKz1.out)⟩; have n1_ : Aside0 (Below w.heap.size w wz2) := ⟨by rw [← hq_]; exact (zqB1_ GEz1.out)⟩; clear BKz1 HB hq_; have BKz1 := n0_; have HB := n1_; clear n0_ n1_))) | ((with_reducible refine gate_dst (N := 11) rfl ?_); refine box_event ?hg (N := 11) ?hd (cs := #[.int .i64 0, .int .i64 0]) (t := 23) ?hr ?_; (case hd => rfl); (case hg => rfl); (case hr => first | (go_simp; done) | (go_simp; rfl)); intro gbz2 hg wz3 hbox hb; have BKz2 := Aside0.mk (hbox); have GWz2 := Aside0.mk ((zq25_ : w.heap.size ≤ gbz2)); have GEz2 := Aside0.mk ((zq25_ : w.heap.size ≤ gbz2)); replace HB := Aside0.mk (below_step (zqB1_ GEz1.out) hb); have NBz1_z2 := Aside0.mk ((zq37_ : gbz1 ≠ gbz2)); have NBz2_z1 := Aside0.mk ((zq38_ : gbz2 ≠ gbz1)); replace BKz1 := Aside0.mk (blk_below (zqK_ BKz1.out) hb); clear hb hbox hg; have hnbz3 := NBz2_z1.out; have hncz3 := NBz1_z2.out; obtain ⟨hczz4_0, hfzz4_0, hczz4_1, hfzz4_1⟩ := zqC2_ BKz2.out; obtain ⟨hczz5_0, hfzz5_0, hczz5_1, hfzz5_1⟩ := zqC2_ BKz1.out))
  refine bodyPost_ret (results_ct rfl _ _ gbz1 23 #[.int .i64 0, .int .i64 0] (0, 0) _ rfl zq14_ Tryz.underlying23 rfl (by kernel_rfl)) rfl ?_
  exact ⟨by first | rfl | (simp [errW_none, errW_some] <;> rfl) | (simp [*, errW_none, errW_some] <;> rfl), by repeat (first | (with_reducible first | exact HB.out | apply below_alloc | apply pw_below_drewN | apply below_drew1 | refine below_set ?_ GEz1.out | refine below_set ?_ GEz2.out) | exact HB.out)⟩
 ·go_enter Tryz.func79, Tryz.ntmps79
  go_wp2_with (first | ((with_reducible refine gate_dst (N := 2) rfl ?_); refine box_event ?hg (N := 2) ?hd (cs := #[.int .i64 0, .int .i64 0]) (t := 23) ?hr ?_; (case hd => rfl); (case hg => rfl); (case hr => first | (go_simp; done) | (go_simp; rfl)); intro gbz1 hg wz1 hbox hb; have BKz1 := Aside0.mk (hbox); have GWz1 := Aside0.mk ((zq7_ : w.heap.size ≤ gbz1)); have GEz1 := Aside0.mk ((zq7_ : w.heap.size ≤ gbz1)); replace HB := Aside0.mk (below_step zq0_ hb); clear hb hbox hg) | ((with_reducible refine gate_callee (f := 80) rfl ?_); refine zqG_ (some 21) rfl Tryz.func80 #[.string a0, .string (⟨#[46]⟩ : ByteArray)] rfl ?_; (with_reducible refine (strings_Cut.calls a0 (⟨#[46]⟩ : ByteArray) t210 t211 true _ (tabW_below_ HTAB.out (zqB1_ GEz1.out)) A8.out).mono ?_); rintro e wz2 ⟨rfl, hb⟩; refine ⟨_, rfl, ?_⟩; replace BKz1 := Aside0.mk (blk_below (zqK_ BKz1.out) hb); replace HB := Aside0.mk (below_step (zqB1_ GEz1.out) hb); (try clear hb); (try clear hb2); (try clear hk); (try clear hi)) | ((with_reducible refine gate_callee (f := 94) rfl ?_); refine zqG_ (some 27) rfl Tryz.func94 #[.string t210] rfl ?_; (with_reducible refine (ident_whole.calls k t210 t213 true _ A9.out).mono ?_); rintro e w' ⟨rfl, ⟨nd, rfl⟩⟩; refine ⟨_, rfl, ?_⟩; (try (rw [drewN_self wz2]; generalize hq_ : World.drewN wz2 _ = wz2; have n0_ : Aside0 (wz2.heap[gbz1]? = some (.cells #[.int .i64 0, .int .i64 0] 23 (0, 0))) := ⟨by rw [← hq_]; exact (zqK_ BKz1.out)⟩; have n1_ : Aside0 (Below w.heap.size w wz2) := ⟨by rw [← hq_]; exact (zqB1_ GEz1.out)⟩; clear BKz1 HB hq_; have BKz1 := n0_; have HB := n1_; clear n0_ n1_))) | ((with_reducible refine gate_callee (f := 94) rfl ?_); refine zqG_ (some 32) rfl Tryz.func94 #[.string t211] rfl ?_; (with_reducible refine (ident_whole.calls k t211 t215 false _ A10.out).mono ?_); rintro e w' ⟨rfl, ⟨nd, rfl⟩⟩; refine ⟨_, rfl, ?_⟩; (try (rw [drewN_self wz2]; generalize hq_ : World.drewN wz2 _ = wz2; have n0_ : Aside0 (wz2.heap[gbz1]? = some (.cells #[.int .i64 0, .int .i64 0] 23 (0, 0))) := ⟨by rw [← hq_]; exact (zqK_ BKz1.out)⟩; have n1_ : Aside0 (Below w.heap.size w wz2) := ⟨by rw [← hq_]; exact (zqB1_ GEz1.out)⟩; clear BKz1 HB hq_; have BKz1 := n0_; have HB := n1_; clear n0_ n1_))) | ((with_reducible refine gate_dst (N := 11) rfl ?_); refine box_event ?hg (N := 11) ?hd (cs := #[.int .i64 0, .int .i64 0]) (t := 23) ?hr ?_; (case hd => rfl); (case hg => rfl); (case hr => first | (go_simp; done) | (go_simp; rfl)); intro gbz2 hg wz3 hbox hb; have BKz2 := Aside0.mk (hbox); have GWz2 := Aside0.mk ((zq25_ : w.heap.size ≤ gbz2)); have GEz2 := Aside0.mk ((zq25_ : w.heap.size ≤ gbz2)); replace HB := Aside0.mk (below_step (zqB1_ GEz1.out) hb); have NBz1_z2 := Aside0.mk ((zq37_ : gbz1 ≠ gbz2)); have NBz2_z1 := Aside0.mk ((zq38_ : gbz2 ≠ gbz1)); replace BKz1 := Aside0.mk (blk_below (zqK_ BKz1.out) hb); clear hb hbox hg; have hnbz3 := NBz2_z1.out; have hncz3 := NBz1_z2.out; obtain ⟨hczz4_0, hfzz4_0, hczz4_1, hfzz4_1⟩ := zqC2_ BKz2.out; obtain ⟨hczz5_0, hfzz5_0, hczz5_1, hfzz5_1⟩ := zqC2_ BKz1.out))
  refine bodyPost_ret (results_ct rfl _ _ gbz1 23 #[.int .i64 0, .int .i64 0] (0, 0) _ rfl zq14_ Tryz.underlying23 rfl (by kernel_rfl)) rfl ?_
  exact ⟨by first | rfl | (simp [errW_none, errW_some] <;> rfl) | (simp [*, errW_none, errW_some] <;> rfl), by repeat (first | (with_reducible first | exact HB.out | apply below_alloc | apply pw_below_drewN | apply below_drew1 | refine below_set ?_ GEz1.out | refine below_set ?_ GEz2.out) | exact HB.out)⟩
 ·go_enter Tryz.func79, Tryz.ntmps79
  go_wp2_with (first | ((with_reducible refine gate_dst (N := 2) rfl ?_); refine box_event ?hg (N := 2) ?hd (cs := #[.int .i64 0, .int .i64 0]) (t := 23) ?hr ?_; (case hd => rfl); (case hg => rfl); (case hr => first | (go_simp; done) | (go_simp; rfl)); intro gbz1 hg wz1 hbox hb; have BKz1 := Aside0.mk (hbox); have GWz1 := Aside0.mk ((zq7_ : w.heap.size ≤ gbz1)); have GEz1 := Aside0.mk ((zq7_ : w.heap.size ≤ gbz1)); replace HB := Aside0.mk (below_step zq0_ hb); clear hb hbox hg) | ((with_reducible refine gate_callee (f := 80) rfl ?_); refine zqG_ (some 21) rfl Tryz.func80 #[.string a0, .string (⟨#[46]⟩ : ByteArray)] rfl ?_; (with_reducible refine (strings_Cut.calls a0 (⟨#[46]⟩ : ByteArray) t210 t211 true _ (tabW_below_ HTAB.out (zqB1_ GEz1.out)) A8.out).mono ?_); rintro e wz2 ⟨rfl, hb⟩; refine ⟨_, rfl, ?_⟩; replace BKz1 := Aside0.mk (blk_below (zqK_ BKz1.out) hb); replace HB := Aside0.mk (below_step (zqB1_ GEz1.out) hb); (try clear hb); (try clear hb2); (try clear hk); (try clear hi)) | ((with_reducible refine gate_callee (f := 94) rfl ?_); refine zqG_ (some 27) rfl Tryz.func94 #[.string t210] rfl ?_; (with_reducible refine (ident_whole.calls k t210 t213 true _ A9.out).mono ?_); rintro e w' ⟨rfl, ⟨nd, rfl⟩⟩; refine ⟨_, rfl, ?_⟩; (try (rw [drewN_self wz2]; generalize hq_ : World.drewN wz2 _ = wz2; have n0_ : Aside0 (wz2.heap[gbz1]? = some (.cells #[.int .i64 0, .int .i64 0] 23 (0, 0))) := ⟨by rw [← hq_]; exact (zqK_ BKz1.out)⟩; have n1_ : Aside0 (Below w.heap.size w wz2) := ⟨by rw [← hq_]; exact (zqB1_ GEz1.out)⟩; clear BKz1 HB hq_; have BKz1 := n0_; have HB := n1_; clear n0_ n1_))) | ((with_reducible refine gate_callee (f := 94) rfl ?_); refine zqG_ (some 32) rfl Tryz.func94 #[.string t211] rfl ?_; (with_reducible refine (ident_whole.calls k t211 t215 true _ A10.out).mono ?_); rintro e w' ⟨rfl, ⟨nd, rfl⟩⟩; refine ⟨_, rfl, ?_⟩; (try (rw [drewN_self wz2]; generalize hq_ : World.drewN wz2 _ = wz2; have n0_ : Aside0 (wz2.heap[gbz1]? = some (.cells #[.int .i64 0, .int .i64 0] 23 (0, 0))) := ⟨by rw [← hq_]; exact (zqK_ BKz1.out)⟩; have n1_ : Aside0 (Below w.heap.size w wz2) := ⟨by rw [← hq_]; exact (zqB1_ GEz1.out)⟩; clear BKz1 HB hq_; have BKz1 := n0_; have HB := n1_; clear n0_ n1_))) | ((with_reducible refine gate_dst (N := 11) rfl ?_); refine box_event ?hg (N := 11) ?hd (cs := #[.int .i64 0, .int .i64 0]) (t := 23) ?hr ?_; (case hd => rfl); (case hg => rfl); (case hr => first | (go_simp; done) | (go_simp; rfl)); intro gbz2 hg wz3 hbox hb; have BKz2 := Aside0.mk (hbox); have GWz2 := Aside0.mk ((zq25_ : w.heap.size ≤ gbz2)); have GEz2 := Aside0.mk ((zq25_ : w.heap.size ≤ gbz2)); replace HB := Aside0.mk (below_step (zqB1_ GEz1.out) hb); have NBz1_z2 := Aside0.mk ((zq37_ : gbz1 ≠ gbz2)); have NBz2_z1 := Aside0.mk ((zq38_ : gbz2 ≠ gbz1)); replace BKz1 := Aside0.mk (blk_below (zqK_ BKz1.out) hb); clear hb hbox hg; have hnbz3 := NBz2_z1.out; have hncz3 := NBz1_z2.out; obtain ⟨hczz4_0, hfzz4_0, hczz4_1, hfzz4_1⟩ := zqC2_ BKz2.out) | (go_at_call 25; (with_reducible refine (ident_Right.calls t213 t215 false _ A14.out).mono ?_); rintro e wz4 ⟨rfl, hb⟩; replace BKz1 := Aside0.mk (blk_below (g := gbz1) (o := .cells #[.int .i64 0, .int .i64 0] 23 (0, 0)) zq47_ hb); replace BKz2 := Aside0.mk (blk_below (g := gbz2) (o := .cells #[.int .i64 t213, .int .i64 t215] 23 (0, 0)) zq41_ hb); replace HB := Aside0.mk (below_step (zqB2_ GEz1.out GEz2.out) hb); (try clear hb); (try clear hb2); (try clear hk); (try clear hi); obtain ⟨hczz5_0, hfzz5_0, hczz5_1, hfzz5_1⟩ := zqC2_ BKz1.out))
  refine bodyPost_ret (results_ct rfl _ _ gbz1 23 #[.int .i64 0, .int .i64 0] (0, 0) _ rfl zq24_ Tryz.underlying23 rfl (by kernel_rfl)) rfl ?_
  exact ⟨by first | rfl | (simp [errW_none, errW_some] <;> rfl) | (simp [*, errW_none, errW_some] <;> rfl), by repeat (first | (with_reducible first | exact HB.out | apply below_alloc | apply pw_below_drewN | apply below_drew1 | refine below_set ?_ GEz1.out | refine below_set ?_ GEz2.out) | exact HB.out)⟩
 ·go_enter Tryz.func79, Tryz.ntmps79
  go_wp2_with (first | ((with_reducible refine gate_dst (N := 2) rfl ?_); refine box_event ?hg (N := 2) ?hd (cs := #[.int .i64 0, .int .i64 0]) (t := 23) ?hr ?_; (case hd => rfl); (case hg => rfl); (case hr => first | (go_simp; done) | (go_simp; rfl)); intro gbz1 hg wz1 hbox hb; have BKz1 := Aside0.mk (hbox); have GWz1 := Aside0.mk ((zq7_ : w.heap.size ≤ gbz1)); have GEz1 := Aside0.mk ((zq7_ : w.heap.size ≤ gbz1)); replace HB := Aside0.mk (below_step zq0_ hb); clear hb hbox hg) | ((with_reducible refine gate_callee (f := 80) rfl ?_); refine zqG_ (some 21) rfl Tryz.func80 #[.string a0, .string (⟨#[46]⟩ : ByteArray)] rfl ?_; (with_reducible refine (strings_Cut.calls a0 (⟨#[46]⟩ : ByteArray) t210 t211 true _ (tabW_below_ HTAB.out (zqB1_ GEz1.out)) A8.out).mono ?_); rintro e wz2 ⟨rfl, hb⟩; refine ⟨_, rfl, ?_⟩; replace BKz1 := Aside0.mk (blk_below (zqK_ BKz1.out) hb); replace HB := Aside0.mk (below_step (zqB1_ GEz1.out) hb); (try clear hb); (try clear hb2); (try clear hk); (try clear hi)) | ((with_reducible refine gate_callee (f := 94) rfl ?_); refine zqG_ (some 27) rfl Tryz.func94 #[.string t210] rfl ?_; (with_reducible refine (ident_whole.calls k t210 t213 true _ A9.out).mono ?_); rintro e w' ⟨rfl, ⟨nd, rfl⟩⟩; refine ⟨_, rfl, ?_⟩; (try (rw [drewN_self wz2]; generalize hq_ : World.drewN wz2 _ = wz2; have n0_ : Aside0 (wz2.heap[gbz1]? = some (.cells #[.int .i64 0, .int .i64 0] 23 (0, 0))) := ⟨by rw [← hq_]; exact (zqK_ BKz1.out)⟩; have n1_ : Aside0 (Below w.heap.size w wz2) := ⟨by rw [← hq_]; exact (zqB1_ GEz1.out)⟩; clear BKz1 HB hq_; have BKz1 := n0_; have HB := n1_; clear n0_ n1_))) | ((with_reducible refine gate_callee (f := 94) rfl ?_); refine zqG_ (some 32) rfl Tryz.func94 #[.string t211] rfl ?_; (with_reducible refine (ident_whole.calls k t211 t215 true _ A10.out).mono ?_); rintro e w' ⟨rfl, ⟨nd, rfl⟩⟩; refine ⟨_, rfl, ?_⟩; (try (rw [drewN_self wz2]; generalize hq_ : World.drewN wz2 _ = wz2; have n0_ : Aside0 (wz2.heap[gbz1]? = some (.cells #[.int .i64 0, .int .i64 0] 23 (0, 0))) := ⟨by rw [← hq_]; exact (zqK_ BKz1.out)⟩; have n1_ : Aside0 (Below w.heap.size w wz2) := ⟨by rw [← hq_]; exact (zqB1_ GEz1.out)⟩; clear BKz1 HB hq_; have BKz1 := n0_; have HB := n1_; clear n0_ n1_))) | ((with_reducible refine gate_dst (N := 11) rfl ?_); refine box_event ?hg (N := 11) ?hd (cs := #[.int .i64 0, .int .i64 0]) (t := 23) ?hr ?_; (case hd => rfl); (case hg => rfl); (case hr => first | (go_simp; done) | (go_simp; rfl)); intro gbz2 hg wz3 hbox hb; have BKz2 := Aside0.mk (hbox); have GWz2 := Aside0.mk ((zq25_ : w.heap.size ≤ gbz2)); have GEz2 := Aside0.mk ((zq25_ : w.heap.size ≤ gbz2)); replace HB := Aside0.mk (below_step (zqB1_ GEz1.out) hb); have NBz1_z2 := Aside0.mk ((zq37_ : gbz1 ≠ gbz2)); have NBz2_z1 := Aside0.mk ((zq38_ : gbz2 ≠ gbz1)); replace BKz1 := Aside0.mk (blk_below (zqK_ BKz1.out) hb); clear hb hbox hg; have hnbz3 := NBz2_z1.out; have hncz3 := NBz1_z2.out; obtain ⟨hczz4_0, hfzz4_0, hczz4_1, hfzz4_1⟩ := zqC2_ BKz2.out) | (go_at_call 25; (with_reducible refine (ident_Right.calls t213 t215 true _ A14.out).mono ?_); rintro e wz4 ⟨rfl, hb⟩; replace BKz1 := Aside0.mk (blk_below (g := gbz1) (o := .cells #[.int .i64 0, .int .i64 0] 23 (0, 0)) zq47_ hb); replace BKz2 := Aside0.mk (blk_below (g := gbz2) (o := .cells #[.int .i64 t213, .int .i64 t215] 23 (0, 0)) zq41_ hb); replace HB := Aside0.mk (below_step (zqB2_ GEz1.out GEz2.out) hb); (try clear hb); (try clear hb2); (try clear hk); (try clear hi); obtain ⟨hczz5_0, hfzz5_0, hczz5_1, hfzz5_1⟩ := zqC2_ BKz2.out; obtain ⟨hczz6_0, hfzz6_0, hczz6_1, hfzz6_1⟩ := zqC2_ BKz1.out))
  refine bodyPost_ret (results_ct rfl _ _ gbz1 23 #[.int .i64 t213, .int .i64 t215] (0, 0) _ rfl (by (with_reducible repeat (first | refine blk_drewN ?_ _ | refine blk_drew ?_ | refine blk_alloc ?_ _)); refine blk_put (cs := #[.int .i64 t213, .int .i64 0]) ?_ 1 _ rfl; (with_reducible repeat (first | refine blk_drewN ?_ _ | refine blk_drew ?_ | refine blk_alloc ?_ _)); refine blk_put (cs := #[.int .i64 0, .int .i64 0]) ?_ 0 _ rfl; (with_reducible repeat (first | refine blk_drewN ?_ _ | refine blk_drew ?_ | refine blk_alloc ?_ _)); exact BKz1.out) Tryz.underlying23 rfl (by kernel_rfl)) rfl ?_
  exact ⟨by first | rfl | (simp [errW_none, errW_some] <;> rfl) | (simp [*, errW_none, errW_some] <;> rfl), by repeat (first | (with_reducible first | exact HB.out | apply below_alloc | apply pw_below_drewN | apply below_drew1 | refine below_set ?_ GEz1.out | refine below_set ?_ GEz2.out) | exact HB.out)⟩
 ·refine bodyPost_ret (results_ct rfl _ _ gbz1 23 #[.int .i64 0, .int .i64 1] (0, 0) _ rfl zq24_ Tryz.underlying23 rfl (by kernel_rfl)) rfl ?_
  exact ⟨by first | rfl | (simp [errW_none, errW_some] <;> rfl) | (simp [*, errW_none, errW_some] <;> rfl), by repeat (first | (with_reducible first | exact HB.out | apply below_alloc | apply pw_below_drewN | apply below_drew1 | refine below_set ?_ GEz1.out) | exact HB.out)⟩
 ·refine bodyPost_ret (results_ct rfl _ _ gbz1 23 #[.int .i64 0, .int .i64 0] (0, 0) _ rfl zq24_ Tryz.underlying23 rfl (by kernel_rfl)) rfl ?_
  exact ⟨by first | rfl | (simp [errW_none, errW_some] <;> rfl) | (simp [*, errW_none, errW_some] <;> rfl), by repeat (first | (with_reducible first | exact HB.out | apply below_alloc | apply pw_below_drewN | apply below_drew1 | refine below_set ?_ GEz1.out) | exact HB.out)⟩

/-! ### change_reader_stamp: function 47 -/
def change_reader_stamp.f (k : Nat) (s0_0 : ByteArray) (s0_1 : Bool) (a1 : Bool) : Option (Int × Int × ByteArray × Bool) := (change_reader_next.f s0_0 s0_1).bind fun bt220 => (if a1 = true then (if bt220.1.toList = ([45] : List UInt8) then (some (0, 0, bt220.2.1, bt220.2.2)) else ((ident_Parse.f k bt220.1).bind fun bt223 => (if bt220.2.2 = true then (some (bt223.1, bt223.2.1, bt220.2.1, true)) else (some (bt223.1, bt223.2.1, bt220.2.1, (bt223.2.2 != 0)))))) else ((ident_Parse.f k bt220.1).bind fun bt227 => (if bt220.2.2 = true then (some (bt227.1, bt227.2.1, bt220.2.1, true)) else (some (bt227.1, bt227.2.1, bt220.2.1, (bt227.2.2 != 0))))))
theorem change_reader_stamp.mono : ∀ a0 a1 a2 k, LeO (change_reader_stamp.f k a0 a1 a2) (change_reader_stamp.f (k + 1) a0 a1 a2) := by
 intro a0 a1 a2 k
 unfold change_reader_stamp.f
 repeat' first
   | (with_reducible exact ident_Parse.mono _ _)
   | (with_reducible exact LeO.refl _)
   | (with_reducible exact LeO.none _)
   | (with_reducible refine LeO.ite ?_ ?_)
   | (with_reducible refine LeO.bind ?_ (fun _ => ?_))
   | exact ident_Parse.mono _ _
   | exact LeO.none _
   | refine LeO.ite ?_ ?_
   | refine LeO.bind ?_ (fun _ => ?_)
set_option maxHeartbeats 8000000 in
set_option maxRecDepth 100000 in
theorem change_reader_stamp.calls (k : Nat) (g : Nat) (s0_0 : ByteArray) (s0_1 : Bool) (a1 : Bool) (r1 : Int) (r2 : Int) (r3 : ByteArray) (r4 : Bool) (w0 w : World) (hI : IsS56 w0 w g s0_0 s0_1) (hB : Below w0.heap.size w0 w) (htab : TabW_ w0) (h : change_reader_stamp.f k s0_0 s0_1 a1 = some (r1, r2, r3, r4)) :
  Calls Tryz.prog 47 #[.pointer (some ⟨g, 0, none⟩), .bool a1] w fun e w' => e = .returned (.agg #[.int .i64 r1, .int .i64 r2]) ∧ IsS56 w0 w' g r3 r4 ∧ Below w0.heap.size w0 w' ∧ KeepBut w w' g none := by
 have HTAB := Aside0.mk htab
 clear htab
 have hu23 := Tryz.underlying23
 have HI0 := Aside0.mk hI
 have HK := Aside0.mk (KeepBut.refl w g none)
 have HL := Aside0.mk hB.size
 clear hI
 have HW0 := Aside0.mk hB.size
 have HB := Aside0.mk hB
 clear hB
 have H : ((change_reader_next.f s0_0 s0_1).bind fun bt220 => (if a1 = true then (if bt220.1.toList = ([45] : List UInt8) then (some (0, 0, bt220.2.1, bt220.2.2)) else ((ident_Parse.f k bt220.1).bind fun bt223 => (if bt220.2.2 = true then (some (bt223.1, bt223.2.1, bt220.2.1, true)) else (some (bt223.1, bt223.2.1, bt220.2.1, (bt223.2.2 != 0)))))) else ((ident_Parse.f k bt220.1).bind fun bt227 => (if bt220.2.2 = true then (some (bt227.1, bt227.2.1, bt220.2.1, true)) else (some (bt227.1, bt227.2.1, bt220.2.1, (bt227.2.2 != 0))))))) = some (r1, r2, r3, r4) := h
 clear h
 replace H := Option.bind_eq_some_iff.mp H
 obtain ⟨⟨t220, t221, t222⟩, A30, H⟩ := H
 (try dsimp only at H)
 have A3 := Aside0.mk A30
 clear A30
 by_cases c4 : a1 = true
 ·subst c4
  have H1 : (if t220.toList = ([45] : List UInt8) then (some (0, 0, t221, t222)) else ((ident_Parse.f k t220).bind fun bt223 => (if t222 = true then (some (bt223.1, bt223.2.1, t221, true)) else (some (bt223.1, bt223.2.1, t221, (bt223.2.2 != 0)))))) = some (r1, r2, r3, r4) := by rw [if_pos rfl] at H; exact H
  clear H
  have H := H1
  clear H1
  by_cases c5 : t220.toList = ([45] : List UInt8)
  ·rw [if_pos c5] at H
   have c5b0 : (t220.toList == ([45] : List UInt8)) = true := beq_iff_eq.mpr c5
   have c5b1 : (t220.toList != ([45] : List UInt8)) = false := bne_eq_false_iff_eq.mpr c5
   clear c5
   simp only [Option.some.injEq, Prod.mk.injEq] at H
   obtain ⟨rfl, rfl, rfl, rfl⟩ := H
   go_enter Tryz.func47, Tryz.ntmps47
   go_wp2_with (first | ((with_reducible refine gate_dst (N := 4) rfl ?_); refine box_event ?hg (N := 4) ?hd (cs := #[.int .i64 0, .int .i64 0]) (t := 23) ?hr ?_; (case hd => rfl); (case hg => rfl); (case hr => first | (go_simp; done) | (go_simp; rfl)); intro gb219 hg w6 hbox hb; replace HB := Aside0.mk (below_step (zqB1_ (IsS56.ge HI0.out)) hb); have BK219 := Aside0.mk (hbox); have GW219 := Aside0.mk ((zq34_ : w.heap.size ≤ gb219)); have GE219 := Aside0.mk ((Nat.le_trans HW0.out (zq34_ : w.heap.size ≤ gb219) : w0.heap.size ≤ gb219)); replace HK := Aside0.mk (KeepBut.trans zq9_ (KeepBut.of_below hb g none) (.inl rfl)); have NB0_219 := Aside0.mk ((zq16_ : g ≠ gb219)); have NB219_0 := Aside0.mk ((zq17_ : gb219 ≠ g)); replace HI0 := Aside0.mk (IsS56.below zq20_ hb); clear hb hbox hg) | ((with_reducible refine gate_callee (f := 48) rfl ?_); refine zqG_ (some 9) rfl Tryz.func48 #[.pointer (some ⟨g, 0, none⟩)] rfl ?_; (with_reducible refine (change_reader_next.calls g s0_0 s0_1 t220 t221 t222 w0 _ ?side1 ?side2 HTAB.out A3.out).mono ?_); (case side1 => repeat (first | (with_reducible first | exact HI0.out | apply IsS56.alloc | apply IsS56.drewN | apply IsS56.drew | apply IsS56.set_0 | apply IsS56.set_1 | apply IsS56.far (hne := NB0_219.out)) | exact HI0.out)); (case side2 => repeat (first | (with_reducible first | exact HB.out | apply below_alloc | apply pw_below_drewN | apply below_drew1 | refine below_set ?_ (IsS56.ge HI0.out) | refine below_set ?_ GE219.out) | exact HB.out)); rintro e w7 ⟨rfl, hi, hb, hk⟩; refine ⟨_, rfl, ?_⟩; replace BK219 := Aside0.mk (KeepBut.blk hk (g' := gb219) (o := .cells #[.int .i64 0, .int .i64 0] 23 (0, 0)) (zqK_ BK219.out) NB219_0.out (by simp)); replace HK := Aside0.mk (KeepBut.trans zq6_ hk (.inl rfl)); replace HB := Aside0.mk (hb); replace HI0 := Aside0.mk (hi); (try clear hb); (try clear hb2); (try clear hk); (try clear hi); have hnb8 := NB219_0.out; have hnc8 := NB0_219.out; obtain ⟨hcz9_0, hfz9_0, hcz9_1, hfz9_1⟩ := zqC2_ BK219.out))
   refine bodyPost_ret (results_cell_row rfl _ _ gb219 23 #[.int .i64 0, .int .i64 0] (0, 0) _ rfl (by (with_reducible repeat (first | refine blk_drewN ?_ _ | refine blk_drew ?_ | refine blk_alloc ?_ _)); refine blk_put (cs := #[.int .i64 0, .int .i64 0]) ?_ 1 _ rfl; (with_reducible repeat (first | refine blk_drewN ?_ _ | refine blk_drew ?_ | refine blk_alloc ?_ _)); refine blk_put (cs := #[.int .i64 0, .int .i64 0]) ?_ 0 _ rfl; (with_reducible repeat (first | refine blk_drewN ?_ _ | refine blk_drew ?_ | refine blk_alloc ?_ _)); exact BK219.out) Tryz.underlying23 rfl (by kernel_rfl)) rfl ?_
   exact ⟨by first | rfl | (simp [errW_none, errW_some] <;> rfl) | (simp [*, errW_none, errW_some] <;> rfl), by repeat (first | (with_reducible first | exact HI0.out | apply IsS56.alloc | apply IsS56.drewN | apply IsS56.drew | apply IsS56.set_0 | apply IsS56.set_1 | apply IsS56.far (hne := NB0_219.out)) | exact HI0.out), by repeat (first | (with_reducible first | exact HB.out | apply below_alloc | apply pw_below_drewN | apply below_drew1 | refine below_set ?_ (IsS56.ge HI0.out) | refine below_set ?_ GE219.out) | exact HB.out), by repeat (first | (with_reducible first | exact HK.out | apply KeepBut.set_ | apply keep_drewN | apply keep_drew | apply keep_alloc | refine keep_far ?_ GW219.out _) | exact HK.out)⟩
  ·rw [if_neg c5] at H
   have c5b0 : (t220.toList == ([45] : List UInt8)) = false := beq_eq_false_iff_ne.mpr c5
   have c5b1 : (t220.toList != ([45] : List UInt8)) = true := bne_iff_ne.mpr c5
   replace H := Option.bind_eq_some_iff.mp H
   obtain ⟨⟨t223, t224, t225⟩, A100, H⟩ := H
   replace H : (if t222 = true then (some (t223, t224, t221, true)) else (some (t223, t224, t221, (t225 != 0)))) = some (r1, r2, r3, r4) := H
   have A10 := Aside0.mk A100
   clear A100
   by_cases c11 : t222 = true
   ·subst c11
    have H1 : (some (t223, t224, t221, true)) = some (r1, r2, r3, r4) := by rw [if_pos rfl] at H; exact H
    clear H
    have H := H1
    clear H1
    simp only [Option.some.injEq, Prod.mk.injEq] at H
    obtain ⟨rfl, rfl, rfl, rfl⟩ := H
    go_enter Tryz.func47, Tryz.ntmps47
    go_wp2_with (first | ((with_reducible refine gate_dst (N := 4) rfl ?_); refine box_event ?hg (N := 4) ?hd (cs := #[.int .i64 0, .int .i64 0]) (t := 23) ?hr ?_; (case hd => rfl); (case hg => rfl); (case hr => first | (go_simp; done) | (go_simp; rfl)); intro gb219 hg w12 hbox hb; replace HB := Aside0.mk (below_step (zqB1_ (IsS56.ge HI0.out)) hb); have BK219 := Aside0.mk (hbox); have GW219 := Aside0.mk ((zq34_ : w.heap.size ≤ gb219)); have GE219 := Aside0.mk ((Nat.le_trans HW0.out (zq34_ : w.heap.size ≤ gb219) : w0.heap.size ≤ gb219)); replace HK := Aside0.mk (KeepBut.trans zq9_ (KeepBut.of_below hb g none) (.inl rfl)); have NB0_219 := Aside0.mk ((zq16_ : g ≠ gb219)); have NB219_0 := Aside0.mk ((zq17_ : gb219 ≠ g)); replace HI0 := Aside0.mk (IsS56.below zq20_ hb); clear hb hbox hg) | ((with_reducible refine gate_callee (f := 48) rfl ?_); refine zqG_ (some 9) rfl Tryz.func48 #[.pointer (some ⟨g, 0, none⟩)] rfl ?_; (with_reducible refine (change_reader_next.calls g s0_0 s0_1 t220 t221 true w0 _ ?side1 ?side2 HTAB.out A3.out).mono ?_); (case side1 => repeat (first | (with_reducible first | exact HI0.out | apply IsS56.alloc | apply IsS56.drewN | apply IsS56.drew | apply IsS56.set_0 | apply IsS56.set_1 | apply IsS56.far (hne := NB0_219.out)) | exact HI0.out)); (case side2 => repeat (first | (with_reducible first | exact HB.out | apply below_alloc | apply pw_below_drewN | apply below_drew1 | refine below_set ?_ (IsS56.ge HI0.out) | refine below_set ?_ GE219.out) | exact HB.out)); rintro e w13 ⟨rfl, hi, hb, hk⟩; refine ⟨_, rfl, ?_⟩; replace BK219 := Aside0.mk (KeepBut.blk hk (g' := gb219) (o := .cells #[.int .i64 0, .int .i64 0] 23 (0, 0)) (zqK_ BK219.out) NB219_0.out (by simp)); replace HK := Aside0.mk (KeepBut.trans zq6_ hk (.inl rfl)); replace HB := Aside0.mk (hb); replace HI0 := Aside0.mk (hi); (try clear hb); (try clear hb2); (try clear hk); (try clear hi)) | ((with_reducible refine gate_callee (f := 79) rfl ?_); refine zqG_ (some 18) rfl Tryz.func79 #[.string t220] rfl ?_; (with_reducible refine (ident_Parse.calls k t220 t223 t224 t225 _ (tabW_below_ HTAB.out (zqB2_ (IsS56.ge HI0.out) GE219.out)) A10.out).mono ?_); rintro e w14 ⟨rfl, hb⟩; refine ⟨_, rfl, ?_⟩; replace BK219 := Aside0.mk (blk_below (zqK_ BK219.out) hb); replace HK := Aside0.mk (KeepBut.trans zq6_ (KeepBut.of_below hb g none) (.inl rfl)); replace HB := Aside0.mk (below_step (zqB2_ (IsS56.ge HI0.out) GE219.out) hb); replace HI0 := Aside0.mk (IsS56.below zq13_ hb); (try clear hb); (try clear hb2); (try clear hk); (try clear hi)) | ((with_reducible refine gate_dst (N := 6) rfl ?_); refine box_event ?hg (N := 6) ?hd (cs := #[.int .i64 0, .int .i64 0]) (t := 23) ?hr ?_; (case hd => rfl); (case hg => rfl); (case hr => first | (go_simp; done) | (go_simp; rfl)); intro gb226 hg w15 hbox hb; replace HB := Aside0.mk (below_step (zqB2_ (IsS56.ge HI0.out) GE219.out) hb); have BK226 := Aside0.mk (hbox); have GW226 := Aside0.mk ((zq42_ : w.heap.size ≤ gb226)); have GE226 := Aside0.mk ((Nat.le_trans HW0.out (zq42_ : w.heap.size ≤ gb226) : w0.heap.size ≤ gb226)); replace HK := Aside0.mk (KeepBut.trans zq6_ (KeepBut.of_below hb g none) (.inl rfl)); have NB219_226 := Aside0.mk (((by rw [hg]; exact Nat.ne_of_lt (blk_lt (zqK_ BK219.out))) : gb219 ≠ gb226)); have NB226_219 := Aside0.mk (((by rw [hg]; exact Nat.ne_of_gt (blk_lt (zqK_ BK219.out))) : gb226 ≠ gb219)); replace BK219 := Aside0.mk (blk_below (zqK_ BK219.out) hb); have NB0_226 := Aside0.mk (((by rw [hg]; exact Nat.ne_of_lt (IsS56.lt (show IsS56 w0 _ g t221 true from by repeat (first | (with_reducible first | exact HI0.out | apply IsS56.alloc | apply IsS56.drewN | apply IsS56.drew | apply IsS56.set_0 | apply IsS56.set_1 | apply IsS56.far (hne := NB0_219.out)) | exact HI0.out)))) : g ≠ gb226)); have NB226_0 := Aside0.mk (((by rw [hg]; exact Nat.ne_of_gt (IsS56.lt (show IsS56 w0 _ g t221 true from by repeat (first | (with_reducible first | exact HI0.out | apply IsS56.alloc | apply IsS56.drewN | apply IsS56.drew | apply IsS56.set_0 | apply IsS56.set_1 | apply IsS56.far (hne := NB0_219.out)) | exact HI0.out)))) : gb226 ≠ g)); replace HI0 := Aside0.mk (IsS56.below zq13_ hb); clear hb hbox hg; have hnb16 := NB226_219.out; have hnc16 := NB219_226.out; have hnb17 := NB226_0.out; have hnc17 := NB0_226.out; obtain ⟨hcz18_0, hfz18_0, hcz18_1, hfz18_1⟩ := zqC2_ BK226.out; obtain ⟨HGz19, hgz19⟩ := HI0.out; have hcz19_0 := cellS56_0 HGz19; have hcz19_1 := cellS56_1 HGz19; have hfz19_0 := blk_frozen HGz19 0; have hfz19_1 := blk_frozen HGz19 1; clear HGz19 hgz19; have hnb20 := NB219_0.out; have hnc20 := NB0_219.out; obtain ⟨hcz21_0, hfz21_0, hcz21_1, hfz21_1⟩ := zqC2_ BK219.out))
    refine bodyPost_ret (results_cell_row rfl _ _ gb219 23 #[.int .i64 t223, .int .i64 t224] (0, 0) _ rfl zq27_ Tryz.underlying23 rfl (by kernel_rfl)) rfl ?_
    exact ⟨by first | rfl | (simp [errW_none, errW_some] <;> rfl) | (simp [*, errW_none, errW_some] <;> rfl), by repeat (first | (with_reducible first | exact HI0.out | apply IsS56.alloc | apply IsS56.drewN | apply IsS56.drew | apply IsS56.set_0 | apply IsS56.set_1 | apply IsS56.far (hne := NB0_219.out) | apply IsS56.far (hne := NB0_226.out)) | exact HI0.out), by repeat (first | (with_reducible first | exact HB.out | apply below_alloc | apply pw_below_drewN | apply below_drew1 | refine below_set ?_ (IsS56.ge HI0.out) | refine below_set ?_ GE219.out | refine below_set ?_ GE226.out) | exact HB.out), by repeat (first | (with_reducible first | exact HK.out | apply KeepBut.set_ | apply keep_drewN | apply keep_drew | apply keep_alloc | refine keep_far ?_ GW219.out _ | refine keep_far ?_ GW226.out _) | exact HK.out)⟩
   ·replace c11 := Bool.eq_false_iff.mpr c11
    subst c11
    have H1 : (some (t223, t224, t221, (t225 != 0))) = some (r1, r2, r3, r4) := by rw [if_neg (show ¬ (false = true) by decide)] at H; exact H
    clear H
    have H := H1
    clear H1
    simp only [Option.some.injEq, Prod.mk.injEq] at H
    obtain ⟨rfl, rfl, rfl, rfl⟩ := H
    go_enter Tryz.func47, Tryz.ntmps47
    go_wp2_with (first | ((with_reducible refine gate_dst (N := 4) rfl ?_); refine box_event ?hg (N := 4) ?hd (cs := #[.int .i64 0, .int .i64 0]) (t := 23) ?hr ?_; (case hd => rfl); (case hg => rfl); (case hr => first | (go_simp; done) | (go_simp; rfl)); intro gb219 hg w22 hbox hb; replace HB := Aside0.mk (below_step (zqB1_ (IsS56.ge HI0.out)) hb); have BK219 := Aside0.mk (hbox); have GW219 := Aside0.mk ((zq34_ : w.heap.size ≤ gb219)); have GE219 := Aside0.mk ((Nat.le_trans HW0.out (zq34_ : w.heap.size ≤ gb219) : w0.heap.size ≤ gb219)); replace HK := Aside0.mk (KeepBut.trans zq9_ (KeepBut.of_below hb g none) (.inl rfl)); have NB0_219 := Aside0.mk ((zq16_ : g ≠ gb219)); have NB219_0 := Aside0.mk ((zq17_ : gb219 ≠ g)); replace HI0 := Aside0.mk (IsS56.below zq20_ hb); clear hb hbox hg) | ((with_reducible refine gate_callee (f := 48) rfl ?_); refine zqG_ (some 9) rfl Tryz.func48 #[.pointer (some ⟨g, 0, none⟩)] rfl ?_; (with_reducible refine (change_reader_next.calls g s0_0 s0_1 t220 t221 false w0 _ ?side1 ?side2 HTAB.out A3.out).mono ?_); (case side1 => repeat (first | (with_reducible first | exact HI0.out | apply IsS56.alloc | apply IsS56.drewN | apply IsS56.drew | apply IsS56.set_0 | apply IsS56.set_1 | apply IsS56.far (hne := NB0_219.out)) | exact HI0.out)); (case side2 => repeat (first | (with_reducible first | exact HB.out | apply below_alloc | apply pw_below_drewN | apply below_drew1 | refine below_set ?_ (IsS56.ge HI0.out) | refine below_set ?_ GE219.out) | exact HB.out)); rintro e w23 ⟨rfl, hi, hb, hk⟩; refine ⟨_, rfl, ?_⟩; replace BK219 := Aside0.mk (KeepBut.blk hk (g' := gb219) (o := .cells #[.int .i64 0, .int .i64 0] 23 (0, 0)) (zqK_ BK219.out) NB219_0.out (by simp)); replace HK := Aside0.mk (KeepBut.trans zq6_ hk (.inl rfl)); replace HB := Aside0.mk (hb); replace HI0 := Aside0.mk (hi); (try clear hb); (try clear hb2); (try clear hk); (try clear hi)) | ((with_reducible refine gate_callee (f := 79) rfl ?_); refine zqG_ (some 18) rfl Tryz.func79 #[.string t220] rfl ?_; (with_reducible refine (ident_Parse.calls k t220 t223 t224 t225 _ (tabW_below_ HTAB.out (zqB2_ (IsS56.ge HI0.out) GE219.out)) A10.out).mono ?_); rintro e w24 ⟨rfl, hb⟩; refine ⟨_, rfl, ?_⟩; replace BK219 := Aside0.mk (blk_below (zqK_ BK219.out) hb); replace HK := Aside0.mk (KeepBut.trans zq6_ (KeepBut.of_below hb g none) (.inl rfl)); replace HB := Aside0.mk (below_step (zqB2_ (IsS56.ge HI0.out) GE219.out) hb); replace HI0 := Aside0.mk (IsS56.below zq13_ hb); (try clear hb); (try clear hb2); (try clear hk); (try clear hi)) | ((with_reducible refine gate_dst (N := 6) rfl ?_); refine box_event ?hg (N := 6) ?hd (cs := #[.int .i64 0, .int .i64 0]) (t := 23) ?hr ?_; (case hd => rfl); (case hg => rfl); (case hr => first | (go_simp; done) | (go_simp; rfl)); intro gb226 hg w25 hbox hb; replace HB := Aside0.mk (below_step (zqB2_ (IsS56.ge HI0.out) GE219.out) hb); have BK226 := Aside0.mk (hbox); have GW226 := Aside0.mk ((zq42_ : w.heap.size ≤ gb226)); have GE226 := Aside0.mk ((Nat.le_trans HW0.out (zq42_ : w.heap.size ≤ gb226) : w0.heap.size ≤ gb226)); replace HK := Aside0.mk (KeepBut.trans zq6_ (KeepBut.of_below hb g none) (.inl rfl)); have NB219_226 := Aside0.mk (((by rw [hg]; exact Nat.ne_of_lt (blk_lt (zqK_ BK219.out))) : gb219 ≠ gb226)); have NB226_219 := Aside0.mk (((by rw [hg]; exact Nat.ne_of_gt (blk_lt (zqK_ BK219.out))) : gb226 ≠ gb219)); replace BK219 := Aside0.mk (blk_below (zqK_ BK219.out) hb); have NB0_226 := Aside0.mk (((by rw [hg]; exact Nat.ne_of_lt (IsS56.lt (show IsS56 w0 _ g t221 false from by repeat (first | (with_reducible first | exact HI0.out | apply IsS56.alloc | apply IsS56.drewN | apply IsS56.drew | apply IsS56.set_0 | apply IsS56.set_1 | apply IsS56.far (hne := NB0_219.out)) | exact HI0.out)))) : g ≠ gb226)); have NB226_0 := Aside0.mk (((by rw [hg]; exact Nat.ne_of_gt (IsS56.lt (show IsS56 w0 _ g t221 false from by repeat (first | (with_reducible first | exact HI0.out | apply IsS56.alloc | apply IsS56.drewN | apply IsS56.drew | apply IsS56.set_0 | apply IsS56.set_1 | apply IsS56.far (hne := NB0_219.out)) | exact HI0.out)))) : gb226 ≠ g)); replace HI0 := Aside0.mk (IsS56.below zq13_ hb); clear hb hbox hg; have hnb26 := NB226_219.out; have hnc26 := NB219_226.out; have hnb27 := NB226_0.out; have hnc27 := NB0_226.out; obtain ⟨hcz28_0, hfz28_0, hcz28_1, hfz28_1⟩ := zqC2_ BK226.out; obtain ⟨HGz29, hgz29⟩ := HI0.out; have hcz29_0 := cellS56_0 HGz29; have hcz29_1 := cellS56_1 HGz29; have hfz29_0 := blk_frozen HGz29 0; have hfz29_1 := blk_frozen HGz29 1; clear HGz29 hgz29; have hnb30 := NB219_0.out; have hnc30 := NB0_219.out; obtain ⟨hcz31_0, hfz31_0, hcz31_1, hfz31_1⟩ := zqC2_ BK219.out))
    refine bodyPost_ret (results_cell_row rfl _ _ gb219 23 #[.int .i64 t223, .int .i64 t224] (0, 0) _ rfl zq27_ Tryz.underlying23 rfl (by kernel_rfl)) rfl ?_
    exact ⟨by first | rfl | (simp [errW_none, errW_some] <;> rfl) | (simp [*, errW_none, errW_some] <;> rfl), by repeat (first | (with_reducible first | exact HI0.out | apply IsS56.alloc | apply IsS56.drewN | apply IsS56.drew | apply IsS56.set_0 | apply IsS56.set_1 | apply IsS56.far (hne := NB0_219.out) | apply IsS56.far (hne := NB0_226.out)) | exact HI0.out), by repeat (first | (with_reducible first | exact HB.out | apply below_alloc | apply pw_below_drewN | apply below_drew1 | refine below_set ?_ (IsS56.ge HI0.out) | refine below_set ?_ GE219.out | refine below_set ?_ GE226.out) | exact HB.out), by repeat (first | (with_reducible first | exact HK.out | apply KeepBut.set_ | apply keep_drewN | apply keep_drew | apply keep_alloc | refine keep_far ?_ GW219.out _ | refine keep_far ?_ GW226.out _) | exact HK.out)⟩
 ·replace c4 := Bool.eq_false_iff.mpr c4
  subst c4
  have H1 : ((ident_Parse.f k t220).bind fun bt227 => (if t222 = true then (some (bt227.1, bt227.2.1, t221, true)) else (some (bt227.1, bt227.2.1, t221, (bt227.2.2 != 0))))) = some (r1, r2, r3, r4) := by rw [if_neg (show ¬ (false = true) by decide)] at H; exact H
  clear H
  have H := H1
  clear H1
  replace H := Option.bind_eq_some_iff.mp H
  obtain ⟨⟨t227, t228, t229⟩, A320, H⟩ := H
  replace H : (if t222 = true then (some (t227, t228, t221, true)) else (some (t227, t228, t221, (t229 != 0)))) = some (r1, r2, r3, r4) := H
  have A32 := Aside0.mk A320
  clear A320
  by_cases c33 : t222 = true
  ·subst c33
   have H1 : (some (t227, t228, t221, true)) = some (r1, r2, r3, r4) := by rw [if_pos rfl] at H; exact H
   clear H
   have H := H1
   clear H1
   simp only [Option.some.injEq, Prod.mk.injEq] at H
   obtain ⟨rfl, rfl, rfl, rfl⟩ := H
   go_enter Tryz.func47, Tryz.ntmps47
   go_wp2_with (first | ((with_reducible refine gate_dst (N := 4) rfl ?_); refine box_event ?hg (N := 4) ?hd (cs := #[.int .i64 0, .int .i64 0]) (t := 23) ?hr ?_; (case hd => rfl); (case hg => rfl); (case hr => first | (go_simp; done) | (go_simp; rfl)); intro gb219 hg w34 hbox hb; replace HB := Aside0.mk (below_step (zqB1_ (IsS56.ge HI0.out)) hb); have BK219 := Aside0.mk (hbox); have GW219 := Aside0.mk ((zq34_ : w.heap.size ≤ gb219)); have GE219 := Aside0.mk ((Nat.le_trans HW0.out (zq34_ : w.heap.size ≤ gb219) : w0.heap.size ≤ gb219)); replace HK := Aside0.mk (KeepBut.trans zq9_ (KeepBut.of_below hb g none) (.inl rfl)); have NB0_219 := Aside0.mk ((zq16_ : g ≠ gb219)); have NB219_0 := Aside0.mk ((zq17_ : gb219 ≠ g)); replace HI0 := Aside0.mk (IsS56.below zq20_ hb); clear hb hbox hg) | ((with_reducible refine gate_callee (f := 48) rfl ?_); refine zqG_ (some 9) rfl Tryz.func48 #[.pointer (some ⟨g, 0, none⟩)] rfl ?_; (with_reducible refine (change_reader_next.calls g s0_0 s0_1 t220 t221 true w0 _ ?side1 ?side2 HTAB.out A3.out).mono ?_); (case side1 => repeat (first | (with_reducible first | exact HI0.out | apply IsS56.alloc | apply IsS56.drewN | apply IsS56.drew | apply IsS56.set_0 | apply IsS56.set_1 | apply IsS56.far (hne := NB0_219.out)) | exact HI0.out)); (case side2 => repeat (first | (with_reducible first | exact HB.out | apply below_alloc | apply pw_below_drewN | apply below_drew1 | refine below_set ?_ (IsS56.ge HI0.out) | refine below_set ?_ GE219.out) | exact HB.out)); rintro e w35 ⟨rfl, hi, hb, hk⟩; refine ⟨_, rfl, ?_⟩; replace BK219 := Aside0.mk (KeepBut.blk hk (g' := gb219) (o := .cells #[.int .i64 0, .int .i64 0] 23 (0, 0)) (zqK_ BK219.out) NB219_0.out (by simp)); replace HK := Aside0.mk (KeepBut.trans zq6_ hk (.inl rfl)); replace HB := Aside0.mk (hb); replace HI0 := Aside0.mk (hi); (try clear hb); (try clear hb2); (try clear hk); (try clear hi)) | ((with_reducible refine gate_callee (f := 79) rfl ?_); refine zqG_ (some 18) rfl Tryz.func79 #[.string t220] rfl ?_; (with_reducible refine (ident_Parse.calls k t220 t227 t228 t229 _ (tabW_below_ HTAB.out (zqB2_ (IsS56.ge HI0.out) GE219.out)) A32.out).mono ?_); rintro e w36 ⟨rfl, hb⟩; refine ⟨_, rfl, ?_⟩; replace BK219 := Aside0.mk (blk_below (zqK_ BK219.out) hb); replace HK := Aside0.mk (KeepBut.trans zq6_ (KeepBut.of_below hb g none) (.inl rfl)); replace HB := Aside0.mk (below_step (zqB2_ (IsS56.ge HI0.out) GE219.out) hb); replace HI0 := Aside0.mk (IsS56.below zq13_ hb); (try clear hb); (try clear hb2); (try clear hk); (try clear hi)) | ((with_reducible refine gate_dst (N := 6) rfl ?_); refine box_event ?hg (N := 6) ?hd (cs := #[.int .i64 0, .int .i64 0]) (t := 23) ?hr ?_; (case hd => rfl); (case hg => rfl); (case hr => first | (go_simp; done) | (go_simp; rfl)); intro gb230 hg w37 hbox hb; replace HB := Aside0.mk (below_step (zqB2_ (IsS56.ge HI0.out) GE219.out) hb); have BK230 := Aside0.mk (hbox); have GW230 := Aside0.mk ((zq42_ : w.heap.size ≤ gb230)); have GE230 := Aside0.mk ((Nat.le_trans HW0.out (zq42_ : w.heap.size ≤ gb230) : w0.heap.size ≤ gb230)); replace HK := Aside0.mk (KeepBut.trans zq6_ (KeepBut.of_below hb g none) (.inl rfl)); have NB219_230 := Aside0.mk (((by rw [hg]; exact Nat.ne_of_lt (blk_lt (zqK_ BK219.out))) : gb219 ≠ gb230)); have NB230_219 := Aside0.mk (((by rw [hg]; exact Nat.ne_of_gt (blk_lt (zqK_ BK219.out))) : gb230 ≠ gb219)); replace BK219 := Aside0.mk (blk_below (zqK_ BK219.out) hb); have NB0_230 := Aside0.mk (((by rw [hg]; exact Nat.ne_of_lt (IsS56.lt (show IsS56 w0 _ g t221 true from by repeat (first | (with_reducible first | exact HI0.out | apply IsS56.alloc | apply IsS56.drewN | apply IsS56.drew | apply IsS56.set_0 | apply IsS56.set_1 | apply IsS56.far (hne := NB0_219.out)) | exact HI0.out)))) : g ≠ gb230)); have NB230_0 := Aside0.mk (((by rw [hg]; exact Nat.ne_of_gt (IsS56.lt (show IsS56 w0 _ g t221 true from by repeat (first | (with_reducible first | exact HI0.out | apply IsS56.alloc | apply IsS56.drewN | apply IsS56.drew | apply IsS56.set_0 | apply IsS56.set_1 | apply IsS56.far (hne := NB0_219.out)) | exact HI0.out)))) : gb230 ≠ g)); replace HI0 := Aside0.mk (IsS56.below zq13_ hb); clear hb hbox hg; have hnb38 := NB230_219.out; have hnc38 := NB219_230.out; have hnb39 := NB230_0.out; have hnc39 := NB0_230.out; obtain ⟨hcz40_0, hfz40_0, hcz40_1, hfz40_1⟩ := zqC2_ BK230.out; obtain ⟨HGz41, hgz41⟩ := HI0.out; have hcz41_0 := cellS56_0 HGz41; have hcz41_1 := cellS56_1 HGz41; have hfz41_0 := blk_frozen HGz41 0; have hfz41_1 := blk_frozen HGz41 1; clear HGz41 hgz41; have hnb42 := NB219_0.out; have hnc42 := NB0_219.out; obtain ⟨hcz43_0, hfz43_0, hcz43_1, hfz43_1⟩ := zqC2_ BK219.out))
   refine bodyPost_ret (results_cell_row rfl _ _ gb219 23 #[.int .i64 t227, .int .i64 t228] (0, 0) _ rfl zq26_ Tryz.underlying23 rfl (by kernel_rfl)) rfl ?_
   exact ⟨by first | rfl | (simp [errW_none, errW_some] <;> rfl) | (simp [*, errW_none, errW_some] <;> rfl), by repeat (first | (with_reducible first | exact HI0.out | apply IsS56.alloc | apply IsS56.drewN | apply IsS56.drew | apply IsS56.set_0 | apply IsS56.set_1 | apply IsS56.far (hne := NB0_219.out) | apply IsS56.far (hne := NB0_230.out)) | exact HI0.out), by repeat (first | (with_reducible first | exact HB.out | apply below_alloc | apply pw_below_drewN | apply below_drew1 | refine below_set ?_ (IsS56.ge HI0.out) | refine below_set ?_ GE219.out | refine below_set ?_ GE230.out) | exact HB.out), by repeat (first | (with_reducible first | exact HK.out | apply KeepBut.set_ | apply keep_drewN | apply keep_drew | apply keep_alloc | refine keep_far ?_ GW219.out _ | refine keep_far ?_ GW230.out _) | exact HK.out)⟩
  ·replace c33 := Bool.eq_false_iff.mpr c33
   subst c33
   have H1 : (some (t227, t228, t221, (t229 != 0))) = some (r1, r2, r3, r4) := by rw [if_neg (show ¬ (false = true) by decide)] at H; exact H
   clear H
   have H := H1
   clear H1
   simp only [Option.some.injEq, Prod.mk.injEq] at H
   obtain ⟨rfl, rfl, rfl, rfl⟩ := H
   go_enter Tryz.func47, Tryz.ntmps47
   go_wp2_with (first | ((with_reducible refine gate_dst (N := 4) rfl ?_); refine box_event ?hg (N := 4) ?hd (cs := #[.int .i64 0, .int .i64 0]) (t := 23) ?hr ?_; (case hd => rfl); (case hg => rfl); (case hr => first | (go_simp; done) | (go_simp; rfl)); intro gb219 hg w44 hbox hb; replace HB := Aside0.mk (below_step (zqB1_ (IsS56.ge HI0.out)) hb); have BK219 := Aside0.mk (hbox); have GW219 := Aside0.mk ((zq34_ : w.heap.size ≤ gb219)); have GE219 := Aside0.mk ((Nat.le_trans HW0.out (zq34_ : w.heap.size ≤ gb219) : w0.heap.size ≤ gb219)); replace HK := Aside0.mk (KeepBut.trans zq9_ (KeepBut.of_below hb g none) (.inl rfl)); have NB0_219 := Aside0.mk ((zq16_ : g ≠ gb219)); have NB219_0 := Aside0.mk ((zq17_ : gb219 ≠ g)); replace HI0 := Aside0.mk (IsS56.below zq20_ hb); clear hb hbox hg) | ((with_reducible refine gate_callee (f := 48) rfl ?_); refine zqG_ (some 9) rfl Tryz.func48 #[.pointer (some ⟨g, 0, none⟩)] rfl ?_; (with_reducible refine (change_reader_next.calls g s0_0 s0_1 t220 t221 false w0 _ ?side1 ?side2 HTAB.out A3.out).mono ?_); (case side1 => repeat (first | (with_reducible first | exact HI0.out | apply IsS56.alloc | apply IsS56.drewN | apply IsS56.drew | apply IsS56.set_0 | apply IsS56.set_1 | apply IsS56.far (hne := NB0_219.out)) | exact HI0.out)); (case side2 => repeat (first | (with_reducible first | exact HB.out | apply below_alloc | apply pw_below_drewN | apply below_drew1 | refine below_set ?_ (IsS56.ge HI0.out) | refine below_set ?_ GE219.out) | exact HB.out)); rintro e w45 ⟨rfl, hi, hb, hk⟩; refine ⟨_, rfl, ?_⟩; replace BK219 := Aside0.mk (KeepBut.blk hk (g' := gb219) (o := .cells #[.int .i64 0, .int .i64 0] 23 (0, 0)) (zqK_ BK219.out) NB219_0.out (by simp)); replace HK := Aside0.mk (KeepBut.trans zq6_ hk (.inl rfl)); replace HB := Aside0.mk (hb); replace HI0 := Aside0.mk (hi); (try clear hb); (try clear hb2); (try clear hk); (try clear hi)) | ((with_reducible refine gate_callee (f := 79) rfl ?_); refine zqG_ (some 18) rfl Tryz.func79 #[.string t220] rfl ?_; (with_reducible refine (ident_Parse.calls k t220 t227 t228 t229 _ (tabW_below_ HTAB.out (zqB2_ (IsS56.ge HI0.out) GE219.out)) A32.out).mono ?_); rintro e w46 ⟨rfl, hb⟩; refine ⟨_, rfl, ?_⟩; replace BK219 := Aside0.mk (blk_below (zqK_ BK219.out) hb); replace HK := Aside0.mk (KeepBut.trans zq6_ (KeepBut.of_below hb g none) (.inl rfl)); replace HB := Aside0.mk (below_step (zqB2_ (IsS56.ge HI0.out) GE219.out) hb); replace HI0 := Aside0.mk (IsS56.below zq13_ hb); (try clear hb); (try clear hb2); (try clear hk); (try clear hi)) | ((with_reducible refine gate_dst (N := 6) rfl ?_); refine box_event ?hg (N := 6) ?hd (cs := #[.int .i64 0, .int .i64 0]) (t := 23) ?hr ?_; (case hd => rfl); (case hg => rfl); (case hr => first | (go_simp; done) | (go_simp; rfl)); intro gb230 hg w47 hbox hb; replace HB := Aside0.mk (below_step (zqB2_ (IsS56.ge HI0.out) GE219.out) hb); have BK230 := Aside0.mk (hbox); have GW230 := Aside0.mk ((zq42_ : w.heap.size ≤ gb230)); have GE230 := Aside0.mk ((Nat.le_trans HW0.out (zq42_ : w.heap.size ≤ gb230) : w0.heap.size ≤ gb230)); replace HK := Aside0.mk (KeepBut.trans zq6_ (KeepBut.of_below hb g none) (.inl rfl)); have NB219_230 := Aside0.mk (((by rw [hg]; exact Nat.ne_of_lt (blk_lt (zqK_ BK219.out))) : gb219 ≠ gb230)); have NB230_219 := Aside0.mk (((by rw [hg]; exact Nat.ne_of_gt (blk_lt (zqK_ BK219.out))) : gb230 ≠ gb219)); replace BK219 := Aside0.mk (blk_below (zqK_ BK219.out) hb); have NB0_230 := Aside0.mk (((by rw [hg]; exact Nat.ne_of_lt (IsS56.lt (show IsS56 w0 _ g t221 false from by repeat (first | (with_reducible first | exact HI0.out | apply IsS56.alloc | apply IsS56.drewN | apply IsS56.drew | apply IsS56.set_0 | apply IsS56.set_1 | apply IsS56.far (hne := NB0_219.out)) | exact HI0.out)))) : g ≠ gb230)); have NB230_0 := Aside0.mk (((by rw [hg]; exact Nat.ne_of_gt (IsS56.lt (show IsS56 w0 _ g t221 false from by repeat (first | (with_reducible first | exact HI0.out | apply IsS56.alloc | apply IsS56.drewN | apply IsS56.drew | apply IsS56.set_0 | apply IsS56.set_1 | apply IsS56.far (hne := NB0_219.out)) | exact HI0.out)))) : gb230 ≠ g)); replace HI0 := Aside0.mk (IsS56.below zq13_ hb); clear hb hbox hg; have hnb48 := NB230_219.out; have hnc48 := NB219_230.out; have hnb49 := NB230_0.out; have hnc49 := NB0_230.out; obtain ⟨hcz50_0, hfz50_0, hcz50_1, hfz50_1⟩ := zqC2_ BK230.out; obtain ⟨HGz51, hgz51⟩ := HI0.out; have hcz51_0 := cellS56_0 HGz51; have hcz51_1 := cellS56_1 HGz51; have hfz51_0 := blk_frozen HGz51 0; have hfz51_1 := blk_frozen HGz51 1; clear HGz51 hgz51; have hnb52 := NB219_0.out; have hnc52 := NB0_219.out; obtain ⟨hcz53_0, hfz53_0, hcz53_1, hfz53_1⟩ := zqC2_ BK219.out))
   refine bodyPost_ret (results_cell_row rfl _ _ gb219 23 #[.int .i64 t227, .int .i64 t228] (0, 0) _ rfl zq26_ Tryz.underlying23 rfl (by kernel_rfl)) rfl ?_
   exact ⟨by first | rfl | (simp [errW_none, errW_some] <;> rfl) | (simp [*, errW_none, errW_some] <;> rfl), by repeat (first | (with_reducible first | exact HI0.out | apply IsS56.alloc | apply IsS56.drewN | apply IsS56.drew | apply IsS56.set_0 | apply IsS56.set_1 | apply IsS56.far (hne := NB0_219.out) | apply IsS56.far (hne := NB0_230.out)) | exact HI0.out), by repeat (first | (with_reducible first | exact HB.out | apply below_alloc | apply pw_below_drewN | apply below_drew1 | refine below_set ?_ (IsS56.ge HI0.out) | refine below_set ?_ GE219.out | refine below_set ?_ GE230.out) | exact HB.out), by repeat (first | (with_reducible first | exact HK.out | apply KeepBut.set_ | apply keep_drewN | apply keep_drew | apply keep_alloc | refine keep_far ?_ GW219.out _ | refine keep_far ?_ GW230.out _) | exact HK.out)⟩

-- NOT PRINTED: function 143 (strconv_lower)

-- NOT PRINTED: function 144 (strconv_underscoreOK)

-- NOT PRINTED: function 123 (strconv_ParseUint)

-- NOT PRINTED: function 108 (strconv_ParseInt)

-- NOT PRINTED: function 90 (strconv_Atoi_90)

-- NOT PRINTED: function 124 (stringslite_Clone)

-- NOT PRINTED: function 109 (strconv_syntaxError)

-- NOT PRINTED: function 110 (strconv_rangeError)

-- NOT PRINTED: function 125 (errors_New)

-- NOT PRINTED: function 111 (strconv_baseError)

-- NOT PRINTED: function 112 (strconv_bitSizeError)

-- NOT PRINTED: function 91 (strconv_toError)

/-! ### strconv_Atoi_77: function 77 (by hand) -/
/-- What an error of strconv.Atoi is: none is the nil interface, one a pointer to a new block. -/
def ErrV_ : Option Int → Value → Prop
 | none, v => v = .nilIface
 | some _, v => ∃ N : Nat, v = .iface 116 (.pointer (some ⟨N, 0, none⟩))
def strconv_Atoi_77.f (a0 : ByteArray) : Option (Int × Option Int) := if a0.size ≤ 281474976710656 then some (match Lib.atoiAll a0.data.toList with | .ok v => (v, none) | .«syntax» => (0, some 0) | .range => (Lib.atoiSat a0.data.toList, some 0)) else none
set_option maxRecDepth 100000 in
theorem strconv_Atoi_77.calls (a0 : ByteArray) (r1 : Int) (r2 : Option Int) (w : World) (htab : TabW_ w) (h : strconv_Atoi_77.f a0 = some (r1, r2)) :
  Calls Tryz.prog 77 #[.string a0] w fun e w' => ∃ v_ : Value, e = .returned (.tuple #[.int .i64 r1, v_]) ∧ ErrV_ r2 v_ ∧ Below w.heap.size w w' := by
 unfold strconv_Atoi_77.f at h
 split at h
 ·rename_i hs
  have h := Option.some.inj h
  cases hA : Lib.atoiAll a0.data.toList with
  | ok v =>
   rw [hA] at h
   obtain ⟨rfl, rfl⟩ := Prod.mk.inj h
   refine (Tryz.strconv_Atoi_ok a0 (by omega) v hA w).mono ?_
   rintro e w' ⟨rfl, rfl | ⟨t, rfl⟩⟩
   ·exact ⟨_, rfl, rfl, Below.refl _ _⟩
   ·exact ⟨_, rfl, rfl, bytes_below (Below.refl _ _) (Nat.le_refl _) _ _⟩
  | «syntax» =>
   rw [hA] at h
   obtain ⟨rfl, rfl⟩ := Prod.mk.inj h
   obtain ⟨tp, p, hv⟩ := htab.1.2.1
   have h0 := World.var?_cell (show Tryz.prog.globalNamed "strconv.ErrSyntax" = some 2 from by kernel_rfl) hv 0
   refine (Tryz.strconv_Atoi_syntax a0 hs hA (.iface tp p) w (by simpa using h0) (Or.inr ⟨tp, p, rfl⟩)).mono ?_
   rintro e w' ⟨N, rfl, _, _, hb⟩
   exact ⟨_, rfl, ⟨N, rfl⟩, hb⟩
  | range =>
   rw [hA] at h
   obtain ⟨rfl, rfl⟩ := Prod.mk.inj h
   obtain ⟨tp, p, hv⟩ := htab.1.2.2
   have h0 := World.var?_cell (show Tryz.prog.globalNamed "strconv.ErrRange" = some 3 from by kernel_rfl) hv 0
   refine (Tryz.strconv_Atoi_range a0 hs hA (.iface tp p) w (by simpa using h0) (Or.inr ⟨tp, p, rfl⟩)).mono ?_
   rintro e w' ⟨N, rfl, _, _, hb⟩
   exact ⟨_, rfl, ⟨N, rfl⟩, hb⟩
 ·cases h


-- NOT PRINTED: function 145 (utf8_RuneCountInString)

-- NOT PRINTED: function 154 (utf8_decodeRuneInStringSlow)

-- NOT PRINTED: function 146 (utf8_DecodeRuneInString)

-- NOT PRINTED: function 126 (strings_explode)

-- NOT PRINTED: function 128 (strings_Index)

-- NOT PRINTED: function 147 (bytealg_CountString)

-- NOT PRINTED: function 127 (strings_Count)

-- NOT PRINTED: function 113 (strings_genSplit)

/-! ### strings_Split: function 92 (by hand) -/
def strings_Split.f (a0 : ByteArray) (a1 : ByteArray) : Option (List ByteArray) := if a0.size ≤ 1048576 then (if 1 ≤ a1.size then some (Lib.splitB a1 0 (Lib.countB a0 a1) a0) else none) else none
theorem R_strings_ (w : World) (xs : List ByteArray) (n : Nat) (hn : n = xs.length) (hm : n ≤ maxLen) : Kd.R Kd.string 9 (w.alloc (.cells (xs.map Value.string).toArray 9)) w.heap.size (fun _ => True) (.slice (some ⟨w.heap.size, 0, none⟩) n n) xs := by
 subst hn
 refine ⟨fun _ _ => trivial, xs.map Value.string, ?_, ⟨by simp [Kd.string, Kd.scalar], fun j p hj => ?_⟩⟩
 ·have h2 := World.ownsRow_lit (base := w.heap.size) (e := 9) (size := 1) w (xs.map Value.string).toArray xs.length (Nat.le_refl _) hm (by simp)
  simpa [Kd.string, Kd.scalar] using h2
 ·obtain ⟨hl, rfl⟩ := List.getElem?_eq_some_iff.1 hj
  show ((xs.map Value.string).drop (j * 1)).take 1 = [.string xs[j]]
  rw [Nat.mul_one, List.drop_eq_getElem_cons (by simpa using hl)]
  simp
set_option maxRecDepth 100000 in
theorem strings_Split.calls (a0 : ByteArray) (a1 : ByteArray) (r : List ByteArray) (w : World) (htab : TabW_ w) (h : strings_Split.f a0 a1 = some r) :
  Calls Tryz.prog 92 #[.string a0, .string a1] w fun e w' => ∃ v0_ : Value, e = .returned (v0_) ∧ Kd.R Kd.string 9 w' w.heap.size (fun _ => True) v0_ r ∧ Below w.heap.size w w' := by
 unfold strings_Split.f at h
 split at h
 ·rename_i hs
  split at h
  ·rename_i h1
   obtain rfl := Option.some.inj h
   obtain ⟨m, hm⟩ := htab.2
   have hle := Lib.countB_le a1 h1 a0.size a0 (Nat.le_refl _)
   have hlen := Lib.splitB_all a1 h1 0 _ a0 rfl
   refine (Tryz.strings_Split a0 a1 m w (by omega) hm h1).mono ?_
   rintro e w' ⟨rfl, rfl⟩
   exact ⟨_, rfl, R_strings_ w _ _ hlen.symm (by unfold maxLen; omega), Below.alloc (Below.refl _ _) (Nat.le_refl _) _⟩
  ·cases h
 ·cases h


end Go.Proofs.YtgoolgmcbnikkaaGreatDoor.QChangeSames
