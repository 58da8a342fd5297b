-- Own text of this seat, laid by the session's program ownprint.py (wip/tools). Lean checks it.
import Derived.Test.YtaogeajjidnfgaaQPatchTouchesx0
import Derived.Test.YtaogeajjidnfgaaQPatchTouchesx1
namespace Go.Proofs.Ytaogeajjidnfgaa.QPatchTouches
open Go.RowKit Go.Proofs.YtaogeajjidnfgaaW.PrintWords Go.Proofs.YtaogeajjidnfgaaW.PrintLast Go.Proofs.YtaogeajjidnfgaaW.PrintMore
attribute [local go_sem] max2_int min2_int max_two min_two max_three min_three max_four min_four   -- for this text's walks alone
set_option linter.unusedVariables false
set_option linter.unusedSimpArgs false

attribute [local go_sem high] eqA23
/-! ### topiaryref01_Same: function 19 -/
def topiaryref01_Same.l0 : Nat → List (S23) → List (S23) → Int → Option (Bool)
  | 0, _, _, _ => none
  | k + 1, x0, x1, x5 => if x5 < (x0.length : Int) then (if 0 ≤ x5 then (if x5 < (x1.length : Int) then (if (!(((rd_T23 x0 x5).f0) == ((rd_T23 x1 x5).f0)) || (!(((rd_T23 x0 x5).f1) == ((rd_T23 x1 x5).f1)))) = true then (some false) else (topiaryref01_Same.l0 k x0 x1 (wrap64 (x5 + 1)))) else (none)) else (none)) else (some true)
def topiaryref01_Same.f (k : Nat) (l0 : List (S23)) (l1 : List (S23)) : Option (Bool) := if (l0.length : Int) = (l1.length : Int) then (topiaryref01_Same.l0 k l0 l1 0) else (some false)
theorem topiaryref01_Same.mono_l : ∀ k, (∀ y0 y1 y2, LeO (topiaryref01_Same.l0 k y0 y1 y2) (topiaryref01_Same.l0 (k + 1) y0 y1 y2))
  | 0 => fun _ _ _ r h => by simp [topiaryref01_Same.l0] at h
  | k + 1 => by
    have ih0 := topiaryref01_Same.mono_l k
    · intro y0 y1 y2
      unfold topiaryref01_Same.l0
      repeat' first
      | (with_reducible exact ih0 _ _ _)
      | (with_reducible exact LeO.refl _)
      | (with_reducible exact LeO.none _)
      | (with_reducible refine LeO.ite ?_ ?_)
      | (with_reducible refine LeO.bind ?_ (fun _ => ?_))
      | exact ih0 _ _ _
      | exact LeO.none _
      | refine LeO.ite ?_ ?_
      | refine LeO.bind ?_ (fun _ => ?_)
theorem topiaryref01_Same.mono : ∀ a0 a1 k, LeO (topiaryref01_Same.f k a0 a1) (topiaryref01_Same.f (k + 1) a0 a1) := by
  intro a0 a1 k
  have ih0 := topiaryref01_Same.mono_l k
  unfold topiaryref01_Same.f
  repeat' first
      | (with_reducible exact ih0 _ _ _)
      | (with_reducible exact LeO.refl _)
      | (with_reducible exact LeO.none _)
      | (with_reducible refine LeO.ite ?_ ?_)
      | (with_reducible refine LeO.bind ?_ (fun _ => ?_))
      | exact ih0 _ _ _
      | exact LeO.none _
      | refine LeO.ite ?_ ?_
      | refine LeO.bind ?_ (fun _ => ?_)
set_option maxHeartbeats 8000000 in
set_option maxRecDepth 100000 in
theorem topiaryref01_Same.calls (k : Nat) (A0 : Option Addr) (c0 : Nat) (l0 : List (S23)) (A1 : Option Addr) (c1 : Nat) (l1 : List (S23)) (r : Bool) (w : World) (hr0 : Kd.C k23 w A0 l0.length l0) (hc0 : l0.length ≤ c0) (hr1 : Kd.C k23 w A1 l1.length l1) (hc1 : l1.length ≤ c1) (h : topiaryref01_Same.f k l0 l1 = some r) :
    Calls Try.prog 19 #[.slice A0 l0.length c0, .slice A1 l1.length c1] w fun e w' => e = .returned (.bool r) ∧ Drawn0 w w' := by
  have hu23 := Try.underlying23
  have HR0 := Aside0.mk hr0
  have HC0 := Aside0.mk hc0
  clear hr0 hc0
  have HR1 := Aside0.mk hr1
  have HC1 := Aside0.mk hc1
  clear hr1 hc1
  have H : (if (l0.length : Int) = (l1.length : Int) then (topiaryref01_Same.l0 k l0 l1 0) else (some false)) = some r := h
  clear h
  by_cases c3 : (l0.length : Int) = (l1.length : Int)
  · rw [if_pos c3] at H
    have c3b0 : ((l0.length : Int) == (l1.length : Int)) = true := beq_iff_eq.mpr c3
    have c3b1 : ((l0.length : Int) != (l1.length : Int)) = false := bne_eq_false_iff_eq.mpr c3
    have c3b2 : (l0.length == l1.length) = true := by first | simpa using c3 | (simp at c3 ⊢; omega)
    clear c3
    have H' := Aside0.mk H
    clear H
    go_enter Try.func19, Try.ntmps19
    go_wp2
    repeat (go_quiet (fail); try go_wp2)
    go_loopg [5] k (fun kq v5 w' => ∃ (x5_1 : Int), v5 = .int .i64 x5_1 ∧ Aside0 (topiaryref01_Same.l0 kq l0 l1 x5_1 = some r) ∧ Aside0 (kq ≤ k) ∧ Drawn0 w w')
    case atStart => exact ⟨(0), (by first | rfl | (simp; done) | (simp [*]; done)), H', ⟨Nat.le_refl _⟩, by repeat (first | exact Drawn0.refl _ | apply Drawn0.step)⟩
    case round =>
      clear H'
      try clear c1
      try clear p2
      try clear c3
      try clear c3b0
      try clear c3b1
      try clear c3b2
      obtain ⟨x5_1, rfl, HA, HK1, ⟨m1, rfl⟩⟩ := hrel
      cases gk with
      | zero => exact absurd HA.out (by simp [topiaryref01_Same.l0])
      | succ k1 =>
        have H := HA.out
        clear HA
        simp only [topiaryref01_Same.l0] at H
        by_cases c4 : x5_1 < (l0.length : Int)
        · rw [if_pos c4] at H
          have c4b0 : decide (x5_1 < (l0.length : Int)) = true := decide_eq_true c4
          clear c4
          by_cases c5 : 0 ≤ x5_1
          · rw [if_pos c5] at H
            have c5b0 : decide (0 ≤ x5_1) = true := decide_eq_true c5
            clear c5
            by_cases c6 : x5_1 < (l1.length : Int)
            · rw [if_pos c6] at H
              have c6b0 : decide (x5_1 < (l1.length : Int)) = true := decide_eq_true c6
              clear c6
              by_cases c7 : (!(((rd_T23 l0 x5_1).f0) == ((rd_T23 l1 x5_1).f0)) || (!(((rd_T23 l0 x5_1).f1) == ((rd_T23 l1 x5_1).f1)))) = true
              · rw [if_pos c7] at H
                have c7b0 : (!(((rd_T23 l0 x5_1).f0) == ((rd_T23 l1 x5_1).f0)) || (!(((rd_T23 l0 x5_1).f1) == ((rd_T23 l1 x5_1).f1)))) = true := c7
                clear c7
                obtain rfl := Option.some.inj H
                have p117 : 0 ≤ (x5_1 : Int) := of_decide_eq_true (by first | (with_reducible assumption) | assumption)
                have q117 : x5_1 < (l0.length : Int) := of_decide_eq_true (by first | (with_reducible assumption) | assumption)
                obtain ⟨ad117, e117, hx117_0, hx117_1⟩ := at_T23 HR0.out x5_1 p117 q117
                cases e117
                replace p117 := eq_true p117
                replace q117 := eq_true q117
                have p118 : 0 ≤ (x5_1 : Int) := of_decide_eq_true (by first | (with_reducible assumption) | assumption)
                have q118 : x5_1 < (l1.length : Int) := of_decide_eq_true (by first | (with_reducible assumption) | assumption)
                obtain ⟨ad118, e118, hx118_0, hx118_1⟩ := at_T23 HR1.out x5_1 p118 q118
                cases e118
                replace p118 := eq_true p118
                replace q118 := eq_true q118
                go_wp2
                repeat (go_quiet (fail); try go_wp2)
                go_ret
                exact ⟨by first | rfl | (simp; done) | (simp [*]; done), by repeat (first | exact Drawn0.refl _ | apply Drawn0.step)⟩
              · rw [if_neg c7] at H
                have c7b0 : (!(((rd_T23 l0 x5_1).f0) == ((rd_T23 l1 x5_1).f0)) || (!(((rd_T23 l0 x5_1).f1) == ((rd_T23 l1 x5_1).f1)))) = false := by simpa using c7
                clear c7
                have H' := Aside0.mk H
                clear H
                have p117 : 0 ≤ (x5_1 : Int) := of_decide_eq_true (by first | (with_reducible assumption) | assumption)
                have q117 : x5_1 < (l0.length : Int) := of_decide_eq_true (by first | (with_reducible assumption) | assumption)
                obtain ⟨ad117, e117, hx117_0, hx117_1⟩ := at_T23 HR0.out x5_1 p117 q117
                cases e117
                replace p117 := eq_true p117
                replace q117 := eq_true q117
                have p118 : 0 ≤ (x5_1 : Int) := of_decide_eq_true (by first | (with_reducible assumption) | assumption)
                have q118 : x5_1 < (l1.length : Int) := of_decide_eq_true (by first | (with_reducible assumption) | assumption)
                obtain ⟨ad118, e118, hx118_0, hx118_1⟩ := at_T23 HR1.out x5_1 p118 q118
                cases e118
                replace p118 := eq_true p118
                replace q118 := eq_true q118
                go_wp2
                repeat (go_quiet (fail); try go_wp2)
                go_roundg k1
                case measure => have := HK1.out; omega
                case rel => exact ⟨(wrap64 (x5_1 + 1)), (by first | rfl | (simp; done) | (simp [*]; done)), H', ⟨by have := HK1.out; omega⟩, by repeat (first | exact Drawn0.refl _ | apply Drawn0.step)⟩
            · rw [if_neg c6] at H
              exact absurd H (by simp)
          · rw [if_neg c5] at H
            exact absurd H (by simp)
        · rw [if_neg c4] at H
          have c4b0 : decide (x5_1 < (l0.length : Int)) = false := decide_eq_false c4
          clear c4
          obtain rfl := Option.some.inj H
          go_wp2
          repeat (go_quiet (fail); try go_wp2)
          go_ret
          exact ⟨by first | rfl | (simp; done) | (simp [*]; done), by repeat (first | exact Drawn0.refl _ | apply Drawn0.step)⟩
  · rw [if_neg c3] at H
    have c3b0 : ((l0.length : Int) == (l1.length : Int)) = false := beq_eq_false_iff_ne.mpr c3
    have c3b1 : ((l0.length : Int) != (l1.length : Int)) = true := bne_iff_ne.mpr c3
    have c3b2 : (l0.length == l1.length) = false := by first | simpa using c3 | (simp at c3 ⊢; omega)
    obtain rfl := Option.some.inj H
    go_enter Try.func19, Try.ntmps19
    go_wp2
    repeat (go_quiet (fail); try go_wp2)
    go_ret
    exact ⟨by first | rfl | (simp; done) | (simp [*]; done), by repeat (first | exact Drawn0.refl _ | apply Drawn0.step)⟩

-- NOT PRINTED: function 105 (api_Stamp_105)

-- NOT PRINTED: function 117 (api_Stamp_117)

-- NOT PRINTED: function 106 (api_Stamp_106)

-- NOT PRINTED: function 113 (bits_Len32)

-- NOT PRINTED: function 114 (bits_Len64)

-- NOT PRINTED: function 98 (bits_Len)

-- NOT PRINTED: function 118 (slices_nextPowerOfTwo)

-- NOT PRINTED: function 119 (slices_xorshift_Next)

-- NOT PRINTED: function 107 (api_Stamp_107)

-- NOT PRINTED: function 122 (api_Stamp_122)

-- NOT PRINTED: function 121 (api_Stamp_121)

-- NOT PRINTED: function 120 (api_Stamp_120)

-- NOT PRINTED: function 108 (api_Stamp_108)

-- NOT PRINTED: function 109 (api_Stamp_109)

-- NOT PRINTED: function 110 (api_Stamp_110)

-- NOT PRINTED: function 111 (api_Stamp_111)

-- NOT PRINTED: function 112 (api_Stamp_112)

-- NOT PRINTED: function 97 (api_Stamp_97)

-- NOT PRINTED: function 81 (api_Stamp_81)

-- NOT PRINTED: function 84 (api_Stamp_84)

/-! ### ident_Rising: function 59 (by hand) -/
section
open Go.Sort Go.Shelf Go.Lib
attribute [local go_sem high] eqA23
theorem add_at_ (g j : Nat) : (⟨g, 0, none⟩ : Addr).add j = ⟨g, j, none⟩ := by unfold Addr.add; split <;> simp_all
def cfS (x y : S23) : Int := if x.f0 = y.f0 ∧ x.f1 = y.f1 then 0 else if x.f0 < y.f0 then -1 else if x.f0 = y.f0 then (if x.f1 < y.f1 then -1 else 1) else 1
set_option maxHeartbeats 4000000 in
set_option maxRecDepth 100000 in
theorem cmp_grown (x y : S23) (W : World) : Calls Try.prog 83 #[.agg #[.int .i64 x.f0, .int .i64 x.f1], .agg #[.int .i64 y.f0, .int .i64 y.f1]] W fun e w' => e = .returned (.int .i64 (cfS x y)) ∧ ∃ q os', w' = grow (W.drewN q) os' := by
  obtain ⟨a, b⟩ := x
  obtain ⟨c, d⟩ := y
  have huS := Try.underlying23
  simp only [cfS]
  by_cases h1 : a = c ∧ b = d
  · obtain ⟨rfl, rfl⟩ := h1
    rw [if_pos ⟨rfl, rfl⟩]
    go_enter Try.func83, Try.ntmps83
    go_wp2
    go_ret
    exact ⟨rfl, 0, _, by rw [alloc_eq_grow, alloc_eq_grow, grow_grow]; rfl⟩
  · rw [if_neg h1]
    have e1 : (a == c && (b == d)) = false := by
      by_cases h2 : a = c
      · have h3 : ¬ b = d := fun h => h1 ⟨h2, h⟩
        simp [h3]
      · simp [h2]
    clear h1
    by_cases h2 : a < c
    · rw [if_pos h2]
      have e2 : decide (a < c) = true := decide_eq_true h2
      clear h2
      go_enter Try.func83, Try.ntmps83
      go_wp2
      go_ret
      exact ⟨rfl, 0, _, by rw [alloc_eq_grow, alloc_eq_grow, grow_grow]; rfl⟩
    · rw [if_neg h2]
      have e2 : decide (a < c) = false := decide_eq_false h2
      clear h2
      by_cases h3 : a = c
      · subst h3
        rw [if_pos rfl]
        have e4 : (b == d) = false := by simpa using e1
        by_cases h4 : b < d
        · rw [if_pos h4]
          have e5 : decide (b < d) = true := decide_eq_true h4
          clear h4
          go_enter Try.func83, Try.ntmps83
          go_wp2
          go_ret
          exact ⟨rfl, 0, _, by rw [alloc_eq_grow, alloc_eq_grow, grow_grow]; rfl⟩
        · rw [if_neg h4]
          have e5 : decide (b < d) = false := decide_eq_false h4
          clear h4
          go_enter Try.func83, Try.ntmps83
          go_wp2
          go_ret
          exact ⟨rfl, 0, _, by rw [alloc_eq_grow, alloc_eq_grow, grow_grow]; rfl⟩
      · rw [if_neg h3]
        have e3 : (a == c) = false := by simpa using h3
        clear h3
        go_enter Try.func83, Try.ntmps83
        go_wp2
        go_ret
        exact ⟨rfl, 0, _, by rw [alloc_eq_grow, alloc_eq_grow, grow_grow]; rfl⟩
set_option maxHeartbeats 4000000 in
set_option maxRecDepth 100000 in
theorem lit_grown (x y : S23) (W : World) : Calls Try.prog 82 #[.agg #[.int .i64 x.f0, .int .i64 x.f1], .agg #[.int .i64 y.f0, .int .i64 y.f1]] W fun e w' => e = .returned (.int .i64 (cfS x y)) ∧ ∃ q os', w' = grow (W.drewN q) os' := by
  have huS := Try.underlying23
  have hcon := fun W' => cmp_grown x y W'
  generalize cfS x y = r at hcon ⊢
  go_enter Try.func82, Try.ntmps82
  go_wp2_with (go_at_call 83; refine (hcon _).mono ?_; rintro e w' ⟨rfl, q, os', rfl⟩)
  go_ret
  refine ⟨rfl, q, (#[Obj.cells #[.int .i64 x.f0, .int .i64 x.f1] 23] ++ #[Obj.cells #[.int .i64 y.f0, .int .i64 y.f1] 23]) ++ os', ?_⟩
  rw [alloc_eq_grow, alloc_eq_grow, grow_grow]
  show grow (grow (W.drewN q) _) os' = _
  rw [grow_grow]
instance inhS : Inhabited S23 := ⟨⟨0, 0⟩⟩
/-- A stamp's two cells. -/
def encS (x : S23) : List Value := [.int .i64 x.f0, .int .i64 x.f1]
theorem cmpLays (blk off size : Nat) (w : World) : CmpLays Try.prog 82 #[] encS 2 cfS blk off size w := fun _ _ _ _ x y => lit_grown x y _
theorem lt_cfS (x y : S23) : ltOf cfS x y = decide (x.f0 < y.f0 ∨ (x.f0 = y.f0 ∧ x.f1 < y.f1)) := by
  unfold ltOf cfS
  by_cases h1 : x.f0 = y.f0 ∧ x.f1 = y.f1
  · rw [if_pos h1]; simp; omega
  · rw [if_neg h1]
    by_cases h2 : x.f0 < y.f0
    · rw [if_pos h2]; simp; omega
    · rw [if_neg h2]
      by_cases h3 : x.f0 = y.f0
      · rw [if_pos h3]
        by_cases h4 : x.f1 < y.f1
        · rw [if_pos h4]; simp; omega
        · rw [if_neg h4]; simp; omega
      · rw [if_neg h3]; simp; omega
theorem swoS : SWO (ltOf cfS) where
  irrefl x := by rw [lt_cfS]; simp
  trans x y z h1 h2 := by rw [lt_cfS] at *; simp at *; omega
  ntrans x y z h1 h2 := by rw [lt_cfS] at *; simp at *; omega
theorem sort_stamps (blk cap : Nat) (d : Array S23) (w : World) (hH : HoldsK encS 2 w blk 0 d) (hblk : blk < w.heap.size) (hsz : d.size < 4611686018427387904) :
    Calls Try.prog 81 #[.slice (some ⟨blk, 0, none⟩) d.size cap, .func (.func 82) #[] #[]] w fun e w' =>
      e = .returned (.tuple #[]) ∧ ∃ d' n os, PermIn 0 d.size d d' ∧ SortedIn (ltOf cfS) 0 d.size d' ∧ w' = sortWorldK encS 2 w blk 0 n d' os :=
  Try.slices_SortFunc 2 Try.isAgg23 Try.sizeOf23 encS (fun _ => rfl) (fun x v hv => by simp [encS] at hv; rcases hv with rfl | rfl <;> rfl) cfS swoS 82 #[] blk 0 cap d w (enters_of Try.func82 (by kernel_rfl) rfl) (cmpLays blk 0 d.size w) hH hblk hsz

theorem row_cells {W : World} {base g n cap : Nat} {ok : Nat → Prop} {xs : List S23} (h : Kd.R k23 23 W base ok (.slice (some ⟨g, 0, none⟩) n cap) xs) :
    ∃ cur, W.heap[g]? = some (.cells cur 23 (0, 0)) ∧ n = xs.length ∧ n ≤ cap ∧ cap ≤ maxLen ∧ cur.size = cap * 2 ∧ base ≤ g ∧ ok g ∧ ∀ j p, xs[j]? = some p → cur[j * 2]? = some (.int .i64 p.f0) ∧ cur[j * 2 + 1]? = some (.int .i64 p.f1) := by
  obtain ⟨h0, inner, ⟨hlen, hr⟩, hrep⟩ := h
  rcases hr with ⟨e, _⟩ | ⟨g', cap', cur, e, hg, hh, hnc, hcm, hcs, htk⟩
  · simp at e
  · simp only [Value.slice.injEq, Option.some.injEq, Addr.mk.injEq] at e
    obtain ⟨⟨rfl, _⟩, hn, rfl⟩ := e
    refine ⟨cur, hh, hn, by omega, hcm, hcs, hg, h0 g (by simp [Value.ownBlock]), fun j p hj => ?_⟩
    have hk : (inner.drop (j * 2)).take 2 = [.int .i64 p.f0, .int .i64 p.f1] := k23_openM (hrep.2 j p hj)
    obtain ⟨hjl, _⟩ := List.getElem?_eq_some_iff.1 hj
    have a0 : inner[j * 2]? = some (.int .i64 p.f0) := by
      have := congrArg (·[0]?) hk
      simpa [List.getElem?_take, List.getElem?_drop] using this
    have a1 : inner[j * 2 + 1]? = some (.int .i64 p.f1) := by
      have := congrArg (·[1]?) hk
      simpa [List.getElem?_take, List.getElem?_drop] using this
    have htk' : cur.toList.take (xs.length * 2) = inner := htk
    rw [← htk'] at a0 a1
    rw [List.getElem?_take, if_pos (by omega)] at a0 a1
    exact ⟨by simpa using a0, by simpa using a1⟩
theorem holds_of_row {W : World} {base g n cap : Nat} {ok : Nat → Prop} {xs : List S23} (h : Kd.R k23 23 W base ok (.slice (some ⟨g, 0, none⟩) n cap) xs) : HoldsK encS 2 W g 0 xs.toArray := by
  obtain ⟨cur, hh, hn, hc, hcm, hcs, hg, hok, hcell⟩ := row_cells h
  intro t ht
  rw [size_flatK] at ht
  have ht2 : t / 2 < xs.length := by simp at ht; omega
  obtain ⟨c0, c1⟩ := hcell (t / 2) _ (List.getElem?_eq_getElem ht2)
  refine ⟨?_, ?_⟩
  · rw [get_flatK _ _ _ _ ht]
    have e : (xs.toArray)[t / 2]! = xs[t / 2] := by simp [ht2]
    rw [e]
    generalize xs[t / 2] = p at c0 c1
    simp only [World.cell?, hh, Option.isSome_none, Bool.false_eq_true, if_false, Nat.zero_add, id]
    rcases Nat.mod_two_eq_zero_or_one t with hm | hm
    · rw [show t / 2 * 2 = t from by omega] at c0
      rw [hm, c0]; rfl
    · rw [show t / 2 * 2 + 1 = t from by omega] at c1
      rw [hm, c1]; rfl
  · exact blk_frozen hh _

theorem row_of_cells {W : World} {base g cap : Nat} {ok : Nat → Prop} {cur : Array Value} {ys : List S23} (hh : W.heap[g]? = some (.cells cur 23 (0, 0))) (hn : ys.length ≤ cap) (hcm : cap ≤ maxLen) (hcs : cur.size = cap * 2) (hg : base ≤ g) (hok : ok g)
    (hcell : ∀ j p, ys[j]? = some p → cur[j * 2]? = some (.int .i64 p.f0) ∧ cur[j * 2 + 1]? = some (.int .i64 p.f1)) : Kd.R k23 23 W base ok (.slice (some ⟨g, 0, none⟩) ys.length cap) ys := by
  refine ⟨fun k hk => ?_, cur.toList.take (ys.length * 2), ⟨?_, .inr ⟨g, cap, cur, rfl, hg, hh, hn, hcm, hcs, rfl⟩⟩, ?_, fun j p hj => ?_⟩
  · have : g = k := by simpa [Value.ownBlock] using hk
    subst this; exact hok
  · show (cur.toList.take (ys.length * 2)).length = ys.length * 2
    rw [List.length_take, show cur.toList.length = cap * 2 from hcs]; omega
  · show (cur.toList.take (ys.length * 2)).length = ys.length * 2
    rw [List.length_take, show cur.toList.length = cap * 2 from hcs]; omega
  · obtain ⟨c0, c1⟩ := hcell j p hj
    obtain ⟨hjl, _⟩ := List.getElem?_eq_some_iff.1 hj
    have e : ((cur.toList.take (ys.length * 2)).drop (j * 2)).take 2 = [.int .i64 p.f0, .int .i64 p.f1] := by
      apply List.ext_getElem?
      intro q
      rcases q with _ | _ | q
      · simp only [List.getElem?_take, List.getElem?_drop, Array.getElem?_toList, Nat.add_zero, c0]
        rw [if_pos (by omega), if_pos (by omega)]; rfl
      · simp only [List.getElem?_take, List.getElem?_drop, Array.getElem?_toList, c1]
        rw [if_pos (by omega), if_pos (by omega)]; rfl
      · simp [List.getElem?_take]; omega
    show k23.M W base _ p (((cur.toList.take (ys.length * 2)).drop (j * 2)).take 2)
    rw [e]
    exact k23_mkM _ _ _ _
theorem row_of_sort {W : World} {base g n cap : Nat} {ok : Nat → Prop} {xs : List S23} (h : Kd.R k23 23 W base ok (.slice (some ⟨g, 0, none⟩) n cap) xs) (d' : Array S23) (hs : d'.size = xs.length) (m : Nat) (os : Array Obj) :
    Kd.R k23 23 (sortWorldK encS 2 W g 0 m d' os) base ok (.slice (some ⟨g, 0, none⟩) n cap) d'.toList ∧ W.grownBy (sortWorldK encS 2 W g 0 m d' os) (some g) := by
  have hH := holds_of_row h
  obtain ⟨cur, hh, hn, hc, hcm, hcs, hg, hok, hcell⟩ := row_cells h
  have hblk : g < W.heap.size := blk_lt hh
  have hH' := holdsK_sortWorldK_c encS 2 W g 0 xs.toArray d' m os hH hblk (by simpa using hs)
  have hb : (sortWorldK encS 2 W g 0 m d' os).heap[g]? = some (.cells (putCells id 0 (flatK encS 2 d') cur) 23 (0, 0)) := by
    simp only [sortWorldK, grow, putRowK, putRow, mapBlock, Sort.ahead]
    rw [Array.getElem?_append_left (by simpa using hblk), Array.getElem?_modify, if_pos rfl, hh]
    rfl
  refine ⟨?_, ?_⟩
  · have hnd : n = d'.toList.length := by simp [hs, hn]
    subst hnd
    refine row_of_cells hb hc hcm (by simp [putCells, hcs]) hg hok fun j p hj => ?_
    obtain ⟨hjl, he⟩ := List.getElem?_eq_some_iff.1 hj
    have hjd : j < d'.size := by simpa using hjl
    have hp : d'[j]! = p := by rw [getElem!_pos d' j hjd]; simpa using he
    have f0 := (hH' (j * 2) (by rw [size_flatK]; omega)).1
    have f1 := (hH' (j * 2 + 1) (by rw [size_flatK]; omega)).1
    rw [get_flatK _ _ _ _ (by omega), show j * 2 / 2 = j from by omega, show j * 2 % 2 = 0 from by omega, hp] at f0
    rw [get_flatK _ _ _ _ (by omega), show (j * 2 + 1) / 2 = j from by omega, show (j * 2 + 1) % 2 = 1 from by omega, hp] at f1
    simp only [World.cell?, hb, Option.isSome_none, Bool.false_eq_true, if_false, Nat.zero_add, id] at f0 f1
    exact ⟨f0, f1⟩
  · refine ⟨rfl, rfl, rfl, size_sortWorldK_c encS 2 W g 0 m d' os, fun k hk hne => ?_⟩
    have hkg : g ≠ k := fun e => hne (by rw [e])
    simp only [sortWorldK, grow, putRowK, putRow, mapBlock, Sort.ahead]
    rw [Array.getElem?_append_left (by simpa using hk), Array.getElem?_modify, if_neg hkg]
/-- Is a stamp ahead of another one, as a plain fact. -/
def ltS (x y : S23) : Prop := x.f0 < y.f0 ∨ (x.f0 = y.f0 ∧ x.f1 < y.f1)
instance decLtS (x y : S23) : Decidable (ltS x y) := inferInstanceAs (Decidable (_ ∨ _))
theorem extS {x y : S23} (h0 : x.f0 = y.f0) (h1 : x.f1 = y.f1) : x = y := by cases x; cases y; simp_all
instance decS : DecidableEq S23 := fun x y => if h : x.f0 = y.f0 ∧ x.f1 = y.f1 then isTrue (extS h.1 h.2) else isFalse (fun e => h (by rw [e]; exact ⟨rfl, rfl⟩))
theorem ltS_irrefl (x : S23) : ¬ ltS x x := by unfold ltS; omega
theorem ltS_trans {x y z : S23} (h : ltS x y) (k : ltS y z) : ltS x z := by unfold ltS at *; omega
theorem ltS_total (x y : S23) : ltS x y ∨ x = y ∨ ltS y x := by
  by_cases h : x = y
  · exact .inr (.inl h)
  · have : ¬ (x.f0 = y.f0 ∧ x.f1 = y.f1) := fun e => h (extS e.1 e.2)
    unfold ltS; omega
/-- A stamp at its place in a rising list. -/
def putS (x : S23) : List S23 → List S23
  | [] => [x]
  | y :: r => if x = y then y :: r else if ltS x y then x :: y :: r else y :: putS x r
/-- Stamps in order, each once. -/
def srtS (l : List S23) : List S23 := l.foldl (fun a x => putS x a) []
def Rises (l : List S23) : Prop := l.Pairwise ltS
theorem mem_putS (x z : S23) : ∀ l, z ∈ putS x l ↔ z = x ∨ z ∈ l
  | [] => by simp [putS]
  | y :: r => by
    unfold putS
    by_cases h : x = y
    · rw [if_pos h]; subst h; simp
    · rw [if_neg h]
      by_cases h2 : ltS x y
      · rw [if_pos h2]; simp
      · rw [if_neg h2, List.mem_cons, mem_putS x z r, List.mem_cons]
        constructor
        · rintro (h | h | h) <;> simp [h]
        · rintro (h | h | h) <;> simp [h]
theorem rises_putS (x : S23) : ∀ l, Rises l → Rises (putS x l)
  | [], _ => by simp [putS, Rises]
  | y :: r, h => by
    unfold putS
    have h' := List.pairwise_cons.1 h
    by_cases e : x = y
    · rw [if_pos e]; exact h
    · rw [if_neg e]
      by_cases h2 : ltS x y
      · rw [if_pos h2]
        refine List.pairwise_cons.2 ⟨fun z hz => ?_, h⟩
        rcases List.mem_cons.1 hz with rfl | hz
        · exact h2
        · exact ltS_trans h2 (h'.1 z hz)
      · rw [if_neg h2]
        refine List.pairwise_cons.2 ⟨fun z hz => ?_, rises_putS x r h'.2⟩
        rcases (mem_putS x z r).1 hz with rfl | hz
        · rcases ltS_total z y with k | k | k
          · exact absurd k h2
          · exact absurd k e
          · exact k
        · exact h'.1 z hz
theorem foldl_putS (l : List S23) : ∀ a, Rises a → Rises (l.foldl (fun a x => putS x a) a) ∧ ∀ z, z ∈ l.foldl (fun a x => putS x a) a ↔ z ∈ a ∨ z ∈ l := by
  induction l with
  | nil => intro a h; simp [h]
  | cons x r ih =>
    intro a h
    obtain ⟨h1, h2⟩ := ih (putS x a) (rises_putS x a h)
    refine ⟨h1, fun z => ?_⟩
    simp only [List.foldl_cons]
    rw [h2, mem_putS, List.mem_cons]
    constructor
    · rintro ((h | h) | h) <;> simp [h]
    · rintro (h | h | h) <;> simp [h]
theorem rises_srtS (l : List S23) : Rises (srtS l) := (foldl_putS l [] List.Pairwise.nil).1
theorem mem_srtS (l : List S23) (z : S23) : z ∈ srtS l ↔ z ∈ l := by have := (foldl_putS l [] List.Pairwise.nil).2 z; simpa [srtS] using this
theorem rises_ext : ∀ {a b : List S23}, Rises a → Rises b → (∀ z, z ∈ a ↔ z ∈ b) → a = b
  | [], [], _, _, _ => rfl
  | [], y :: s, _, _, h => by have := (h y).2 (by simp); simp at this
  | x :: r, [], _, _, h => by have := (h x).1 (by simp); simp at this
  | x :: r, y :: s, ha, hb, h => by
    have ha' := List.pairwise_cons.1 ha
    have hb' := List.pairwise_cons.1 hb
    have e : x = y := by
      have h1 := (h x).1 (by simp)
      have h2 := (h y).2 (by simp)
      rcases List.mem_cons.1 h1 with e | h1
      · exact e
      · rcases List.mem_cons.1 h2 with e | h2
        · exact e.symm
        · exact absurd (ltS_trans (ha'.1 y h2) (hb'.1 x h1)) (ltS_irrefl x)
    subst e
    have hr : r = s := rises_ext ha'.2 hb'.2 fun z => by
      have hz := h z
      simp only [List.mem_cons] at hz
      constructor
      · intro m
        rcases hz.1 (.inr m) with e | m'
        · subst e; exact absurd (ha'.1 z m) (ltS_irrefl z)
        · exact m'
      · intro m
        rcases hz.2 (.inr m) with e | m'
        · subst e; exact absurd (hb'.1 z m) (ltS_irrefl z)
        · exact m'
    rw [hr]
theorem length_putS (x : S23) : ∀ l, (putS x l).length ≤ l.length + 1
  | [] => by simp [putS]
  | y :: r => by
    unfold putS
    split
    · simp
    · split
      · simp
      · have := length_putS x r; simp; omega
theorem length_foldS (l : List S23) : ∀ a, (l.foldl (fun a x => putS x a) a).length ≤ a.length + l.length := by
  induction l with
  | nil => simp
  | cons x r ih => intro a; have h1 := ih (putS x a); have h2 := length_putS x a; simp only [List.foldl_cons, List.length_cons]; omega
theorem length_srtS (l : List S23) : (srtS l).length ≤ l.length := by have := length_foldS l []; simpa [srtS] using this
theorem compact_rises (d : Array S23) (hs : SortedIn (ltOf cfS) 0 d.size d) : ∀ m, m ≤ d.size → Rises (compactUpTo d m) ∧ ∀ z, z ∈ compactUpTo d m ↔ ∃ j, j < m ∧ d[j]! = z
  | 0, _ => by simp [compactUpTo, Rises]
  | m + 1, hm => by
    obtain ⟨h1, h2⟩ := compact_rises d hs m (by omega)
    have hle : ∀ j, j < m → ∀ k, j ≤ k → k < d.size → ltS d[j]! d[k]! ∨ d[j]! = d[k]! := fun j hj k hjk hk => by
      by_cases e : j = k
      · subst e; exact .inr rfl
      · have := hs j k (Nat.zero_le _) (by omega) hk
        rw [lt_cfS] at this
        rcases ltS_total d[j]! d[k]! with t | t | t
        · exact .inl t
        · exact .inr t
        · exact absurd t (by simpa [ltS] using this)
    rw [compactUpTo_succ]
    by_cases hk : keeps d m = true
    · rw [if_pos hk]
      have hk' : m = 0 ∨ d[m]! ≠ d[m - 1]! := by simpa [keeps] using hk
      refine ⟨List.pairwise_append.2 ⟨h1, by simp, fun x hx y hy => ?_⟩, fun z => ?_⟩
      · obtain ⟨j, hj, rfl⟩ := (h2 x).1 hx
        obtain rfl : y = d[m]! := by simpa using hy
        have hne := hk'.resolve_left (by omega)
        have a := hle j hj (m - 1) (by omega) (by omega)
        have b := hle (m - 1) (by omega) m (by omega) (by omega)
        have b' : ltS d[m - 1]! d[m]! := b.resolve_right (fun e => hne e.symm)
        rcases a with a | a
        · exact ltS_trans a b'
        · rw [a]; exact b'
      · rw [List.mem_append, h2]
        constructor
        · rintro (⟨j, hj, rfl⟩ | hz)
          · exact ⟨j, by omega, rfl⟩
          · exact ⟨m, by omega, (List.mem_singleton.1 hz).symm⟩
        · rintro ⟨j, hj, rfl⟩
          by_cases e : j = m
          · subst e; exact .inr (by simp)
          · exact .inl ⟨j, by omega, rfl⟩
    · rw [if_neg hk, List.append_nil]
      have hk' : ¬ (m = 0 ∨ d[m]! ≠ d[m - 1]!) := by simpa [keeps] using hk
      have hm0 : m ≠ 0 := fun e => hk' (.inl e)
      have he : d[m]! = d[m - 1]! := Classical.not_not.1 fun e => hk' (.inr e)
      refine ⟨h1, fun z => ?_⟩
      rw [h2]
      constructor
      · rintro ⟨j, hj, rfl⟩; exact ⟨j, by omega, rfl⟩
      · rintro ⟨j, hj, rfl⟩
        by_cases e : j = m
        · subst e; exact ⟨j - 1, by omega, he.symm⟩
        · exact ⟨j, by omega, rfl⟩
/-- Whatever the sort's order among equals: what is sorted and made single is the one rising list. -/
theorem compact_srtS (xs : List S23) (d : Array S23) (hp : PermIn 0 xs.toArray.size xs.toArray d) (hs : SortedIn (ltOf cfS) 0 xs.toArray.size d) : compactUpTo d d.size = srtS xs := by
  obtain ⟨h1, _, h3⟩ := hp
  have hsz : d.size = xs.toArray.size := h1
  rw [← hsz] at hs
  obtain ⟨a, b⟩ := compact_rises d hs d.size (Nat.le_refl _)
  refine rises_ext a (rises_srtS xs) fun z => ?_
  rw [b, mem_srtS]
  have hm : z ∈ d.toList ↔ z ∈ xs := by
    have := h3.mem_iff (a := z)
    rw [← hsz, Array.extract_size] at this
    rw [hsz] at this
    simpa using this
  rw [← hm, List.mem_iff_getElem]
  constructor
  · rintro ⟨j, hj, rfl⟩; exact ⟨j, by simpa using hj, by simp [hj]⟩
  · rintro ⟨j, hj, rfl⟩
    have hj' : j < d.size := by simpa using hj
    exact ⟨j, by simpa using hj, by simp [hj']⟩
/-! ### slices.Compact at stamps: function 40 -/
theorem run_clear2 (w : World) (g o n c : Nat) (hn : 0 < n) (ty : TypeId) (hc : ∀ j, j < n * 2 → (w.cell? ⟨g, o + j, none⟩).isSome = true) (hf : ∀ j, j < n * 2 → w.frozen? ⟨g, o + j, none⟩ = false) :
    (Builtin.clear_ #[44] ty #[.slice (some ⟨g, o, none⟩) n c]).run Try.prog w = .ok (.tuple #[]) (w.setCells g o (List.replicate (n * 2) (.int .i64 0))) := by
  have hv : ∀ w, (zeroValue 23).run Try.prog w = .ok (.agg #[.int .i64 0, .int .i64 0]) w := fun w => by kernel_rfl
  have hzc : (Builtin.zeroCells (Value.cells (.agg #[.int .i64 0, .int .i64 0])) n).toList = List.replicate (n * 2) (.int .i64 0) := by
    apply List.ext_getElem
    · simp [Builtin.zeroCells, Value.cells]
    · intro i h1 h2
      simp only [Builtin.zeroCells, Value.cells, List.getElem_replicate]
      rcases Nat.mod_two_eq_zero_or_one i with h | h <;> simp [h]
  have hst := run_storeCells_cells (P := Try.prog) g o (List.replicate (n * 2) (.int .i64 0)) 0 w (by simpa using hc) (by simpa using hf) (by intro v hv'; rw [List.eq_of_mem_replicate hv']; rfl)
  simp only [Nat.add_zero] at hst
  obtain ⟨m, rfl⟩ : ∃ m, n = m + 1 := ⟨n - 1, by omega⟩
  simp [Builtin.clear_, run_underlying Try.underlying44, hv, hzc, hst]
theorem setMany_stamp (d : Array S23) (i : Nat) (hi : i < d.size) (x : S23) : setMany (flatK encS 2 d) (i * 2) (encS x) = flatK encS 2 (d.setIfInBounds i x) := by
  refine ext_get! (by simp) fun t ht => ?_
  have ht' : t < d.size * 2 := by simpa using ht
  rw [get_setMany _ _ _ t (by simpa using ht'), get_flatK _ _ _ t ht', get_flatK _ _ _ t (by simpa using ht')]
  by_cases a : t / 2 = i
  · rw [if_pos (by simp only [encS, List.length_cons, List.length_nil]; omega), a]
    rw [show t - i * 2 = t % 2 from by omega]
    simp [hi]
  · rw [if_neg (by simp only [encS, List.length_cons, List.length_nil]; omega)]
    rw [getElem!_set_other d i (t / 2) x a]
theorem store2 {w wr : World} {q g : Nat} {dk : Array S23} {i : Nat} (hi : i < dk.size) (hwr : wr = putRowK encS 2 (Sort.ahead w q) g 0 dk) (x : S23) :
    ((wr.setCell ⟨g, i * 2, none⟩ (.int .i64 x.f0)).setCell ⟨g, i * 2 + 1, none⟩ (.int .i64 x.f1)).drew = putRowK encS 2 (Sort.ahead w (q + 1)) g 0 (dk.setIfInBounds i x) := by
  subst hwr
  have h := setCells_putRow (Sort.ahead w q) g 0 (encS x) (i * 2) (flatK encS 2 dk) (by simp [encS]; omega)
  rw [setMany_stamp dk i hi x, Nat.zero_add] at h
  have h2 : ((putRowK encS 2 (Sort.ahead w q) g 0 dk).setCell ⟨g, i * 2, none⟩ (.int .i64 x.f0)).setCell ⟨g, i * 2 + 1, none⟩ (.int .i64 x.f1) = putRowK encS 2 (Sort.ahead w q) g 0 (dk.setIfInBounds i x) := h
  rw [h2]
  rfl
theorem row_of_put {W : World} {base g n cap : Nat} {ok : Nat → Prop} {xs : List S23} (h : Kd.R k23 23 W base ok (.slice (some ⟨g, 0, none⟩) n cap) xs) (F : Array Value) (hF : F.size = xs.length * 2) (m : Nat) (ys : List S23) (hys : ys.length ≤ xs.length)
    (hFy : ∀ j p, ys[j]? = some p → F[j * 2]! = .int .i64 p.f0 ∧ F[j * 2 + 1]! = .int .i64 p.f1) :
    Kd.R k23 23 (putRow id (Sort.ahead W m) g 0 F) base ok (.slice (some ⟨g, 0, none⟩) ys.length cap) ys ∧ W.grownBy (putRow id (Sort.ahead W m) g 0 F) (some g) := by
  have hH := holds_of_row h
  obtain ⟨cur, hh, hn, hc, hcm, hcs, hg, hok, hcell⟩ := row_cells h
  have hblk : g < W.heap.size := blk_lt hh
  have hH' : Holds id (putRow id (Sort.ahead W m) g 0 F) g 0 F := holds_putRow id (Sort.ahead W m) g 0 (flatK encS 2 xs.toArray) F hH (by simp [hF])
  have hb : (putRow id (Sort.ahead W m) g 0 F).heap[g]? = some (.cells (putCells id 0 F cur) 23 (0, 0)) := by
    simp only [putRow, mapBlock, Sort.ahead]
    rw [Array.getElem?_modify, if_pos rfl, hh]
    rfl
  refine ⟨?_, ?_⟩
  · refine row_of_cells hb (by omega) hcm (by simp [putCells, hcs]) hg hok fun j p hj => ?_
    obtain ⟨hjl, he⟩ := List.getElem?_eq_some_iff.1 hj
    have f0 := (hH' (j * 2) (by omega)).1
    have f1 := (hH' (j * 2 + 1) (by omega)).1
    rw [(hFy j p hj).1] at f0
    rw [(hFy j p hj).2] at f1
    simp only [World.cell?, hb, Option.isSome_none, Bool.false_eq_true, if_false, Nat.zero_add, id] at f0 f1
    exact ⟨f0, f1⟩
  · refine ⟨rfl, rfl, rfl, by simp [putRow, mapBlock, Sort.ahead], fun k hk hne => ?_⟩
    have hkg : g ≠ k := fun e => hne (by rw [e])
    simp only [putRow, mapBlock, Sort.ahead]
    rw [Array.getElem?_modify, if_neg hkg]
def CompactPost (g cap base : Nat) (ok : Nat → Prop) (w : World) (L : List S23) (e : Ending) (w' : World) : Prop :=
  e = .returned (.slice (some ⟨g, 0, none⟩) L.length cap) ∧ Kd.R k23 23 w' base ok (.slice (some ⟨g, 0, none⟩) L.length cap) L ∧ w.grownBy w' (some g)
theorem compactPost_all {g cap base : Nat} {ok : Nat → Prop} {w : World} {d : Array S23} (hR : Kd.R k23 23 w base ok (.slice (some ⟨g, 0, none⟩) d.size cap) d.toList) (q : Nat) (hall : ∀ j, j < d.size → keeps d j = true) :
    CompactPost g cap base ok w (compactUpTo d d.size) (.returned (.slice (some ⟨g, 0, none⟩) d.size cap)) (w.drewN q) := by
  have e : compactUpTo d d.size = d.toList := by rw [compactUpTo_all d _ hall, range_map_get]
  rw [e]
  refine ⟨by simp, by simpa using Kd.R_drewN hR q, ⟨rfl, rfl, rfl, Nat.le_refl _, fun _ _ _ => rfl⟩⟩
theorem compactPost_cut {g cap base : Nat} {ok : Nat → Prop} {w wr : World} {d dk : Array S23} {kk q2 : Nat} (hR : Kd.R k23 23 w base ok (.slice (some ⟨g, 0, none⟩) d.size cap) d.toList) (hI : CompInv d d.size kk dk) (hwr : wr = putRowK encS 2 (Sort.ahead w q2) g 0 dk) :
    CompactPost g cap base ok w (compactUpTo d d.size) (.returned (.slice (some ⟨g, 0, none⟩) kk cap)) (wr.setCells g (kk * 2) (List.replicate ((d.size - kk) * 2) (.int .i64 0))) := by
  have hl := hI.len
  have hlt := hI.lt
  have hsz := hI.size
  subst hwr
  have h := setCells_putRow (Sort.ahead w q2) g 0 (List.replicate ((d.size - kk) * 2) (.int .i64 0)) (kk * 2) (flatK encS 2 dk) (by simp; omega)
  rw [Nat.zero_add] at h
  obtain ⟨r1, r2⟩ := row_of_put hR (setMany (flatK encS 2 dk) (kk * 2) (List.replicate ((d.size - kk) * 2) (.int .i64 0))) (by simp [hsz]) q2 (compactUpTo d d.size) (by rw [hl]; simp; omega) (fun j p hj => by
    have hjk : j < kk := by
      obtain ⟨hj', _⟩ := List.getElem?_eq_some_iff.1 hj
      omega
    have hp := hI.low j hjk
    rw [hj] at hp
    have hp' : p = dk[j]! := Option.some.inj hp
    subst hp'
    constructor
    · rw [get_setMany _ _ _ _ (by simp; omega), if_neg (by omega), get_flatK _ _ _ _ (by omega), show j * 2 / 2 = j from by omega, show j * 2 % 2 = 0 from by omega]; rfl
    · rw [get_setMany _ _ _ _ (by simp; omega), if_neg (by omega), get_flatK _ _ _ _ (by omega), show (j * 2 + 1) / 2 = j from by omega, show (j * 2 + 1) % 2 = 1 from by omega]; rfl)
  unfold CompactPost
  unfold putRowK
  rw [h, hl]
  rw [hl] at r1
  exact ⟨rfl, r1, r2⟩
set_option maxHeartbeats 4000000 in
set_option maxRecDepth 1000000 in
theorem compact_stamps {base : Nat} {ok : Nat → Prop} (g cap : Nat) (d : Array S23) (w : World) (hR : Kd.R k23 23 w base ok (.slice (some ⟨g, 0, none⟩) d.size cap) d.toList) :
    Calls Try.prog 84 #[.slice (some ⟨g, 0, none⟩) d.size cap] w (CompactPost g cap base ok w (compactUpTo d d.size)) := by
  have hH0 := holds_of_row hR
  simp only [Array.toArray_toList] at hH0
  obtain ⟨hcap, hsz⟩ : d.size ≤ cap ∧ cap ≤ 9223372036854775807 := by
    obtain ⟨_, _, _, h1, h2, _⟩ := row_cells hR
    exact ⟨h1, h2⟩
  have hH : ∀ i, i < d.size → w.cell? ⟨g, i * 2, none⟩ = some (.int .i64 d[i]!.f0) ∧ w.cell? ⟨g, i * 2 + 1, none⟩ = some (.int .i64 d[i]!.f1) := fun i hi => by
    have a := (hH0.cell (i := i) (c := 0) hi (by omega)).1
    have b := (hH0.cell (i := i) (c := 1) hi (by omega)).1
    simp only [Nat.zero_add, Nat.add_zero] at a b
    exact ⟨a, b⟩
  have hcells : ∀ {wr : World} {q2 : Nat} {dk : Array S23}, wr = putRowK encS 2 (Sort.ahead w q2) g 0 dk → dk.size = d.size → ∀ i, i < d.size → wr.cell? ⟨g, i * 2, none⟩ = some (.int .i64 dk[i]!.f0) ∧ wr.cell? ⟨g, i * 2 + 1, none⟩ = some (.int .i64 dk[i]!.f1) ∧ wr.frozen? ⟨g, i * 2, none⟩ = false ∧ wr.frozen? ⟨g, i * 2 + 1, none⟩ = false := fun {wr q2 dk} hw hs i hi => by
    have h : HoldsK encS 2 wr g 0 dk := by rw [hw]; exact holdsK_putRowK encS 2 _ g 0 d dk (holdsK_ahead encS 2 w q2 g 0 d hH0) hs
    have a := h.cell (i := i) (c := 0) (by omega) (by omega)
    have b := h.cell (i := i) (c := 1) (by omega) (by omega)
    simp only [Nat.zero_add, Nat.add_zero] at a b
    exact ⟨a.1, b.1, a.2, b.2⟩
  have HC := Aside0.mk @hcells
  clear hcells
  have HH := Aside0.mk hH0
  have HA := Aside0.mk hH
  have HR := Aside0.mk hR
  clear hH0 hH hR
  by_cases h2 : d.size < 2
  · go_enter Try.func84, Try.ntmps84
    go_wp2
    go_ret
    exact compactPost_all HR.out 0 (fun j hj => keeps_lt_one d j (by omega))
  · go_enter Try.func84, Try.ntmps84
    go_wp2
    go_loopg [3] d.size (fun g_ s3 wr => ∃ k q : Nat, 1 ≤ k ∧ k ≤ d.size ∧ d.size - k ≤ g_ ∧ s3 = .int .i64 k ∧ wr = w.drewN q ∧ Aside0 (∀ j, j < k → keeps d j = true))
    case atStart => exact ⟨1, 0, Nat.le_refl _, by omega, by omega, rfl, rfl, ⟨keeps_lt_one d⟩⟩
    case round =>
      obtain ⟨k, q, hk1, hk, hg, rfl, rfl, A⟩ := hrel
      by_cases hlt : k < d.size
      · obtain ⟨c0, c1⟩ := HA.out k hlt
        obtain ⟨p0, p1⟩ := HA.out (k - 1) (by omega)
        have HQ := Aside0.mk (show ∀ q, HoldsK encS 2 (w.drewN q) g 0 d from fun q => HH.out)
        obtain ⟨x, hx⟩ : ∃ x, x = d[k]! := ⟨_, rfl⟩
        obtain ⟨y, hy⟩ : ∃ y, y = d[k - 1]! := ⟨_, rfl⟩
        rw [← hx] at c0 c1
        rw [← hy] at p0 p1
        have B := Aside0.mk hx
        have C := Aside0.mk hy
        clear hx hy
        obtain ⟨x0, x1⟩ := x
        obtain ⟨y0, y1⟩ := y
        simp only at c0 c1 p0 p1
        by_cases hdup : x0 = y0 ∧ x1 = y1
        · obtain ⟨rfl, rfl⟩ := hdup
          go_wp2_with fail
          go_region
          go_wp2
          clear c0 c1 p0 p1
          go_loopg [3, 5] d.size (fun g_ s3 s5 wr => ∃ (kk k2 q2 : Nat) (dk : Array S23), s3 = .int .i64 kk ∧ s5 = .int .i64 k2 ∧ 1 ≤ k2 ∧ k + k2 ≤ d.size ∧ d.size - (k + k2) ≤ g_ ∧ Aside0 (wr = putRowK encS 2 (Sort.ahead w q2) g 0 dk) ∧ Aside0 (CompInv d (k + k2) kk dk))
          case atStart => exact ⟨k, 1, q + 1, d, rfl, rfl, Nat.le_refl _, by omega, by omega, ⟨(putRowK_self encS 2 (Sort.ahead w (q + 1)) g 0 d (HQ.out (q + 1))).symm⟩, ⟨CompInv.start A.out (keeps_neg (by omega) (by rw [← B.out, ← C.out]))⟩⟩
          case round =>
            obtain ⟨kk, k2, q2, dk, rfl, rfl, h1, hle, hg2, W2, I2⟩ := hrel
            have hkk := I2.out.lt
            by_cases hlt2 : k + k2 < d.size
            · have hHk := HC.out W2.out I2.out.size
              obtain ⟨m0, m1, _⟩ := hHk (k + k2) (by omega)
              obtain ⟨v0, v1, _⟩ := hHk (k + k2 - 1) (by omega)
              obtain ⟨k0, k1, f0, f1⟩ := hHk kk (by omega)
              rw [I2.out.high (k + k2) (by omega), Nat.add_mul] at m0 m1
              rw [I2.out.high (k + k2 - 1) (by omega), show (k + k2 - 1) * 2 = k * 2 + (k2 - 1) * 2 by omega] at v0 v1
              clear hHk
              obtain ⟨u, hu⟩ : ∃ u, u = d[k + k2]! := ⟨_, rfl⟩
              obtain ⟨v, hv⟩ : ∃ v, v = d[k + k2 - 1]! := ⟨_, rfl⟩
              rw [← hu] at m0 m1
              rw [← hv] at v0 v1
              generalize dk[kk]! = old at k0 k1
              have D := Aside0.mk hu
              have E := Aside0.mk hv
              clear hu hv
              obtain ⟨u0, u1⟩ := u
              obtain ⟨y0, y1⟩ := v
              obtain ⟨o0, o1⟩ := old
              simp only at m0 m1 v0 v1 k0 k1
              by_cases huv : u0 = y0 ∧ u1 = y1
              · obtain ⟨rfl, rfl⟩ := huv
                go_wp2_with fail
                go_region
                go_wp2
                go_roundg (d.size - (k + (k2 + 1)))
                case measure => omega
                case rel => exact ⟨kk, k2 + 1, q2 + 1, dk, rfl, by go_num, by omega, by omega, Nat.le_refl _, ⟨by rw [W2.out]; rfl⟩, ⟨I2.out.skip (keeps_neg (by omega) (by rw [← D.out, ← E.out]))⟩⟩
              · have hne : ((u0 == y0) && (u1 == y1)) = false := by
                  by_cases a : u0 = y0
                  · have b : u1 ≠ y1 := fun b => huv ⟨a, b⟩
                    simp [b]
                  · simp [a]
                have hne2 : (!(u0 == y0) || !(u1 == y1)) = true := by
                  rw [← Bool.not_and, hne]; rfl
                have HUV := Aside0.mk huv
                clear huv
                go_wp2_with fail
                go_region
                go_wp2
                go_roundg (d.size - (k + (k2 + 1)))
                case measure => omega
                case rel => exact ⟨kk + 1, k2 + 1, q2 + 1, dk.setIfInBounds kk ⟨u0, u1⟩, by go_num, by go_num, by omega, by omega, Nat.le_refl _, ⟨store2 (by have := I2.out.size; omega) W2.out ⟨u0, u1⟩⟩, ⟨by
                  have h := I2.out.keep hlt2 (keeps_pos (by
                    rw [← D.out, ← E.out]
                    intro e
                    simp only [S23.mk.injEq] at e
                    exact HUV.out e))
                  rwa [← D.out] at h⟩⟩
            · have hend : k + k2 = d.size := by omega
              have hHk := HC.out W2.out I2.out.size
              have hI := I2.out
              rw [hend] at hI
              have HP := Aside0.mk (compactPost_cut HR.out hI W2.out)
              have hcl : ∀ ty, (Builtin.clear_ #[44] ty #[.slice (some ⟨g, kk * 2, none⟩) (d.size - kk) (cap - kk)]).run Try.prog wr = .ok (.tuple #[]) (wr.setCells g (kk * 2) (List.replicate ((d.size - kk) * 2) (.int .i64 0))) := fun ty =>
                run_clear2 wr g (kk * 2) (d.size - kk) (cap - kk) (by omega) ty (fun j hj => by
                  obtain ⟨a, b, _⟩ := hHk (kk + j / 2) (by omega)
                  rcases Nat.mod_two_eq_zero_or_one j with h | h
                  · rw [show kk * 2 + j = (kk + j / 2) * 2 from by omega, a]; rfl
                  · rw [show kk * 2 + j = (kk + j / 2) * 2 + 1 from by omega, b]; rfl) (fun j hj => by
                  obtain ⟨_, _, a, b⟩ := hHk (kk + j / 2) (by omega)
                  rcases Nat.mod_two_eq_zero_or_one j with h | h
                  · rw [show kk * 2 + j = (kk + j / 2) * 2 from by omega, a]
                  · rw [show kk * 2 + j = (kk + j / 2) * 2 + 1 from by omega, b])
              clear hHk hI
              go_wp2
              go_ret
              exact HP.out
        · have hne : ((x0 == y0) && (x1 == y1)) = false := by
            by_cases a : x0 = y0
            · have b : x1 ≠ y1 := fun b => hdup ⟨a, b⟩
              simp [b]
            · simp [a]
          have HD := Aside0.mk hdup
          clear hdup
          go_wp2_with fail
          go_region
          go_wp2
          go_roundg (d.size - (k + 1))
          case measure => omega
          case rel =>
            refine ⟨k + 1, q + 1, by omega, by omega, Nat.le_refl _, by go_num, rfl, ⟨fun j hj => ?_⟩⟩
            by_cases e : j = k
            · subst e
              refine keeps_pos ?_
              rw [← B.out, ← C.out]
              intro e
              simp only [S23.mk.injEq] at e
              exact HD.out e
            · exact A.out j (by omega)
      · have : k = d.size := by omega
        subst this
        go_wp2
        go_ret
        exact compactPost_all HR.out q A.out
theorem row_empty (w : World) (base : Nat) (hb : base ≤ w.heap.size) : Kd.R k23 23 (w.alloc (.cells #[] 23)) base (fun _ => True) (.slice (some ⟨w.heap.size, 0, none⟩) 0 0) [] :=
  row_of_cells (cap := 0) (cur := #[]) (ys := []) (blk_new w _) (Nat.le_refl _) (by unfold maxLen; omega) rfl hb trivial (fun j p h => by simp at h)
theorem row_some {W : World} {base : Nat} {ok : Nat → Prop} {v : Value} {xs : List S23} (h : Kd.R k23 23 W base ok v xs) {b : Nat} (hv : v.ownBlock = some b) : ∃ cap, v = .slice (some ⟨b, 0, none⟩) xs.length cap := by
  obtain ⟨inner, ho⟩ := Kd.R_own h
  rcases ho.2 with ⟨rfl, _⟩ | ⟨g, cap, cur, rfl, _⟩
  · simp [Value.ownBlock] at hv
  · have : g = b := by simpa [Value.ownBlock] using hv
    subst this
    exact ⟨cap, rfl⟩
set_option maxHeartbeats 1000000 in
set_option maxRecDepth 100000 in
theorem rising_calls (A0 : Option Addr) (c0 : Nat) (l0 : List S23) (w : World) (hr0 : Kd.C k23 w A0 l0.length l0) (hc0 : l0.length ≤ c0) (hl : l0.length < 8796093022208) :
    Calls Try.prog 59 #[.slice A0 l0.length c0] w fun e w' => ∃ vs g, e = .returned (.func (.func 85) #[] #[.pointer (some ⟨g, 0, none⟩)]) ∧ Kd.R k23 23 w' w.heap.size (fun k => k ≠ g) vs (srtS l0) ∧ w'.heap[g]? = some (.cells #[vs] 44 (0, 0)) ∧ w.heap.size ≤ g ∧ Below w.heap.size w w' := by
  have HR0 := Aside0.mk hr0
  have HC0 := Aside0.mk hc0
  clear hr0 hc0
  go_enter Try.func59, Try.ntmps59
  go_wp2_with ((with_reducible refine gate_builtin (b := .append) (xs := #[.tmp 4, .tmp 5]) rfl ?_); at_builtin; refine Kd.R_append_rows k23 (w0 := w) w.heap.size rfl (.tmp 4) (.tmp 5) 44 23 (.agg #[.int .i64 0, .int .i64 0]) 16 rfl Try.underlying44 info23 rfl (by decide) (by omega) (.slice (some ⟨w.heap.size, 0, none⟩) 0 0) [] l0 _ _ _ (fun _ => True) (fun _ => False) rfl rfl (row_empty w w.heap.size (Nat.le_refl _)) (Kd.C_alloc HR0.out _) (fun _ _ h => h) (fun _ h => h.elim) (fun _ _ => trivial) (below_alloc (Below.refl _ _) _) (by simp) (by simp; omega) ?_; intro v1 w1 hR1 hB1 hg1 hat1; rw [List.nil_append] at hR1; obtain ⟨b1, hb1⟩ : ∃ b, v1.ownBlock = some b := hat1.elim (fun h => ⟨_, h⟩) (fun ⟨b, h, _⟩ => ⟨b, h⟩); obtain ⟨cap1, rfl⟩ := row_some hR1 hb1; clear hat1 hb1; have q1 := blk_cell (blk_new w1 (.cells #[.slice none 0 0] 44)) 0; have q2 := blk_frozen (blk_new w1 (.cells #[.slice none 0 0] 44)) 0)
  obtain ⟨_, hh1, _, _, _, _, hge1, _⟩ := row_cells hR1
  have hlt1 : b1 < w1.heap.size := blk_lt hh1
  clear hh1
  have h2 := Kd.R_alloc hR1 (.cells #[.slice (some ⟨b1, 0, none⟩) l0.length cap1] 44)
  have hb2 := blk_new w1 (.cells #[.slice (some ⟨b1, 0, none⟩) l0.length cap1] 44)
  have hB2 := below_alloc hB1 (.cells #[.slice (some ⟨b1, 0, none⟩) l0.length cap1] 44)
  have hge : w.heap.size ≤ w1.heap.size := hB1.size
  have HS := sort_stamps b1 cap1 l0.toArray (w1.alloc (.cells #[.slice (some ⟨b1, 0, none⟩) l0.length cap1] 44)) (holds_of_row h2) (by simp; omega) (by simp; omega)
  simp only [List.size_toArray] at HS
  refine HS.mono ?_
  rintro e w' ⟨rfl, d, n, os, hp, hs, rfl⟩
  have hsz : d.size = l0.length := by simpa using hp.1
  obtain ⟨h3, hg3⟩ := row_of_sort h2 d hsz n os
  have hB3 := hB2.grown hg3 hB2.size (fun k e => by cases e; exact hge1)
  have hb3 := blk_grown hb2 hg3 (fun e => by simp only [Option.some.injEq] at e; omega)
  have hcs := compact_srtS l0 d (by simpa using hp) (by simpa using hs)
  generalize sortWorldK encS 2 (w1.alloc (.cells #[.slice (some ⟨b1, 0, none⟩) l0.length cap1] 44)) b1 0 n d os = W3 at h3 hg3 hB3 hb3 ⊢
  rw [← hsz] at h3 hb3 ⊢
  have HH3 := Aside0.mk h3
  have HB3 := Aside0.mk hB3
  have HE3 := Aside0.mk hb3
  have HCS := Aside0.mk hcs
  have hc3 := blk_cell hb3 0
  have hf3 := blk_frozen hb3 0
  clear HS h2 hb2 hB2 hg3 hcs hB1 hg1 q1 q2 hR1 h3 hB3 hb3 hp hs hsz
  go_wp2_with (go_at_call 84; refine (compact_stamps b1 cap1 d W3 HH3.out).mono ?_; rintro e W4 ⟨rfl, h4, hg4⟩; have hb4 := blk_grown HE3.out hg4 (fun e => by simp only [Option.some.injEq] at e; omega); have hc4 := blk_cell hb4 0; have hf4 := blk_frozen hb4 0; have HB4 := Aside0.mk (HB3.out.grown hg4 HB3.out.size (fun k e => by cases e; exact hge1)); have H4 := Aside0.mk h4; have HE4 := Aside0.mk hb4; clear h4 hg4 hb4)
  go_ret
  refine ⟨_, _, rfl, ?_, blk_put (cs := #[.slice (some ⟨b1, 0, none⟩) d.size cap1]) HE4.out 0 _ rfl, hge, HB4.out.setCell (p := ⟨w1.heap.size, 0, none⟩) hge _⟩
  rw [← HCS.out]
  exact Kd.R_mono (Kd.R_far (p := ⟨w1.heap.size, 0, none⟩) (Kd.R_types H4.out HE4.out (by decide)) (fun _ hk => hk.2) _) (fun _ hk => hk.2)
section
attribute [local go_sem] Oper.semAt_some
set_option maxHeartbeats 2000000 in
set_option maxRecDepth 100000 in
theorem goes1_in (n : Nat) (hn : 1 ≤ n) (l g base : Nat) (v : Value) (xs : List S23) (hlen : xs.length ≤ 8796093022208) (J Jx : List S23 → World → Prop)
    (hY : ∀ pre x W, J pre W → pre.length < xs.length → YieldAt Fence.wide (n - 1) Try.prog l #[.agg #[.int .i64 x.f0, .int .i64 x.f1]] W fun e W' =>
      (e = .returned (.bool true) ∧ J (pre ++ [x]) W' ∧ SeqKeeps g v W W') ∨ (e = .returned (.bool false) ∧ Jx (pre ++ [x]) W'))
    (W : World) (hJ : AbidesFrom W.heap.size J) (hbox : W.heap[g]? = some (.cells #[v] 44 (0, 0))) (hrow : Kd.R k23 23 W base (fun k => k ≠ g) v xs) (h0 : J [] W) :
    CallsIn Fence.wide n Try.prog 85 #[.func (.yield l) #[] #[], .pointer (some ⟨g, 0, none⟩)] W fun e W' => (∃ v, e = .returned v) ∧
      ((∃ ys, ys = xs ∧ J ys W') ∨ (∃ pre, pre <+: xs ∧ Jx pre W')) := by
  refine callsIn_of_wp Try.func85 rfl trivial ?_ rfl
  simp only [Try.ntmps85, List.size_toArray, List.length_cons, List.length_nil, Nat.reduceAdd, Nat.reduceSub, Array.replicate_succ, Array.replicate_zero, List.push_toArray, List.append_toArray, List.nil_append, List.cons_append]
  obtain ⟨A, c, hv, hc, hC⟩ := Kd.R_reads hrow
  subst hv
  have hb0 := blk_cell hbox 0
  gi_wp2
  gi_loopw [7] (fun i wr => ∃ k : Nat, k ≤ xs.length ∧ i = .int .i64 (k : Int) ∧ J (xs.take k) wr ∧ SeqKeeps g (.slice A xs.length c) W wr) (fun i _ => xs.length - (intOf i).toNat)
  case atStart => exact ⟨0, Nat.zero_le _, rfl, h0, SeqKeeps.refl _ _ _⟩
  case round =>
    obtain ⟨k, hk, rfl, hJk, hK⟩ := hrel
    by_cases hlt : k < xs.length
    · obtain ⟨gb, cp, he, _⟩ := Kd.R_form hrow (by omega)
      have hg1 : xs.take (k + 1) = xs.take k ++ [rd_T23 xs (k : Int)] := by
        rw [List.take_succ_eq_append_getElem hlt]; simp [rd_T23, List.getD_eq_getElem?_getD, hlt]
      obtain ⟨ad, hA, x0, x1⟩ := at_T23 hC (k : Int) (by omega) (by omega)
      subst hA
      simp only [Value.slice.injEq, Option.some.injEq] at he
      obtain ⟨rfl, _, rfl⟩ := he
      have hrb : wr.heap[gb]? = W.heap[gb]? := hK.2.2 gb rfl
      have hkk : ((⟨gb, 0, none⟩ : Addr).add ((k : Int).toNat * 2)) = ⟨gb, k * 2, none⟩ := by rw [add_at_, Int.toNat_natCast]
      rw [hkk] at x0 x1
      simp only at x1
      have y0 := (cell_of_heap hrb).trans x0
      have y1 := (cell_of_heap hrb).trans x1
      have hgl : g < wr.heap.size := blk_lt (hK.2.1.trans hbox)
      have hbl : ∀ b, (Value.slice (some ⟨gb, 0, none⟩) xs.length c).ownBlock = some b → b < wr.heap.size := fun b e => by
        have hlt' := Kd.R_lt hrow b e
        exact Nat.lt_of_lt_of_le hlt' hK.1
      have hJ1 := hJ (xs.take k) wr (wr.alloc (.cells #[.int .i64 (rd_T23 xs (k : Int)).f0, .int .i64 (rd_T23 xs (k : Int)).f1] 23)) none hJk (World.grownBy_alloc _ _ _) (fun r e => by cases e)
      obtain ⟨fn, tmps, assign, body, hy, hR⟩ := hY (xs.take k) (rd_T23 xs (k : Int)) _ hJ1 (by rw [List.length_take]; omega)
      have hKa := SeqKeeps.alloc hgl hbl (.cells #[.int .i64 (rd_T23 xs (k : Int)).f0, .int .i64 (rd_T23 xs (k : Int)).f1] 23)
      clear x0 x1 hb0 hC
      gi_wp2
      refine hR.mono ?_
      rintro e W3 (⟨rfl, hJ3, hk3⟩ | ⟨rfl, hJx3⟩)
      · gi_wp2
        go_roundw
        case rel => exact ⟨k + 1, by omega, by simp, by rw [hg1]; exact hJ3, (hK.trans hKa).trans hk3⟩
        case measure => simp [intOf]; omega
      · gi_wp2
        refine bodyPost_ret (results_none rfl _ _ _) rfl ?_
        exact ⟨⟨_, rfl⟩, .inr ⟨_, by rw [← hg1]; exact List.take_prefix _ _, hJx3⟩⟩
    · obtain rfl : k = xs.length := by omega
      gi_wp2
      go_end0
      exact ⟨⟨_, rfl⟩, .inl ⟨_, rfl, by rw [List.take_length] at hJk; exact hJk⟩⟩
theorem goes_stops (n : Nat) (hn : 1 ≤ n) (g base : Nat) (v : Value) (xs : List S23) (hlen : xs.length ≤ 8796093022208) (w : World) (hbox : w.heap[g]? = some (.cells #[v] 44 (0, 0))) (hrow : Kd.R k23 23 w base (fun k => k ≠ g) v xs) :
    SeqStopsK Fence.wide n Try.prog 85 #[.pointer (some ⟨g, 0, none⟩)] (fun x : S23 => #[.agg #[.int .i64 x.f0, .int .i64 x.f1]]) (SeqKeeps g v) (fun ys => ys = xs) (fun pre => pre <+: xs) xs.length w := fun l J Jx W hW hJ _ hY h0 =>
  goes1_in n hn l g base v xs hlen J Jx hY W hJ (blk_below hbox hW) (Kd.R_below hrow hW) h0
end
end


end Go.Proofs.Ytaogeajjidnfgaa.QPatchTouches
