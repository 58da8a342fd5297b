/- The law's function on a nil replica, run by evaluation with open arguments: whatever they are, it answers 'true'. -/
import Derived.Test.YtfbeonkbemdaaaaGreatDoorProg
import Derived.Test.YtfbeonkbemdaaaaGreatDoorAw
import Derived.Test.YtfbeonkbemdaaaaGreatDoorRc
import Derived.Test.YtfbeonkbemdaaaaGreatDoorWWords
namespace Go.Proofs.YtfbeonkbemdaaaaGreatDoor.QReplicaNil
open Go Go.Run Go.RowKit
set_option linter.unusedVariables false
set_option linter.unusedSimpArgs false
def cfgN : Cfg := ⟨[], [(306, .same)], [16]⟩
theorem cfgN_ok : CfgOk Tryz.prog cfgN := ⟨keys_nil _, exts_cons same306 (exts_nil _), kns_cons awake_known (kns_nil _)⟩
set_option maxRecDepth 1000000 in
theorem run7 (k : Nat) (A B D : Option Addr) (n m o c d e : Nat) : isTrue (callA Tryz.prog cfgN 2000 3 11 [.agg #[.int .i64 (.ofNat (k + 7)), .chan (some 3), .chan (some 4), .chan (some 5), .chan (some 6), .chan (some 7), .chan (some 8), .chan (some 9), .slice A n c], .agg #[.slice B m d, .chan (some 10), .slice D o e]]) = true := by kernel_rfl
set_option maxRecDepth 1000000 in
theorem run8 (k : Nat) (A B D : Option Addr) (n m o c d e : Nat) : isTrue (callA Tryz.prog cfgN 2000 3 11 [.agg #[.int .i64 (.negSucc k), .chan (some 3), .chan (some 4), .chan (some 5), .chan (some 6), .chan (some 7), .chan (some 8), .chan (some 9), .slice A n c], .agg #[.slice B m d, .chan (some 10), .slice D o e]]) = true := by kernel_rfl
set_option maxRecDepth 1000000 in
theorem run0 (A B D : Option Addr) (n m o c d e : Nat) : isTrue (callA Tryz.prog cfgN 2000 3 11 [.agg #[.int .i64 (.ofNat 0), .chan (some 3), .chan (some 4), .chan (some 5), .chan (some 6), .chan (some 7), .chan (some 8), .chan (some 9), .slice A n c], .agg #[.slice B m d, .chan (some 10), .slice D o e]]) = true := by kernel_rfl
set_option maxRecDepth 1000000 in
theorem run1 (A B D : Option Addr) (n m o c d e : Nat) : isTrue (callA Tryz.prog cfgN 2000 3 11 [.agg #[.int .i64 (.ofNat 1), .chan (some 3), .chan (some 4), .chan (some 5), .chan (some 6), .chan (some 7), .chan (some 8), .chan (some 9), .slice A n c], .agg #[.slice B m d, .chan (some 10), .slice D o e]]) = true := by kernel_rfl
set_option maxRecDepth 1000000 in
theorem run2 (A B D : Option Addr) (n m o c d e : Nat) : isTrue (callA Tryz.prog cfgN 2000 3 11 [.agg #[.int .i64 (.ofNat 2), .chan (some 3), .chan (some 4), .chan (some 5), .chan (some 6), .chan (some 7), .chan (some 8), .chan (some 9), .slice A n c], .agg #[.slice B m d, .chan (some 10), .slice D o e]]) = true := by kernel_rfl
set_option maxRecDepth 1000000 in
theorem run3 (A B D : Option Addr) (n m o c d e : Nat) : isTrue (callA Tryz.prog cfgN 2000 3 11 [.agg #[.int .i64 (.ofNat 3), .chan (some 3), .chan (some 4), .chan (some 5), .chan (some 6), .chan (some 7), .chan (some 8), .chan (some 9), .slice A n c], .agg #[.slice B m d, .chan (some 10), .slice D o e]]) = true := by kernel_rfl
set_option maxRecDepth 1000000 in
theorem run4 (A B D : Option Addr) (n m o c d e : Nat) : isTrue (callA Tryz.prog cfgN 2000 3 11 [.agg #[.int .i64 (.ofNat 4), .chan (some 3), .chan (some 4), .chan (some 5), .chan (some 6), .chan (some 7), .chan (some 8), .chan (some 9), .slice A n c], .agg #[.slice B m d, .chan (some 10), .slice D o e]]) = true := by kernel_rfl
set_option maxRecDepth 1000000 in
theorem run5 (A B D : Option Addr) (n m o c d e : Nat) : isTrue (callA Tryz.prog cfgN 2000 3 11 [.agg #[.int .i64 (.ofNat 5), .chan (some 3), .chan (some 4), .chan (some 5), .chan (some 6), .chan (some 7), .chan (some 8), .chan (some 9), .slice A n c], .agg #[.slice B m d, .chan (some 10), .slice D o e]]) = true := by kernel_rfl
set_option maxRecDepth 1000000 in
theorem run6 (A B D : Option Addr) (n m o c d e : Nat) : isTrue (callA Tryz.prog cfgN 2000 3 11 [.agg #[.int .i64 (.ofNat 6), .chan (some 3), .chan (some 4), .chan (some 5), .chan (some 6), .chan (some 7), .chan (some 8), .chan (some 9), .slice A n c], .agg #[.slice B m d, .chan (some 10), .slice D o e]]) = true := by kernel_rfl
theorem run (k : Int) (A B D : Option Addr) (n m o c d e : Nat) : isTrue (callA Tryz.prog cfgN 2000 3 11 [.agg #[.int .i64 k, .chan (some 3), .chan (some 4), .chan (some 5), .chan (some 6), .chan (some 7), .chan (some 8), .chan (some 9), .slice A n c], .agg #[.slice B m d, .chan (some 10), .slice D o e]]) = true :=
  match k with
  | .ofNat 0 => run0 A B D n m o c d e
  | .ofNat 1 => run1 A B D n m o c d e
  | .ofNat 2 => run2 A B D n m o c d e
  | .ofNat 3 => run3 A B D n m o c d e
  | .ofNat 4 => run4 A B D n m o c d e
  | .ofNat 5 => run5 A B D n m o c d e
  | .ofNat 6 => run6 A B D n m o c d e
  | .ofNat (k + 7) => run7 k A B D n m o c d e
  | .negSucc k => run8 k A B D n m o c d e
def blk : Option Addr → Nat | some a => a.block | none => 0
def repA (k : Nat) (A : Option Addr) : Option Addr := match A with | some a => some ⟨k, a.off, a.spot⟩ | none => none
def repC (A : Option Addr) (c : Nat) : Nat := match A with | some _ => U | none => c
theorem rep_v (ρ : Rn) {k n c : Nat} {A : Option Addr} (hb : ρ.b k = blk A) (hc : ρ.c k = c) : ρ.v (.slice (repA k A) n (repC A c)) = .slice A n c := by
  cases A with
  | none => simp [repA, repC, Rn.v]
  | some a => simp [repA, repC, Rn.v, Rn.a, hb, hc, blk]
theorem rep_bd {k n c m : Nat} {A : Option Addr} (h : k < m) : bd m (.slice (repA k A) n (repC A c)) := by
  cases A with
  | none => simp [repA, bd]
  | some a => simpa [repA, bd] using h
theorem topiarylaw21_ReplicaNil.calls (k : Nat) (a0_0 a0_1 a0_2 a0_3 a0_4 a0_5 : Int) (a0_6 a0_7 : ByteArray) (A0_8 : Option Addr) (c0_8 : Nat) (n0_8 : Nat) (A1_0 : Option Addr) (c1_0 : Nat) (n1_0 : Nat) (a1_1 : Int) (A1_2 : Option Addr) (c1_2 : Nat) (n1_2 : Nat) (w : World) :
    Calls Tryz.prog 3 #[.agg #[.int .i64 a0_0, .int .i64 a0_1, .int .i64 a0_2, .int .i64 a0_3, .int .i64 a0_4, .int .i64 a0_5, .string a0_6, .string a0_7, .slice A0_8 n0_8 c0_8], .agg #[.slice A1_0 n1_0 c1_0, .int .i64 a1_1, .slice A1_2 n1_2 c1_2]] w fun e w' => e = .returned (.bool true) ∧ Below w.heap.size w w' := by
  obtain ⟨q3, e3⟩ := opn_int a0_1
  obtain ⟨q4, e4⟩ := opn_int a0_2
  obtain ⟨q5, e5⟩ := opn_int a0_3
  obtain ⟨q6, e6⟩ := opn_int a0_4
  obtain ⟨q7, e7⟩ := opn_int a0_5
  obtain ⟨q8, e8⟩ := opn_str a0_6
  obtain ⟨q9, e9⟩ := opn_str a0_7
  obtain ⟨q10, e10⟩ := opn_int a1_1
  obtain ⟨ρ, hρ⟩ : ∃ ρ : Rn, ρ = ⟨fun k => [blk A0_8, blk A1_0, blk A1_2].getD k 0, fun k => [c0_8, c1_0, c1_2, q3, q4, q5, q6, q7, q8, q9, q10].getD k 0⟩ := ⟨_, rfl⟩
  have f0 := rep_v ρ (k := 0) (n := n0_8) (c := c0_8) (A := A0_8) (by rw [hρ]; rfl) (by rw [hρ]; rfl)
  have f1 := rep_v ρ (k := 1) (n := n1_0) (c := c1_0) (A := A1_0) (by rw [hρ]; rfl) (by rw [hρ]; rfl)
  have f2 := rep_v ρ (k := 2) (n := n1_2) (c := c1_2) (A := A1_2) (by rw [hρ]; rfl) (by rw [hρ]; rfl)
  have g : ∀ (j q : Nat) (v : Value), ρ.c j = q → opn q = v → ρ.v (.chan (some j)) = v := fun j q v h1 h2 => by simp only [Rn.v, h1, h2]
  have g3 := g 3 q3 _ (by rw [hρ]; rfl) e3
  have g4 := g 4 q4 _ (by rw [hρ]; rfl) e4
  have g5 := g 5 q5 _ (by rw [hρ]; rfl) e5
  have g6 := g 6 q6 _ (by rw [hρ]; rfl) e6
  have g7 := g 7 q7 _ (by rw [hρ]; rfl) e7
  have g8 := g 8 q8 _ (by rw [hρ]; rfl) e8
  have g9 := g 9 q9 _ (by rw [hρ]; rfl) e9
  have g10 := g 10 q10 _ (by rw [hρ]; rfl) e10
  obtain ⟨w', h1, -, h3⟩ := callT_sound cfgN_ok noNum_ mixed_ (run a0_0 (repA 0 A0_8) (repA 1 A1_0) (repA 2 A1_2) n0_8 n1_0 n1_2 (repC A0_8 c0_8) (repC A1_0 c1_0) (repC A1_2 c1_2))
    (by
      have b0 := rep_bd (k := 0) (n := n0_8) (c := c0_8) (m := 11) (A := A0_8) (by omega)
      have b1 := rep_bd (k := 1) (n := n1_0) (c := c1_0) (m := 11) (A := A1_0) (by omega)
      have b2 := rep_bd (k := 2) (n := n1_2) (c := c1_2) (m := 11) (A := A1_2) (by omega)
      simp only [bds, bd, b0, b1, b2, and_true, true_and]
      omega) ρ w
  have hargs : ρ.vs [.agg #[.int .i64 a0_0, .chan (some 3), .chan (some 4), .chan (some 5), .chan (some 6), .chan (some 7), .chan (some 8), .chan (some 9), .slice (repA 0 A0_8) n0_8 (repC A0_8 c0_8)], .agg #[.slice (repA 1 A1_0) n1_0 (repC A1_0 c1_0), .chan (some 10), .slice (repA 2 A1_2) n1_2 (repC A1_2 c1_2)]] =
      [.agg #[.int .i64 a0_0, .int .i64 a0_1, .int .i64 a0_2, .int .i64 a0_3, .int .i64 a0_4, .int .i64 a0_5, .string a0_6, .string a0_7, .slice A0_8 n0_8 c0_8], .agg #[.slice A1_0 n1_0 c1_0, .int .i64 a1_1, .slice A1_2 n1_2 c1_2]] := by
    have hv : ∀ cs, ρ.v (.agg ⟨cs⟩) = .agg ⟨ρ.vs cs⟩ := fun cs => by simp only [Rn.v]
    have hi : ρ.v (.int .i64 a0_0) = .int .i64 a0_0 := by simp only [Rn.v]
    simp only [Rn.vs, hv, hi, f0, f1, f2, g3, g4, g5, g6, g7, g8, g9, g10]
  rw [hargs] at h3
  exact calls_of h1 h3
end Go.Proofs.YtfbeonkbemdaaaaGreatDoor.QReplicaNil
