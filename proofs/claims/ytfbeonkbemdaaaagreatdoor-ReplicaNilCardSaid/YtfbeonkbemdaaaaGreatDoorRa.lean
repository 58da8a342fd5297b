/- A run by evaluation: a program run on a table of blocks; what it does there it does in every world. First part. -/
import Derived.Below
import Derived.DeepKeys5
import Derived.WideKeyElems
import Derived.WideKeyEntry
import Derived.Laws.StructEq
import Derived.KernelRfl
import Derived.Tactics
import Derived.RangeFuncRecord
import Derived.OrdersHeld
namespace Go.Run
open Go Go.RowKit
set_option linter.unusedVariables false
set_option linter.unusedSimpArgs false
/-! A program run on a table of blocks: what it does there it does in every world in which the blocks lie somewhere. -/
inductive Tr where
  | nil
  | leaf (o : Obj)
  | node (l r : Tr)
def Tr.get : Nat → Tr → Nat → Option Obj
  | 0, .leaf o, _ => some o
  | d + 1, .node l r, x => match Nat.beq (x % 2) 0 with | true => Tr.get d l (x / 2) | false => Tr.get d r (x / 2)
  | _, _, _ => none
def Tr.left : Tr → Tr | .node l _ => l | _ => .nil
def Tr.right : Tr → Tr | .node _ r => r | _ => .nil
def Tr.set : Nat → Tr → Nat → Obj → Tr
  | 0, _, _, o => .leaf o
  | d + 1, t, x, o => match Nat.beq (x % 2) 0 with
    | true => .node (Tr.set d t.left (x / 2) o) t.right
    | false => .node t.left (Tr.set d t.right (x / 2) o)
abbrev D : Nat := 14
abbrev U : Nat := 18446744073709551616
structure H where
  tr : Tr
  n : Nat
def H.get (h : H) (k : Nat) : Option Obj := match Nat.blt k 16384 with | true => h.tr.get D k | false => none
def H.new (h : H) (o : Obj) : H := match Nat.blt h.n 16384 with | true => ⟨h.tr.set D h.n o, h.n + 1⟩ | false => ⟨h.tr, h.n + 1⟩
def H.put (h : H) (k : Nat) (o : Obj) : H := ⟨h.tr.set D k o, h.n⟩
abbrev Tm := List (List Value)
def nth {α : Type} : List α → Nat → Option α
  | [], _ => none
  | a :: _, 0 => some a
  | _ :: l, n + 1 => nth l n
def setN {α : Type} : List α → Nat → α → List α
  | [], _, _ => []
  | _ :: l, 0, v => v :: l
  | a :: l, n + 1, v => a :: setN l n v
def Tm.get (t : Tm) (i : Nat) : Value := match nth t (i / 8) with | some c => (match nth c (i % 8) with | some v => v | none => undef) | none => undef
def Tm.set (t : Tm) (i : Nat) (v : Value) : Tm := match nth t (i / 8) with | some c => setN t (i / 8) (setN c (i % 8) v) | none => t
def chunk : Nat → List Value → Tm
  | 0, _ => []
  | n + 1, l => l.take 8 :: chunk n (l.drop 8)
def rowOf : Obj → Option (List Value)
  | .cells c _ _ => some c.toList
  | .pending c _ => some c.toList
  | _ => none
def H.row (h : H) (k : Nat) : Option (List Value) := match h.get k with | some o => rowOf o | none => none
def cut (c : List Value) (off n : Nat) : Option (List Value) := let r := (c.drop off).take n; match Nat.beq r.length n with | true => some r | false => none
def H.cells (h : H) (a : Addr) (n : Nat) : Option (List Value) := match a.spot, h.row a.block with
  | none, some c => cut c a.off n
  | _, _ => none
/-- 'v' laid over 'c' from the front on. -/
def over : List Value → List Value → Option (List Value)
  | [], c => some c
  | _ :: _, [] => none
  | v :: vs, _ :: c => match over vs c with | some r => some (v :: r) | none => none
def overAt : Nat → List Value → List Value → Option (List Value)
  | 0, vs, c => over vs c
  | _ + 1, _, [] => none
  | n + 1, vs, x :: c => match overAt n vs c with | some r => some (x :: r) | none => none
def reRow : Obj → List Value → Obj
  | .cells _ t z, c => .cells ⟨c⟩ t z
  | .pending _ t, c => .pending ⟨c⟩ t
  | o, _ => o
def H.store (h : H) (a : Addr) (vs : List Value) : Option H := match a.spot, h.get a.block with
  | none, some o => (match rowOf o with
    | some c => (match overAt a.off vs c with | some r => some (h.put a.block (reRow o r)) | none => none)
    | none => none)
  | _, _ => none
def cellsOf : Value → List Value | .agg c => c.toList | v => [v]
def isA (P : Program) (t : TypeId) : Option Bool := match P.underlying t with | some (.struct _) => some true | some (.array _ _) => some true | some _ => some false | none => none
def zr (P : Program) (t : TypeId) : Option Value := match P.info? t with | some i => i.zero | none => none
def sz (P : Program) (t : TypeId) : Option Nat := match P.info? t with | some i => some i.size | none => none
def ofCells (b : Bool) (cs : List Value) : Option Value := match b, cs with | true, cs => some (.agg ⟨cs⟩) | false, [v] => some v | _, _ => none
def partOf (P : Program) (t : TypeId) (cs : List Value) (off : Nat) : Option Value := match isA P t, sz P t with
  | some b, some n => (match cut cs off n with | some r => ofCells b r | none => none)
  | _, _ => none
def evl (t : Tm) : Operand → Value
  | .tmp i => t.get i
  | .const v => v
  | .global g => .pointer (some ⟨g, 0, none⟩)
  | .func f => .func (.func f) #[] #[]
inductive Nx where
  | val (v : Value) (h : H)
  | enter (f : FuncId) (args : List Value) (h : H)
  | round (l : Nat) (args : List Value) (h : H)
def vh (h : H) : Option Value → Option Nx | some v => some (.val v h) | none => none
/-- What a function without a body does. -/
inductive Ext where
  | same
/-- The types of keys that a map may have; the functions without a body. -/
structure Cfg where
  ks : List TypeId
  ex : List (FuncId × Ext)
  kn : List FuncId := []
/-! the operations -/
def plain : Value → Bool
  | .bool _ => true
  | .int _ _ => true
  | .string _ => true
  | .pointer none => true
  | .slice none _ c => Nat.blt c U
  | .map none => true
  | .nilFunc => true
  | .nilIface => true
  | _ => false
def plains : List Value → Bool
  | [] => true
  | v :: l => match plain v with | true => plains l | false => false
def one1 : Value → Bool | .agg _ => false | .tuple _ => false | _ => true
def ones : List Value → Bool
  | [] => true
  | v :: l => match one1 v with | true => ones l | false => false
def opPick (c a b : Value) : Option Value := match c with | .bool true => some a | .bool false => some b | _ => none
def opNew (h : H) (t : TypeId) (z : Value) : Option Nx := some (.val (.pointer (some ⟨h.n, 0, none⟩)) (h.new (.cells ⟨cellsOf z⟩ t)))
def opAlloc (P : Program) (h : H) (t : TypeId) : Option Nx := match zr P t with | some z => (match plains (cellsOf z) with | true => opNew h t z | false => none) | none => none
def opBox (P : Program) (h : H) (t : TypeId) (v : Value) : Option Nx := opNew h t v
def fills (place : Nat → Option (Nat × Nat)) : List Value → List (Nat × Value) → Option (List Value)
  | c, [] => some c
  | c, (i, v) :: r => match place i with
    | some (o, s) => (match Nat.beq (cellsOf v).length s, overAt o (cellsOf v) c with | true, some c' => fills place c' r | _, _ => none)
    | none => none
def places (P : Program) : List Field → Option (List (Nat × Nat))
  | [] => some []
  | f :: fs => match sz P f.type, places P fs with | some n, some r => some ((f.offset, n) :: r) | _, _ => none
/-- The cells of a zero value, if they are plain. -/
def zcells (P : Program) (t : TypeId) : Option (List Value) := match zr P t with
  | some z => (match plains (cellsOf z) with | true => some (cellsOf z) | false => none)
  | none => none
def opBuild (P : Program) (t : TypeId) (ps : List (Nat × Value)) : Option Value := match zcells P t, P.underlying t with
  | some z, some (.struct fs) => (match places P fs.toList with
    | some pl => (match fills (nth pl) z ps with | some c => some (.agg ⟨c⟩) | none => none)
    | none => none)
  | some z, some (.array _ el) => (match sz P el with
    | some s => (match fills (fun i => some (i * s, s)) z ps with | some c => some (.agg ⟨c⟩) | none => none)
    | none => none)
  | _, _ => none
def repz (z : List Value) (m : Nat) : List Value := (List.range m).map fun i => match nth z (i % z.length) with | some v => v | none => undef
def opBuildSlice (P : Program) (h : H) (t : TypeId) (n : Nat) (ps : List (Nat × Value)) : Option Nx := match P.underlying t with
  | some (.slice el) => (match zcells P el, sz P el with
    | some z, some (s + 1) => (match Nat.beq z.length (s + 1), Nat.ble (n * (s + 1)) 16777216, fills (fun i => some (i * (s + 1), s + 1)) (repz z (n * (s + 1))) ps with
      | true, true, some c => some (.val (.slice (some ⟨h.n, 0, none⟩) n n) (h.new (.cells ⟨c⟩ el)))
      | _, _, _ => none)
    | _, _ => none)
  | _ => none
def ldVar (P : Program) (h : H) (t : TypeId) (a : Addr) : Option Value := match isA P t, sz P t with
  | some b, some n => (match h.cells a n with | some cs => ofCells b cs | none => none)
  | _, _ => none
def opLoad (P : Program) (h : H) (t : TypeId) : Value → Option Value | .pointer (some a) => ldVar P h t a | _ => none
def opStore (P : Program) (h : H) (t : TypeId) (p v : Value) : Option Nx := match p, sz P t with
  | .pointer (some a), some n => (match Nat.beq (cellsOf v).length n, ones (cellsOf v) with
    | true, true => (match h.store a (cellsOf v) with | some h' => some (.val undef h') | none => none)
    | _, _ => none)
  | _, _ => none
def opNil : Value → Option Value | .pointer none => none | .nilIface => none | .nilFunc => none | .chan _ => none | .func (.method _) _ _ => none | v => some v
def ptrEq (h : H) (a b : Addr) : Option Bool := match Nat.beq a.block b.block, a.spot, b.spot with
  | true, none, none => some (Nat.beq a.off b.off)
  | false, none, none => (match h.row a.block, h.row b.block with | some _, some _ => some false | _, _ => none)
  | _, _, _ => none
def veqF (P : Program) (f : TypeId → Value → Value → Option Bool) : List Field → List Value → List Value → Option Bool
  | [], _, _ => some true
  | g :: gs, xs, ys => match decide (g.name = "_") with
    | true => veqF P f gs xs ys
    | false => (match partOf P g.type xs g.offset, partOf P g.type ys g.offset with
      | some a, some b => (match f g.type a b with | some true => veqF P f gs xs ys | some false => some false | none => none)
      | _, _ => none)
/-- Are two values of a type the same, where that can be told? -/
def veqT (P : Program) (h : H) : Nat → TypeId → Value → Value → Option Bool
  | 0, _, _, _ => none
  | d + 1, t, x, y => match P.underlying t, x, y with
    | some .bool, .bool a, .bool b => some (a == b)
    | some (.int _), .int j a, .int k b => if j = k then some (a == b) else none
    | some .string, .string a, .string b => some (a.data.toList == b.data.toList)
    | some (.pointer _), .pointer none, .pointer b => some b.isNone
    | some (.pointer _), .pointer (some _), .pointer none => some false
    | some (.pointer e), .pointer (some a), .pointer (some b) => (match sz P e with | some (_ + 1) => ptrEq h a b | _ => none)
    | some (.interface _), .nilIface, .iface _ _ => some false
    | some (.interface _), .iface _ _, .nilIface => some false
    | some (.struct fs), .agg a, .agg b => (match P.stoodInHeld t with | true => none | false => veqF P (veqT P h d) fs.toList a.toList b.toList)
    | some (.slice _), .slice none _ _, .slice b _ _ => some b.isNone
    | some (.slice _), .slice (some _) _ _, .slice none _ _ => some false
    | some (.map _ _), .map none, .map b => some b.isNone
    | some (.map _ _), .map (some _), .map none => some false
    | some (.func _ _ _), .nilFunc, .nilFunc => some true
    | some (.func _ _ _), .nilFunc, .func _ _ _ => some false
    | some (.func _ _ _), .func _ _ _, .nilFunc => some false
    | _, _, _ => none
def cmpI (op : BinOp) (x y : Int) : Option Value := match op with
  | .eql => some (.bool (x == y)) | .neq => some (.bool (x != y)) | .lss => some (.bool (x < y)) | .leq => some (.bool (x ≤ y)) | .gtr => some (.bool (x > y)) | .geq => some (.bool (x ≥ y)) | _ => none
def binI (op : BinOp) (k : IntKind) (a b : Int) : Option Value := match op with
  | .add => some (.int k (k.wrap (a + b))) | .sub => some (.int k (k.wrap (a - b))) | .mul => some (.int k (k.wrap (a * b)))
  | .quo => if b = 0 then none else some (.int k (k.wrap (a.tdiv b))) | .rem => if b = 0 then none else some (.int k (a.tmod b))
  | .and => some (.int k (k.wrap (BitVec.ofInt k.bits a &&& BitVec.ofInt k.bits b).toNat)) | .or => some (.int k (k.wrap (BitVec.ofInt k.bits a ||| BitVec.ofInt k.bits b).toNat))
  | .xor => some (.int k (k.wrap (BitVec.ofInt k.bits a ^^^ BitVec.ofInt k.bits b).toNat)) | .andNot => some (.int k (k.wrap (BitVec.ofInt k.bits a &&& ~~~BitVec.ofInt k.bits b).toNat))
  | op => cmpI op a b
def binS (op : BinOp) (a b : List UInt8) : Option Value := match op with
  | .add => (match Nat.ble (a.length + b.length) 9223372036854775807 with | true => some (.string ⟨⟨a ++ b⟩⟩) | false => none)
  | .eql => some (.bool (a == b)) | .neq => some (.bool (!(a == b))) | .lss => some (.bool (Op.bytesLess a b)) | .geq => some (.bool (!Op.bytesLess a b))
  | .leq => some (.bool (Op.bytesLess a b || a == b)) | .gtr => some (.bool (!(Op.bytesLess a b || a == b)))
  | _ => none
def shI (op : BinOp) (k : IntKind) (a b : Int) : Option Value := if b < 0 then none else match op with
  | .shl => some (.int k (k.wrap (a * 2 ^ min b.toNat k.bits))) | .shr => some (.int k (a.fdiv (2 ^ min b.toNat k.bits))) | _ => none
def isSh : BinOp → Bool | .shl => true | .shr => true | _ => false
def guardOk (P : Program) (t : TypeId) : Value → Bool | .agg _ => !P.eqGuardType P.depth t | _ => true
def opBinI (op : BinOp) (j : IntKind) (a : Int) (k : IntKind) (b : Int) : Option Value := match isSh op with
  | true => shI op j a b
  | false => if j = k then binI op j a b else none
def opBinX (P : Program) (h : H) (op : BinOp) (t : TypeId) (x y : Value) : Option Value := match op, guardOk P t x, veqT P h 40 t x y with
  | .eql, true, some b => some (.bool b)
  | .neq, true, some b => some (.bool (!b))
  | _, _, _ => none
def opBin (P : Program) (h : H) (op : BinOp) (t : TypeId) (x y : Value) : Option Value := match x, y with
  | .int j a, .int k b => opBinI op j a k b
  | .string a, .string b => binS op a.data.toList b.data.toList
  | x, y => opBinX P h op t x y
def opUn (op : UnOp) (x : Value) : Option Value := match op, x with
  | .not, .bool b => some (.bool (!b))
  | .neg, .int k n => some (.int k (k.wrap (0 - n)))
  | _, _ => none
def shapeAt (h : H) (a : Addr) : Option (TypeId × Nat) := match a.spot, h.get a.block with
  | none, some (.cells c t _) => some (t, c.toList.length)
  | _, _ => none
def toUns (P : Program) (h : H) (t : TypeId) (a : Addr) : Option Value := match sz P t, shapeAt h a with
  | some (_ + 1), some (_, n) => (match Nat.blt a.off n with | true => some (.pointer (some a)) | false => none)
  | _, _ => none
def ofUns (P : Program) (h : H) (t : TypeId) (a : Addr) : Option Value := match sz P t, shapeAt h a with
  | some (_ + 1), some (e, n) => (match liesAt P P.depth e (n / P.cellsOf e) a.off t 1 with | true => some (.pointer (some a)) | false => none)
  | _, _ => none
def opConv (P : Program) (h : H) (src dst : TypeId) (x : Value) : Option Value := match P.underlying src, P.underlying dst, x with
  | some (.pointer _), some .unsafePointer, .pointer none => some (.pointer none)
  | some .unsafePointer, some (.pointer _), .pointer none => some (.pointer none)
  | some (.pointer t), some .unsafePointer, .pointer (some a) => toUns P h t a
  | some .unsafePointer, some (.pointer t), .pointer (some a) => ofUns P h t a
  | some (.int _), some (.int k), .int _ n => some (.int k (k.wrap n))
  | some .string, some .string, .string s => some (.string s)
  | _, _, _ => none
def opMap (h : H) : Option Nx := some (.val (.map (some h.n)) (h.new (.map #[] 0)))
def asN : Value → Option Nat | .int _ (.ofNat n) => some n | _ => none
def asNo : Option Value → Nat → Option Nat | none, d => some d | some x, _ => asN x
def movA (a : Addr) (n : Nat) : Addr := match n with | 0 => a | n => ⟨a.block, a.off + n, none⟩
def opSliceS (s : List UInt8) (lo hi : Option Value) : Option Value := match asNo hi s.length with
  | some u => (match Nat.ble u s.length, asNo lo 0 with
    | true, some l => (match Nat.ble l u with | true => some (.string ⟨⟨(s.take u).drop l⟩⟩) | false => none)
    | _, _ => none)
  | none => none
/-- The slice's capacity, where it is told; else how far it goes at least. -/
def lowCap (h : H) (el s : Nat) (A : Option Addr) (c : Nat) : Nat := match Nat.ble U c, A with
  | false, _ => c
  | true, some a => (match h.get a.block with
    | some (.pending cs t) => (match Nat.beq t el with | true => cs.toList.length / s - (c - U) | false => 0)
    | _ => 0)
  | true, none => 0
def movO (A : Option Addr) (n : Nat) : Option Addr := match A with | some a => some (movA a n) | none => none
def capMov (c l : Nat) : Nat := match Nat.ble U c with | true => c + l | false => c - l
def opSliceV (P : Program) (h : H) (el : TypeId) (A : Option Addr) (n c : Nat) (lo hi : Option Value) : Option Value := match sz P el, asNo hi n, asNo lo 0 with
  | some (s + 1), some u, some l => (match Nat.ble u (lowCap h el (s + 1) A c), Nat.ble l u, Nat.blt l (lowCap h el (s + 1) A c) || Nat.beq l 0 with
    | true, true, true => some (.slice (movO A (l * (s + 1))) (u - l) (capMov c l))
    | _, _, _ => none)
  | _, _, _ => none
def opSlice (P : Program) (h : H) (t : TypeId) (x : Value) (lo hi mx : Option Value) : Option Value := match mx, P.underlying t, x with
  | none, some (.slice el), .slice A n c => opSliceV P h el A n c lo hi
  | none, some .string, .string s => opSliceS s.data.toList lo hi
  | _, _, _ => none
def opFieldA (P : Program) (t : TypeId) (x : Value) (f : Nat) : Option Value := match P.underlying t, x with
  | some (.struct fs), .pointer (some a) => (match fs.toList[f]? with
    | some g => (match sz P g.type with | some (_ + 1) => some (.pointer (some (movA a g.offset))) | _ => none)
    | none => none)
  | _, _ => none
def opField (P : Program) (t : TypeId) (x : Value) (f : Nat) : Option Value := match P.underlying t, x with
  | some (.struct fs), .agg c => (match fs.toList[f]? with | some g => partOf P g.type c.toList g.offset | none => none)
  | _, _ => none
def opIndexA (P : Program) (t : TypeId) (x i : Value) : Option Value := match P.underlying t, x, asN i with
  | some (.slice el), .slice (some a) n _, some j => (match Nat.blt j n, sz P el with | true, some s => some (.pointer (some (movA a (j * s)))) | _, _ => none)
  | some (.array m el), .pointer (some a), some j => (match Nat.blt j m, sz P el with | true, some s => some (.pointer (some (movA a (j * s)))) | _, _ => none)
  | _, _, _ => none
def opIndex (x i : Value) : Option Value := match x, asN i with
  | .string s, some j => (match s.data.toList[j]? with | some b => some (.int .u8 b.toNat) | none => none)
  | _, _ => none
def opIndexT (P : Program) (t : TypeId) (x i : Value) : Option Value := match P.underlying t with
  | some .string => opIndex x i
  | some (.array m el) => (match x, asN i, sz P el with
    | .agg c, some j, some s => (match Nat.blt j m with | true => partOf P el c.toList (j * s) | false => none)
    | _, _, _ => none)
  | _ => none
mutual
/-- Plain keys, told apart. -/
def keq : Value → Value → Bool
  | .bool a, .bool b => a == b
  | .int j a, .int k b => if j = k then a == b else false
  | .string a, .string b => a.data.toList == b.data.toList
  | .agg ⟨a⟩, .agg ⟨b⟩ => keqs a b
  | _, _ => false
def keqs : List Value → List Value → Bool
  | [], [] => true
  | a :: x, b :: y => match keq a b with | true => keqs x y | false => false
  | _, _ => false
end
def prim : Value → Bool | .bool _ => true | .int _ _ => true | .string _ => true | _ => false
def prims : List Value → Bool
  | [] => true
  | v :: l => match prim v with | true => prims l | false => false
def isKey : Value → Bool | .agg ⟨l⟩ => prims l | v => prim v
def noneEq (k : Value) : List MapEntry → Bool
  | [] => true
  | e :: es => match keq k e.key with | true => false | false => noneEq k es
def findE (k : Value) : List MapEntry → Nat → Option (Option (Nat × MapEntry))
  | [], _ => some none
  | e :: es, i => match keq k e.key with
    | true => (match noneEq k es with | true => some (some (i, e)) | false => none)
    | false => findE k es (i + 1)
def findK (P : Program) (ks : List TypeId) (kt : TypeId) (k : Value) (es : List MapEntry) : Option (Option (Nat × MapEntry)) := match ks.contains kt, isKey k, (Go.keyOf P kt k).isSome, es.all fun e => (Go.keyOf P kt e.key).isSome with
  | true, true, true, true => findE k es 0
  | _, _, _, _ => none
def mapAt (h : H) : Value → Option (Nat × List MapEntry × Nat)
  | .map (some r) => match h.get r with | some (.map es c) => some (r, es.toList, c) | _ => none
  | _ => none
/-- A zero value, if it is plain. -/
def zplain (P : Program) (t : TypeId) : Option Value := match zr P t with
  | some z => (match plains (cellsOf z) with | true => some z | false => none)
  | none => none
def okRes (ok : Bool) (v : Value) (b : Bool) : Value := match ok with | true => .tuple #[v, .bool b] | false => v
def opLookup (P : Program) (C : Cfg) (h : H) (t : TypeId) (m k : Value) (ok : Bool) : Option Value := match P.underlying t, mapAt h m with
  | some (.map kt el), some (_, es, _) => (match findK P C.ks kt k es, zplain P el with
    | some (some (_, e)), _ => some (okRes ok e.val true)
    | some none, some z => some (okRes ok z false)
    | _, _ => none)
  | _, _ => none
def opEntry (P : Program) (C : Cfg) (h : H) (t : TypeId) (m k : Value) : Option Nx := match P.underlying t, mapAt h m with
  | some (.map kt el), some (r, es, c) => (match findK P C.ks kt k es, zplain P el with
    | some (some (i, e)), _ => some (.val (.tuple #[e.val, .int .i64 e.born]) (h.put r (.map ⟨es.set i { e with key := k }⟩ c)))
    | some none, some z => some (.val (.tuple #[z, .int .i64 c]) (h.put r (.map ⟨es ++ [⟨k, z, c⟩]⟩ (c + 1))))
    | _, _ => none)
  | _, _ => none
def setBorn (b : Nat) (v : Value) : List MapEntry → Option (List MapEntry)
  | [] => none
  | e :: es => match Nat.beq e.born b with | true => some ({ e with val := v } :: es) | false => (match setBorn b v es with | some r => some (e :: r) | none => none)
def opEntryS (h : H) (m s v : Value) : Option Nx := match mapAt h m, asN s with
  | some (r, es, c), some b => (match setBorn b v es with | some es' => some (.val undef (h.put r (.map ⟨es'⟩ c))) | none => none)
  | _, _ => none
def opUpdate (P : Program) (C : Cfg) (h : H) (t : TypeId) (m k v : Value) : Option Nx := match P.underlying t, mapAt h m with
  | some (.map kt _), some (r, es, c) => (match findK P C.ks kt k es with
    | some (some (i, e)) => some (.val undef (h.put r (.map ⟨es.set i { e with key := k, val := v }⟩ c)))
    | some none => some (.val undef (h.put r (.map ⟨es ++ [⟨k, v, c⟩]⟩ (c + 1))))
    | none => none)
  | _, _ => none
def opRange (P : Program) (h : H) (t : TypeId) (x : Value) : Option Nx := match P.underlying t, x with
  | some (.map _ _), .map none => some (.val (.pointer (some ⟨h.n, 0, none⟩)) (h.new (.mapIter none 0 #[] 0)))
  | some (.map _ _), .map (some m) => (match h.get m with
    | some (.map _ c) => some (.val (.pointer (some ⟨h.n, 0, none⟩)) (h.new (.mapIter (some m) c #[] c)))
    | _ => none)
  | _, _ => none
def unseen (seen : List Nat) : List MapEntry → List MapEntry
  | [] => []
  | e :: es => match seen.contains e.born with | true => unseen seen es | false => e :: unseen seen es
def okNext (seen : List Nat) (last : Nat) (es : List MapEntry) : Bool := match seen, es with
  | [], _ => true
  | _, [] => true
  | _, es => es.any fun e => Nat.blt e.born last
def nextM (h : H) (r m since : Nat) (seen : List Nat) (last : Nat) (es : List MapEntry) (c : Nat) : Option Nx := match okNext seen last es, unseen seen es with
  | true, [] => some (.val (.tuple #[.bool false]) h)
  | true, [e] => (match Nat.blt e.born since with
    | true => some (.val (.tuple #[.bool true, e.key, e.val]) (h.put r (.mapIter (some m) since ⟨seen ++ [e.born]⟩ c)))
    | false => none)
  | _, _ => none
def opNext (h : H) (x : Value) (str : Bool) : Option Nx := match x, str with
  | .pointer (some ⟨r, 0, _⟩), false => (match h.get r with
    | some (.mapIter none _ _ _) => some (.val (.tuple #[.bool false]) h)
    | some (.mapIter (some m) since seen last) => (match h.get m with
      | some (.map es c) => nextM h r m since seen.toList last es.toList c
      | _ => none)
    | _ => none)
  | _, _ => none
def opEntryI (h : H) (x : Value) : Option Value := match x with
  | .pointer (some ⟨r, 0, _⟩) => (match h.get r with
    | some (.mapIter (some m) _ seen last) => (match h.get m, seen.toList.getLast? with
      | some (.map es c), some b => (match Nat.beq c last, es.toList.find? (fun e => Nat.beq e.born b) with | true, some e => some (.tuple #[e.key, e.val]) | _, _ => none)
      | _, _ => none)
    | _ => none)
  | _ => none
def opMakeSlice (P : Program) (h : H) (t : TypeId) (l c : Value) : Option Nx := match P.underlying t, asN l, asN c with
  | some (.slice el), some n, some m => (match zcells P el, sz P el, P.info? el with
    | some z, some (s + 1), some i => (match Nat.beq z.length (s + 1), Nat.ble n m, Nat.ble (i.bytes * m) 1048576, Nat.ble m 1048576 with
      | true, true, true, true => some (.val (.slice (some ⟨h.n, 0, none⟩) n m) (h.new (.cells ⟨repz z (m * (s + 1))⟩ el)))
      | _, _, _, _ => none)
    | _, _, _ => none)
  | _, _, _ => none
def opIface (P : Program) (t : TypeId) (x : Value) : Option Value := match P.underlying t with | some (.interface _) => none | some _ => some (.iface t x) | none => none
def opExtract (t : Value) (i : Nat) : Option Value := match t with | .tuple vs => vs.toList[i]? | _ => none
def exOf (f : FuncId) : List (FuncId × Ext) → Option Ext
  | [] => none
  | (g, x) :: l => match Nat.beq f g with | true => some x | false => exOf f l
def doExt (h : H) (x : Ext) (args : List Value) : Option Value := match x, args with
  | .same, [v] => some v
  | _, _ => none
def callOf (C : Cfg) (f : Value) (args : List Value) (h : H) : Option Nx := match f with
  | .func (.func g) a b => (match exOf g C.ex with
    | some x => vh h (doExt h x (a.toList ++ args ++ b.toList))
    | none => some (.enter g (a.toList ++ args ++ b.toList) h))
  | .func (.yield l) a _ => some (.round l (a.toList ++ args) h)
  | _ => none
def biLen (h : H) : Value → Option Value
  | .slice _ n _ => some (.int .i64 n)
  | .string s => some (.int .i64 s.data.toList.length)
  | .map none => some (.int .i64 0)
  | .map (some r) => match h.get r with | some (.map es _) => some (.int .i64 es.toList.length) | _ => none
  | _ => none
def lenFits (d : TypeDesc) (x : Value) : Bool := match d, x with | .slice _, .slice _ _ _ => true | .string, .string _ => true | .map _ _, .map _ => true | _, _ => false
def biLenT (P : Program) (h : H) (ts : List TypeId) (x : Value) : Option Nx := match ts with
  | [t] => (match P.underlying t with | some d => (match lenFits d x with | true => vh h (biLen h x) | false => none) | none => none)
  | _ => none
/-- What is appended: how many elements, their cells. -/
def srcC (P : Program) (h : H) (s u : Nat) (x : Value) : Option (Nat × List Value) := match P.underlying u, x with
  | some .string, .string b => (match s with | 1 => some (b.data.toList.length, b.data.toList.map fun c => .int .u8 c.toNat) | _ => none)
  | some (.slice _), .slice (some a) m _ => (match h.cells a (m * s) with | some cs => (match ones cs with | true => some (m, cs) | false => none) | none => none)
  | some (.slice _), .slice none 0 c => (match Nat.blt c U with | true => some (0, []) | false => none)
  | _, _ => none
def roomy (i : TypeInfo) (n : Nat) : Bool := match i.zero with | some z => Nat.beq (cellsOf z).length i.size && Nat.ble (2 * n * i.bytes) 281474976710656 && Nat.ble n 9223372036854775807 | none => false
def grow (h : H) (el : TypeId) (i : TypeInfo) (n m : Nat) (old x : List Value) : Option Nx := match roomy i (n + m) with
  | true => some (.val (.slice (some ⟨h.n, 0, none⟩) (n + m) U) (h.new (.pending ⟨old ++ x⟩ el)))
  | false => none
/-- There is room. -/
def appIn (h : H) (s : Nat) (A : Option Addr) (n c m : Nat) (x : List Value) : Option Nx := match A with
  | some a => (match h.store (movA a (n * s)) x with | some h' => some (.val (.slice A (n + m) c) h') | none => none)
  | none => (match m with | 0 => some (.val (.slice none n c) h) | _ => none)
def appOld (h : H) (s n : Nat) : Option Addr → Option (List Value)
  | some a => h.cells a (n * s)
  | none => match n with | 0 => some [] | _ => none
/-- None can tell: the row is either the old one or a new one; the old one is not looked at again. -/
def appMay (h : H) (el : TypeId) (i : TypeInfo) (A : Option Addr) (n c m : Nat) (x : List Value) : Option Nx := match A, Nat.beq c U with
  | some ⟨k, 0, none⟩, true => (match h.get k, appOld h i.size n A with
    | some (.pending _ t), some old => (match Nat.beq t el with
      | true => grow (h.put k (.coro none)) el i n m old x
      | false => none)
    | _, _ => none)
  | _, _ => none
def biAppend2 (h : H) (el : TypeId) (i : TypeInfo) (A : Option Addr) (n c : Nat) (m : Nat) (x : List Value) : Option Nx :=
  match Nat.ble (n + m) (lowCap h el i.size A c), Nat.ble U c with
  | true, _ => appIn h i.size A n c m x
  | false, false => (match appOld h i.size n A with | some old => grow h el i n m old x | none => none)
  | false, true => appMay h el i A n c m x
def biAppend (P : Program) (h : H) (ts : List TypeId) (d x : Value) : Option Nx := match ts, d with
  | [t, u], .slice A n c => (match P.underlying t with
    | some (.slice el) => (match P.info? el with
      | some i => (match i.size, srcC P h i.size u x with | _ + 1, some (m, y) => biAppend2 h el i A n c m y | _, _ => none)
      | none => none)
    | _ => none)
  | _, _ => none
def rowType : Obj → Option TypeId
  | .cells _ t _ => some t
  | .pending _ t => some t
  | _ => none
def toBytes : List Value → Option (List UInt8)
  | [] => some []
  | .int .u8 (.ofNat n) :: l => (match Nat.blt n 256, toBytes l with | true, some r => some (UInt8.ofNat n :: r) | _, _ => none)
  | _ => none
def hasRoom (P : Program) (h : H) (ts : List TypeId) (A : Option Addr) (c : Nat) : Bool := match ts with
  | [t] => (match P.underlying t with
    | some (.slice el) => (match sz P el with | some (s + 1) => Nat.blt 0 (lowCap h el (s + 1) A c) | _ => false)
    | _ => false)
  | _ => false
def biSliceData (P : Program) (h : H) (ts : List TypeId) : Value → Option Value
  | .slice none _ _ => some (.pointer none)
  | .slice (some a) n c => (match hasRoom P h ts (some a) c with | true => some (.pointer (some a)) | false => none)
  | _ => none
def isU8 (P : Program) (ts : List TypeId) : Option TypeId := match ts with
  | t :: _ => (match P.underlying t with | some (.pointer u) => (match P.underlying u, sz P u with | some (.int .u8), some 1 => some u | _, _ => none) | _ => none)
  | _ => none
/-- A text that shares its bytes with a row: the row is not looked at again. -/
def biString (P : Program) (h : H) (ts : List TypeId) (p n : Value) : Option Nx := match p, asN n, isU8 P ts with
  | .pointer (some a), some m, some u => (match h.get a.block, h.cells a m, Nat.ble m 1048576, m with
    | _, _, _, 0 => some (.val (.string ⟨#[]⟩) h)
    | some o, some cs, true, _ + 1 => (match rowType o, toBytes cs with
      | some t, some bs => (match Nat.beq t u && Nat.beq a.off 0 with | true => some (.val (.string ⟨⟨bs⟩⟩) (h.put a.block (.coro none))) | false => none)
      | _, _ => none)
    | _, _, _, _ => none)
  | .pointer none, some 0, some _ => some (.val (.string ⟨#[]⟩) h)
  | _, _, _ => none
def biCopyC (h : H) (s : Nat) (A B : Option Addr) (k : Nat) : Option H := match k, A, B with
  | 0, _, _ => some h
  | k + 1, some a, some b => (match h.cells b ((k + 1) * s) with
    | some cs => (match ones cs with | true => h.store a cs | false => none)
    | none => none)
  | _, _, _ => none
def biCopy (P : Program) (h : H) (ts : List TypeId) (d x : Value) : Option Nx := match ts, d, x with
  | t :: _, .slice A n _, .slice B m _ => (match P.underlying t with
    | some (.slice el) => (match sz P el with
      | some s => (match biCopyC h s A B (Nat.min m n) with | some h' => some (.val (.int .i64 (Nat.min m n)) h') | none => none)
      | none => none)
    | _ => none)
  | _, _, _ => none
def dropE (es : List MapEntry) (i : Nat) : List MapEntry := es.take i ++ es.drop (i + 1)
def biDelete (P : Program) (C : Cfg) (h : H) (ts : List TypeId) (m k : Value) : Option Nx := match ts, mapAt h m with
  | t :: _, some (r, es, c) => (match P.underlying t with
    | some (.map kt _) => (match findK P C.ks kt k es with
      | some (some (i, _)) => some (.val (.tuple #[]) (h.put r (.map ⟨dropE es i⟩ c)))
      | some none => some (.val (.tuple #[]) (h.put r (.map ⟨es⟩ c)))
      | none => none)
    | _ => none)
  | _, _ => none
def biClear (P : Program) (h : H) (ts : List TypeId) (x : Value) : Option Nx := match ts, x with
  | t :: _, .slice (some a) (n + 1) _ => (match P.underlying t with
    | some (.slice el) => (match zcells P el with
      | some z => (match ones (repz z ((n + 1) * z.length)), h.store a (repz z ((n + 1) * z.length)) with | true, some h' => some (.val (.tuple #[]) h') | _, _ => none)
      | none => none)
    | _ => none)
  | t :: _, .slice _ 0 _ => (match P.underlying t with | some _ => some (.val (.tuple #[]) h) | none => none)
  | _, _ => none
def builtin (P : Program) (C : Cfg) (b : Builtin) (ts : List TypeId) (vs : List Value) (h : H) : Option Nx := match b, vs with
  | .len, [x] => biLenT P h ts x
  | .append, [d, x] => biAppend P h ts d x
  | .unsafeSliceData, [x] => vh h (biSliceData P h ts x)
  | .max, [.int j a, .int _ b] => some (.val (.int j (if b > a then b else a)) h)
  | .min, [.int j a, .int _ b] => some (.val (.int j (if b < a then b else a)) h)
  | .copy, [d, x] => biCopy P h ts d x
  | .delete, [m, k] => biDelete P C h ts m k
  | .clear, [x] => biClear P h ts x
  | .unsafeString, [p, .int .i64 n] => (match Nat.beq ts.length 2 with | true => biString P h ts p (.int .i64 n) | false => none)
  | _, _ => none
def opCall (P : Program) (C : Cfg) (e : Operand → Value) (c : Call) (h : H) : Option Nx := match c.callee with
  | .value f => callOf C (e f) (c.args.toList.map e) h
  | .builtin b => builtin P C b c.argTypes.toList (c.args.toList.map e) h
  | _ => none
def okOp : Operand → Bool | .tmp _ => true | .const v => plain v | .global _ => false | .func _ => true
def okL : List Operand → Bool
  | [] => true
  | x :: l => match okOp x with | true => okL l | false => false
def okP : List (Nat × Operand) → Bool
  | [] => true
  | p :: l => match okOp p.2 with | true => okP l | false => false
def okO : Option Operand → Bool | some x => okOp x | none => true
def okOps : Op → Bool
  | .move x => okOp x
  | .assign x => okOp x
  | .pick c a b => okL [c, a, b]
  | .alloc _ => true
  | .box _ x => okOp x
  | .build _ ps => okP ps.toList
  | .buildSlice _ _ ps => okP ps.toList
  | .load _ a => okOp a
  | .store _ a x => okL [a, x]
  | .nilCheck x => okOp x
  | .binOp _ _ x y _ => okL [x, y]
  | .unOp _ _ x => okOp x
  | .convert _ _ x => okOp x
  | .makeFunc _ a b => okL (a.toList ++ b.toList)
  | .makeMap _ none => true
  | .slice _ x lo hi mx => okOp x && okO lo && okO hi && okO mx
  | .fieldAddr _ x _ => okOp x
  | .field _ x _ => okOp x
  | .indexAddr _ x i => okL [x, i]
  | .index _ x i => okL [x, i]
  | .lookup _ x k _ => okL [x, k]
  | .mapEntry _ m k => okL [m, k]
  | .entryStore _ m s x => okL [m, s, x]
  | .mapUpdate _ m k x => okL [m, k, x]
  | .insert _ m k x => okL [m, k, x]
  | .makeSlice _ l c => okL [l, c]
  | .range _ x => okOp x
  | .next x _ => okOp x
  | .entry x => okOp x
  | .makeInterface _ x => okOp x
  | .extract t _ => okOp t
  | .call c => (match c.callee with | .value f => okL (f :: c.args.toList) | .builtin _ => okL c.args.toList | _ => false)
  | _ => false
def evs (e : Operand → Value) (ps : Array (Nat × Operand)) : List (Nat × Value) := ps.toList.map fun p => (p.1, e p.2)
def op (P : Program) (C : Cfg) (e : Operand → Value) (o : Op) (h : H) : Option Nx := match o with
  | .move x => some (.val (e x) h)
  | .assign x => some (.val (e x) h)
  | .pick c a b => vh h (opPick (e c) (e a) (e b))
  | .alloc t => opAlloc P h t
  | .box t x => opBox P h t (e x)
  | .build t ps => vh h (opBuild P t (evs e ps))
  | .buildSlice t n ps => opBuildSlice P h t n (evs e ps)
  | .load t a => vh h (opLoad P h t (e a))
  | .store t a x => opStore P h t (e a) (e x)
  | .nilCheck x => vh h (opNil (e x))
  | .binOp b t x y _ => vh h (opBin P h b t (e x) (e y))
  | .unOp u _ x => vh h (opUn u (e x))
  | .convert s d x => vh h (opConv P h s d (e x))
  | .makeFunc (.func f) a b => some (.val (.func (.func f) ⟨a.toList.map e⟩ ⟨b.toList.map e⟩) h)
  | .makeMap _ none => opMap h
  | .slice t x lo hi mx => vh h (opSlice P h t (e x) (lo.map e) (hi.map e) (mx.map e))
  | .fieldAddr t x f => vh h (opFieldA P t (e x) f)
  | .field t x f => vh h (opField P t (e x) f)
  | .indexAddr t x i => vh h (opIndexA P t (e x) (e i))
  | .index t x i => vh h (opIndexT P t (e x) (e i))
  | .lookup t x k ok => vh h (opLookup P C h t (e x) (e k) ok)
  | .mapEntry t m k => opEntry P C h t (e m) (e k)
  | .entryStore _ m s x => opEntryS h (e m) (e s) (e x)
  | .mapUpdate t m k x => opUpdate P C h t (e m) (e k) (e x)
  | .insert t m k x => opUpdate P C h t (e m) (e k) (e x)
  | .makeSlice t l c => opMakeSlice P h t (e l) (e c)
  | .range t x => opRange P h t (e x)
  | .next x s => opNext h (e x) s
  | .entry x => vh h (opEntryI h (e x))
  | .makeInterface t x => vh h (opIface P t (e x))
  | .extract t i => vh h (opExtract (e t) i)
  | .call c => opCall P C e c h
  | _ => none
def opK (P : Program) (C : Cfg) (e : Operand → Value) (o : Op) (h : H) : Option Nx := match okOps o with | true => op P C e o h | false => none
/-! frames -/
structure F where
  fn : FuncId
  d : List Nat
  r : Option Nat
def setT (t : Tm) : Option Tmp → Value → Tm | some i, v => t.set i v | none, _ => t
def yldO (t : Tm) : Option Oper → Option Bool
  | some o => (match o.dst with | some i => (match t.get i with | .bool b => some b | _ => none) | none => none)
  | none => none
def want (ops : List Oper) (o : Oper) (t : Tm) : Bool := match o.guard with | none => true | some (j, b) => (match yldO t (nth ops j), b with | some true, true => true | some false, false => true | _, _ => false)
def resOne (P : Program) (h : H) (t : Tm) : ResultVar → Option Value
  | .tmp i => some (t.get i)
  | .cell a ty => match t.get a with | .pointer (some p) => ldVar P h ty p | _ => none
def resAll (P : Program) (h : H) (t : Tm) : List ResultVar → Option (List Value)
  | [] => some []
  | r :: rs => match resOne P h t r, resAll P h t rs with | some v, some vs => some (v :: vs) | _, _ => none
def tup : List Value → Value | [v] => v | vs => .tuple ⟨vs⟩
def takeD (h : H) : List Nat → Option H
  | [] => some h
  | k :: ks => match h.get k with | some (.deferred (some [])) => takeD (h.put k (.deferred none)) ks | _ => none
def leaveF (P : Program) (f : F) (t : Tm) (h : H) : Option (Value × H) := match P.funcs[f.fn]?, takeD h f.d with
  | some fn, some h' => (match resAll P h' t fn.results.toList with | some vs => some (tup vs, h') | none => none)
  | _, _ => none
def leaveR (l : Nat) (h : H) (jump : Option Code) : Option (Value × H) := match h.get l with
  | some (.loop L) => (match jump with
    | none => some (.bool true, h.put l (.loop { L with state := .ready, pending := none }))
    | some j => some (.bool false, h.put l (.loop { L with state := .done, pending := some j })))
  | _ => none
def leave (P : Program) (f : F) (t : Tm) (h : H) (jump : Option Code) : Option (Value × H) := match f.r with
  | some l => leaveR l h jump
  | none => (match jump with | none => leaveF P f t h | some .ret => leaveF P f t h | some _ => none)
inductive It where
  | code (c : Code)
  | inBlock (id : Nat)
  | inLoop (b : Code)
  | inScope (b : Code)
  | beginRound
def exitI (id : Nat) : List It → Option (List It)
  | .inBlock i :: k => match Nat.beq i id with | true => some k | false => exitI id k
  | _ :: k => exitI id k
  | [] => none
def gotoI (l : Nat) : List It → Option (List It)
  | .inScope b :: k => (match findLabel b l with | some r => some (.code r :: .inScope b :: k) | none => gotoI l k)
  | _ :: k => gotoI l k
  | [] => none
abbrev Ex := F → Tm → List It → H → Option (Value × H)
def enterF (P : Program) (q : FuncId) (args : List Value) : Option (Tm × Code) := match P.funcs[q]? with
  | some fn => (match fn.body with
    | some c => some (chunk ((fn.ntmps + args.length + 7) / 8) (args ++ List.replicate (fn.ntmps - args.length) undef), c)
    | none => none)
  | none => none
def zipSet : List Tmp → List Value → Tm → Option Tm
  | [], [], t => some t
  | p :: ps, v :: vs, t => zipSet ps vs (t.set p v)
  | _, _, _ => none
/-- Is it a call of a function that is known to answer 'true'? -/
def knows (q : FuncId) : List Value → List FuncId → Bool
  | [], l => l.any (Nat.beq q)
  | _ :: _, _ => false
def enterV (P : Program) (C : Cfg) (ih : Ex) (q : FuncId) (args : List Value) (h : H) : Option (Value × H) := match knows q args C.kn with
  | true => some (.bool true, h)
  | false => (match enterF P q args with
    | some (t, c) => ih ⟨q, [], none⟩ t [.code c] h
    | none => none)
def roundV (ih : Ex) (l : Nat) (args : List Value) (h : H) : Option (Value × H) := match h.get l with
  | some (.loop L) => (match zipSet L.params.toList args (chunk ((L.tmps.toList.length + 7) / 8) L.tmps.toList) with
    | some t => ih ⟨L.fn, [], some l⟩ t [.code L.assign, .beginRound, .code L.body] h
    | none => none)
  | _ => none
/-- An operation carried out, calls and all: its value. -/
def nxVal (P : Program) (C : Cfg) (ih : Ex) : Nx → Option (Value × H)
  | .val v h1 => some (v, h1)
  | .enter q args h1 => enterV P C ih q args h1
  | .round l args h1 => roundV ih l args h1
def opVal (P : Program) (C : Cfg) (ih : Ex) (ops : List Oper) (o : Oper) (t : Tm) (h : H) : Option (Value × H) := match want ops o t with
  | false => some (undef, h)
  | true => (match opK P C (evl t) o.op h with | some x => nxVal P C ih x | none => none)
def runSeq (P : Program) (C : Cfg) (ih : Ex) (ops : List Oper) : List Oper → Tm → H → Option (Tm × H)
  | [], t, h => some (t, h)
  | o :: l, t, h => match opVal P C ih ops o t h with | some (v, h') => runSeq P C ih ops l (setT t o.dst v) h' | none => none
/-! a region whose order is drawn -/
def readyI (ops : List Oper) (listed : List Bool) (i : Nat) : Bool := match nth listed i, nth ops i with
  | some false, some o => o.after.toList.all fun e => !Region.binds .any e || (match nth listed e.on with | some true => true | _ => false)
  | _, _ => false
def readyL (ops : List Oper) (listed : List Bool) : List Nat := (List.range ops.length).filter (readyI ops listed)
/-- A value that an operation yields and goes on yielding. -/
structure Fact where
  i : Nat
  t : Tm
  o : Oper
  v : Value
mutual
def eqV : Value → Value → Bool
  | .bool a, .bool b => a == b
  | .int j a, .int k b => if j = k then a == b else false
  | .string a, .string b => a.data.toList == b.data.toList
  | .pointer none, .pointer none => true
  | .pointer (some ⟨a, n, none⟩), .pointer (some ⟨b, m, none⟩) => Nat.beq a b && Nat.beq n m
  | .slice none n c, .slice none m d => Nat.beq n m && Nat.beq c d
  | .slice (some ⟨a, x, none⟩) n c, .slice (some ⟨b, y, none⟩) m d => Nat.beq a b && Nat.beq x y && Nat.beq n m && Nat.beq c d
  | .map none, .map none => true
  | .map (some a), .map (some b) => Nat.beq a b
  | .agg ⟨a⟩, .agg ⟨b⟩ => eqVs a b
  | .tuple ⟨a⟩, .tuple ⟨b⟩ => eqVs a b
  | .chan (some a), .chan (some b) => Nat.beq a b
  | .nilFunc, .nilFunc => true
  | .nilIface, .nilIface => true
  | .iface t a, .iface u b => Nat.beq t u && eqV a b
  | .func (.func f) ⟨a⟩ ⟨b⟩, .func (.func g) ⟨c⟩ ⟨d⟩ => Nat.beq f g && eqVs a c && eqVs b d
  | .func (.yield f) ⟨a⟩ ⟨b⟩, .func (.yield g) ⟨c⟩ ⟨d⟩ => Nat.beq f g && eqVs a c && eqVs b d
  | _, _ => false
def eqVs : List Value → List Value → Bool
  | [], [] => true
  | a :: x, b :: y => match eqV a b with | true => eqVs x y | false => false
  | _, _ => false
end
def quiet : Op → Bool
  | .move _ => true
  | .pick _ _ _ => true
  | .build _ _ => true
  | .load _ _ => true
  | .nilCheck _ => true
  | .binOp _ _ _ _ _ => true
  | .unOp _ _ _ => true
  | .convert _ _ _ => true
  | .makeInterface _ _ => true
  | .makeFunc _ _ _ => true
  | .slice _ _ _ _ _ => true
  | .fieldAddr _ _ _ => true
  | .field _ _ _ => true
  | .indexAddr _ _ _ => true
  | .index _ _ _ => true
  | .lookup _ _ _ _ => true
  | .extract _ _ => true
  | .call c => (match c.callee with | .builtin .len => true | _ => false)
  | _ => false
mutual
/-- A value that can be compared. -/
def fineV : Value → Bool
  | .bool _ => true
  | .int _ _ => true
  | .string _ => true
  | .pointer none => true
  | .pointer (some ⟨_, _, none⟩) => true
  | .slice none _ _ => true
  | .slice (some ⟨_, _, none⟩) _ _ => true
  | .map _ => true
  | .chan (some _) => true
  | .agg ⟨a⟩ => fineVs a
  | .tuple ⟨a⟩ => fineVs a
  | .nilFunc => true
  | .nilIface => true
  | .iface _ a => fineV a
  | .func (.func _) ⟨a⟩ ⟨b⟩ => fineVs a && fineVs b
  | .func (.yield _) ⟨a⟩ ⟨b⟩ => fineVs a && fineVs b
  | _ => false
def fineVs : List Value → Bool
  | [] => true
  | v :: l => match fineV v with | true => fineVs l | false => false
end
def waits (o : Oper) (i : Nat) : Bool := o.after.toList.any fun e => Region.binds .any e && Nat.beq e.on i
def dropF (o : Oper) (fs : List Fact) : List Fact := fs.filter fun f => !waits o f.i
def holds1 (P : Program) (C : Cfg) (h : H) (f : Fact) : Bool := match opK P C (evl f.t) f.o.op h with | some (.val w _) => eqV w f.v | _ => false
/-- What it yields hangs on no block. -/
def timeless : Op → Bool
  | .move _ => true
  | .build _ _ => true
  | .field _ _ _ => true
  | .fieldAddr _ _ _ => true
  | .extract _ _ => true
  | .makeInterface _ _ => true
  | _ => false
def holdsT (P : Program) (C : Cfg) (h : H) (f : Fact) : Bool := match timeless f.o.op with | true => true | false => holds1 P C h f
def holdsF (P : Program) (C : Cfg) (h : H) (fs : List Fact) : Bool := fs.all (holdsT P C h)
def freeI (ops : List Oper) (listed : List Bool) (i : Nat) (o : Oper) : Bool := (List.range ops.length).all fun j => Nat.beq j i || (match nth listed j, nth ops j with
  | some false, some oj => waits oj i || Oper.apart ⟨ops⟩ o oj
  | _, _ => true)
/-- What can be taken first, whatever is drawn. -/
def pickI (P : Program) (C : Cfg) (ops : List Oper) (listed : List Bool) (pd : List (Nat × Oper)) (t : Tm) (h : H) : List Nat → Option (Nat × Oper × Value × List Fact)
  | [] => none
  | i :: rs => match nth ops i with
    | some o => (match freeI ops listed i o && pd.all (fun p => !waits o p.1), want ops o t, quiet o.op with
      | true, false, _ => some (i, o, undef, [])
      | true, true, true => (match opK P C (evl t) o.op h with
        | some (.val v _) => (match fineV v with | true => some (i, o, v, [⟨i, t, o, v⟩]) | false => pickI P C ops listed pd t h rs)
        | _ => pickI P C ops listed pd t h rs)
      | _, _, _ => pickI P C ops listed pd t h rs)
    | none => pickI P C ops listed pd t h rs
/-- The operations that lay a block of their own, and look at none. -/
def lays : Op → Bool
  | .alloc _ => true
  | .box _ _ => true
  | .buildSlice _ _ _ => true
  | .makeMap _ none => true
  | _ => false
def pendI (P : Program) (C : Cfg) (ops : List Oper) (listed : List Bool) (pd : List (Nat × Oper)) (t : Tm) (h : H) : List Nat → Option (Nat × Oper)
  | [] => none
  | i :: rs => match nth ops i with
    | some o => (match lays o.op && freeI ops listed i o && want ops o t && pd.all (fun p => !waits o p.1) && (opK P C (evl t) o.op h).isSome with
      | true => some (i, o)
      | false => pendI P C ops listed pd t h rs)
    | none => pendI P C ops listed pd t h rs
/-- What was put off is laid. -/
def lay (P : Program) (C : Cfg) (c : Nat → Bool) : List (Nat × Oper) → Tm → H → Option (List (Nat × Oper) × Tm × H)
  | [], t, h => some ([], t, h)
  | (i, o) :: pd, t, h => match c i with
    | true => (match opK P C (evl t) o.op h with
      | some (.val v h') => lay P C c pd (setT t o.dst v) h'
      | _ => none)
    | false => (match lay P C c pd t h with | some (r, t', h') => some ((i, o) :: r, t', h') | none => none)
def dr (P : Program) (C : Cfg) (ih : Ex) (ops : List Oper) : Nat → List Bool → List (Nat × Oper) → List Fact → Tm → H → Option (Tm × H)
  | 0, listed, pd, fs, t, h => (match readyL ops listed with
    | [] => (match lay P C (fun _ => true) pd t h with | some (_, t', h') => some (t', h') | none => none)
    | _ => none)
  | n + 1, listed, pd, fs, t, h => match readyL ops listed with
    | [] => (match lay P C (fun _ => true) pd t h with | some (_, t', h') => some (t', h') | none => none)
    | [i] => (match nth ops i with
      | some o => (match lay P C (waits o) pd t h with
        | some (pd', t', h') => (match opVal P C ih ops o t' h' with
          | some (v, h2) => (match holdsF P C h2 (dropF o fs) with | true => dr P C ih ops n (setN listed i true) pd' (dropF o fs) (setT t' o.dst v) h2 | false => none)
          | none => none)
        | none => none)
      | none => none)
    | rs => (match pickI P C ops listed pd t h rs with
      | some (i, o, v, fs') => dr P C ih ops n (setN listed i true) pd (fs' ++ fs) (setT t o.dst v) h
      | none => (match pendI P C ops listed pd t h rs with
        | some (i, o) => dr P C ih ops n (setN listed i true) ((i, o) :: pd) fs t h
        | none => none))
def region (P : Program) (C : Cfg) (ih : Ex) (ops : List Oper) (draw : Bool) (t : Tm) (h : H) : Option (Tm × H) := match draw with
  | false => runSeq P C ih ops ops t h
  | true => dr P C ih ops ops.length (List.replicate ops.length false) [] [] t h
/-! the steps -/
def beginR (h : H) (l : Nat) : Option H := match h.get l with
  | some (.loop L) => (match L.state with | .ready => some (h.put l (.loop { L with state := .busy })) | _ => none)
  | _ => none
def endL (h : H) (l : Nat) : Option (List It × H) := match h.get l with
  | some (.loop L) => (match L.state with
    | .busy => none
    | _ => some ((match L.pending with | some j => [.code j] | none => []), h.put l (.loop { L with state := .exhausted })))
  | _ => none
def around (h : H) : Option Nat → Option Nat
  | none => some h.n
  | some l => match h.get l with | some (.loop L) => some L.defers | _ => none
def h1R (h : H) : Option Nat → H | none => h.new (.deferred (some [])) | some _ => h
def f1R (f : F) (df : Nat) : Option Nat → F | none => ⟨f.fn, df :: f.d, none⟩ | some _ => f
def doRange (P : Program) (C : Cfg) (ih : Ex) (f : F) (t : Tm) (g : Value) (ps : Array Tmp) (sg b : Code) (k : List It) (h : H) : Option (Value × H) := match around h f.r with
  | some df =>
    (match callOf C g [.func (.yield (h1R h f.r).n) #[] #[]] ((h1R h f.r).new (.loop { state := .ready, pending := none, fn := f.fn, tmps := ⟨t.flatten⟩, params := ps, assign := sg, body := b, defers := df })) with
      | some (.enter q args h3) => (match enterV P C ih q args h3 with
        | some (_, h4) => (match endL h4 (h1R h f.r).n with
          | some (j, h5) => ih (f1R f df f.r) t (j ++ k) h5
          | none => none)
        | none => none)
      | _ => none)
  | none => none
def doExit (P : Program) (ih : Ex) (f : F) (t : Tm) (c : Code) (h : H) : Option (List It) → Option (Value × H)
  | some k => ih f t k h
  | none => leave P f t h (some c)
def doCond (ih : Ex) (f : F) (t : Tm) (a b : Code) (k : List It) (h : H) : Value → Option (Value × H)
  | .bool true => ih f t (.code a :: k) h
  | .bool false => ih f t (.code b :: k) h
  | _ => none
def doRegion (ih : Ex) (f : F) (k : List It) : Option (Tm × H) → Option (Value × H)
  | some (t, h) => ih f t k h
  | none => none
def doCode (P : Program) (C : Cfg) (ih : Ex) (f : F) (t : Tm) (c : Code) (k : List It) (h : H) : Option (Value × H) := match c with
  | .ret => leave P f t h (some .ret)
  | .skip => ih f t k h
  | .label _ => ih f t k h
  | .seq a b => ih f t (.code a :: .code b :: k) h
  | .cond x a b => (match okOp x with | true => doCond ih f t a b k h (evl t x) | false => none)
  | .block i b => ih f t (.code b :: .inBlock i :: k) h
  | .loop b => ih f t (.code b :: .inLoop b :: k) h
  | .scope b => ih f t (.code b :: .inScope b :: k) h
  | .exit i => doExit P ih f t (.exit i) h (exitI i k)
  | .goto l => doExit P ih f t (.goto l) h (gotoI l k)
  | .region _ ops d => doRegion ih f k (region P C ih ops.toList d t h)
  | .rangeFunc g ps sg b => (match okOp g with | true => doRange P C ih f t (evl t g) ps sg b k h | false => none)
  | .refuse _ => none
def doItem (P : Program) (C : Cfg) (ih : Ex) (f : F) (t : Tm) (todo : List It) (h : H) : Option (Value × H) := match todo with
  | [] => leave P f t h none
  | .code c :: k => doCode P C ih f t c k h
  | .inBlock _ :: k => ih f t k h
  | .inScope _ :: k => ih f t k h
  | .inLoop b :: k => ih f t (.code b :: .inLoop b :: k) h
  | .beginRound :: k => (match f.r with | some l => (match beginR h l with | some h' => ih f t k h' | none => none) | none => none)
def exec (P : Program) (C : Cfg) : Nat → Ex
  | 0 => fun _ _ _ _ => none
  | n + 1 => fun f t todo h => doItem P C (exec P C n) f t todo h
def call (P : Program) (C : Cfg) (n : Nat) (q : FuncId) (args : List Value) : Option (Value × H) := enterV P C (exec P C n) q args ⟨.nil, P.globals.size⟩
/-- A call with arguments of which some blocks, those below m, are not in the table. -/
def callA (P : Program) (C : Cfg) (n : Nat) (q : FuncId) (m : Nat) (args : List Value) : Option (Value × H) := enterV P C (exec P C n) q args ⟨.nil, m⟩
def isTrue : Option (Value × H) → Bool | some (.bool true, _) => true | _ => false
/-! blocks by number -/
theorem blt_true {a b : Nat} (h : Nat.blt a b = true) : a < b := Nat.le_of_ble_eq_true h
theorem beq_false' {a b : Nat} (h : Nat.beq a b = false) : a ≠ b := Nat.ne_of_beq_eq_false h
theorem beq_true' {a b : Nat} (h : Nat.beq a b = true) : a = b := Nat.eq_of_beq_eq_true h
theorem Tr.get_set : ∀ (d : Nat) (t : Tr) (x : Nat) (o : Obj), Tr.get d (Tr.set d t x o) x = some o
  | 0, _, _, _ => rfl
  | d + 1, t, x, o => by
    unfold Tr.set
    cases h : Nat.beq (x % 2) 0 <;> simp only [Tr.get, h]
    · exact Tr.get_set d _ _ _
    · exact Tr.get_set d _ _ _
theorem Tr.get_nil (d x : Nat) : Tr.get d .nil x = none := by cases d <;> rfl
theorem Tr.get_left {d : Nat} {t : Tr} {y : Nat} (h : Nat.beq (y % 2) 0 = true) : Tr.get d t.left (y / 2) = Tr.get (d + 1) t y := by
  cases t with
  | nil => simp only [Tr.left, Tr.get_nil]
  | leaf o => simp only [Tr.left, Tr.get_nil]; rfl
  | node l r => simp only [Tr.left, Tr.get, h]
theorem Tr.get_right {d : Nat} {t : Tr} {y : Nat} (h : Nat.beq (y % 2) 0 = false) : Tr.get d t.right (y / 2) = Tr.get (d + 1) t y := by
  cases t with
  | nil => simp only [Tr.right, Tr.get_nil]
  | leaf o => simp only [Tr.right, Tr.get_nil]; rfl
  | node l r => simp only [Tr.right, Tr.get, h]
theorem Tr.get_other : ∀ (d : Nat) (t : Tr) (x y : Nat) (o : Obj), x < 2 ^ d → y < 2 ^ d → x ≠ y → Tr.get d (Tr.set d t x o) y = Tr.get d t y
  | 0, _, _, _, _, hx, hy, h => by simp at hx hy; omega
  | d + 1, t, x, y, o, hx, hy, h => by
    rw [Nat.pow_succ] at hx hy
    unfold Tr.set
    cases h1 : Nat.beq (x % 2) 0 <;> cases h2 : Nat.beq (y % 2) 0
    · have e : x / 2 ≠ y / 2 := by have := beq_false' h1; have := beq_false' h2; omega
      simp only [Tr.get, h2]
      rw [Tr.get_other d _ _ _ _ (by omega) (by omega) e, Tr.get_right h2]
    · simp only [Tr.get, h2]
      exact Tr.get_left h2
    · simp only [Tr.get, h2]
      exact Tr.get_right h2
    · have e : x / 2 ≠ y / 2 := by have := beq_true' h1; have := beq_true' h2; omega
      simp only [Tr.get, h2]
      rw [Tr.get_other d _ _ _ _ (by omega) (by omega) e, Tr.get_left h2]
theorem H.get_lt {h : H} {k : Nat} {o : Obj} (hg : h.get k = some o) : k < 16384 := by
  unfold H.get at hg
  cases hb : Nat.blt k 16384 with
  | true => exact blt_true hb
  | false => rw [hb] at hg; cases hg
theorem blt_of {a b : Nat} (h : a < b) : Nat.blt a b = true := Nat.ble_eq_true_of_le h
theorem H.put_get {h : H} {k : Nat} {o : Obj} (hk : k < 16384) : (h.put k o).get k = some o := by
  unfold H.get H.put
  rw [blt_of hk]
  exact Tr.get_set _ _ _ _
theorem H.put_other {h : H} {k j : Nat} {o : Obj} (hk : k < 16384) (hj : j ≠ k) : (h.put k o).get j = h.get j := by
  unfold H.get H.put
  cases hb : Nat.blt j 16384 with
  | false => rfl
  | true => exact Tr.get_other _ _ _ _ _ hk (blt_true hb) (Ne.symm hj)
theorem H.put_n (h : H) (k : Nat) (o : Obj) : (h.put k o).n = h.n := rfl
theorem H.new_n (h : H) (o : Obj) : (h.new o).n = h.n + 1 := by unfold H.new; cases Nat.blt h.n 16384 <;> rfl
theorem H.new_get {h : H} {j : Nat} {o o' : Obj} (hg : (h.new o).get j = some o') : (j = h.n ∧ o' = o) ∨ (j ≠ h.n ∧ h.get j = some o') ∨ (j = h.n ∧ h.get j = some o') := by
  by_cases hj : j = h.n
  · subst hj
    unfold H.new at hg
    cases hb : Nat.blt h.n 16384 with
    | true =>
      rw [hb] at hg
      unfold H.get at hg
      rw [hb] at hg
      simp only at hg
      rw [Tr.get_set] at hg
      exact .inl ⟨rfl, by cases hg; rfl⟩
    | false =>
      rw [hb] at hg
      exact .inr (.inr ⟨rfl, hg⟩)
  · refine .inr (.inl ⟨hj, ?_⟩)
    unfold H.new at hg
    cases hb : Nat.blt h.n 16384 with
    | true =>
      rw [hb] at hg
      have := H.put_other (h := h) (o := o) (blt_true hb) hj
      unfold H.put H.get at this
      unfold H.get at hg ⊢
      rw [← this]; exact hg
    | false => rw [hb] at hg; exact hg
/-! values, moved -/
structure Rn where
  b : Nat → Nat
  c : Nat → Nat
/-! open numbers and texts: told by a number -/
def bys : Nat → Nat → List UInt8
  | 0, _ => []
  | _ + 1, 0 => []
  | k + 1, m + 1 => UInt8.ofNat (m % 256) :: bys k (m / 256)
def enb : List UInt8 → Nat
  | [] => 0
  | b :: l => 256 * enb l + b.toNat + 1
theorem bys_enb : ∀ (l : List UInt8) (k : Nat), enb l ≤ k → bys k (enb l) = l
  | [], k, h => by cases k <;> rfl
  | b :: l, k, h => by
    have hb := b.toNat_lt
    cases k with
    | zero => simp [enb] at h
    | succ k =>
      simp only [enb] at h ⊢
      simp only [bys]
      rw [show (256 * enb l + b.toNat) % 256 = b.toNat from by omega, show (256 * enb l + b.toNat) / 256 = enb l from by omega, bys_enb l k (by omega)]
      simp
/-- The whole number, or the text, that a number tells. -/
def opn (n : Nat) : Value := if n % 2 = 1 then .string ⟨(bys (n / 2) (n / 2)).toArray⟩ else .int .i64 (if n / 2 % 2 = 1 then -((n / 4 : Nat) : Int) - 1 else ((n / 4 : Nat) : Int))
theorem opn_str (s : ByteArray) : ∃ n, opn n = .string s := ⟨2 * enb s.data.toList + 1, by
  unfold opn
  rw [if_pos (by omega), show (2 * enb s.data.toList + 1) / 2 = enb s.data.toList from by omega, bys_enb _ _ (Nat.le_refl _)]⟩
theorem opn_int (z : Int) : ∃ n, opn n = .int .i64 z := by
  by_cases h : z < 0
  · refine ⟨4 * (-z - 1).toNat + 2, ?_⟩
    unfold opn
    rw [if_neg (by omega), if_pos (by omega)]
    congr 1; omega
  · refine ⟨4 * z.toNat, ?_⟩
    unfold opn
    rw [if_neg (by omega), if_neg (by omega)]
    congr 1; omega
theorem opn_cases (n : Nat) : (∃ s, opn n = .string s) ∨ ∃ z, opn n = .int .i64 z := by
  unfold opn; split
  · exact .inl ⟨_, rfl⟩
  · exact .inr ⟨_, rfl⟩
def Rn.a (ρ : Rn) (a : Addr) : Addr := ⟨ρ.b a.block, a.off, a.spot⟩
def Rn.fn (ρ : Rn) : Fn → Fn | .yield l => .yield (ρ.b l) | f => f
mutual
def Rn.v (ρ : Rn) : Value → Value
  | .pointer (some a) => .pointer (some (ρ.a a))
  | .slice (some a) n c => .slice (some (ρ.a a)) n (if c < U then c else ρ.c a.block - (c - U))
  | .map (some r) => .map (some (ρ.b r))
  | .func f ⟨a⟩ ⟨b⟩ => .func (ρ.fn f) ⟨ρ.vs a⟩ ⟨ρ.vs b⟩
  | .iface t v => .iface t (ρ.v v)
  | .agg ⟨cs⟩ => .agg ⟨ρ.vs cs⟩
  | .tuple ⟨cs⟩ => .tuple ⟨ρ.vs cs⟩
  | .chan (some k) => opn (ρ.c k)
  | v => v
def Rn.vs (ρ : Rn) : List Value → List Value
  | [] => []
  | v :: l => ρ.v v :: ρ.vs l
end
mutual
/-- All numbers of blocks, and of open values, are below n. -/
def bd (n : Nat) : Value → Prop
  | .pointer (some a) => a.block < n
  | .slice (some a) _ _ => a.block < n
  | .map (some r) => r < n
  | .func f ⟨a⟩ ⟨b⟩ => (∀ l, f = .yield l → l < n) ∧ bds n a ∧ bds n b
  | .iface _ v => bd n v
  | .agg ⟨cs⟩ => bds n cs
  | .tuple ⟨cs⟩ => bds n cs
  | .chan (some k) => k < n
  | _ => True
def bds (n : Nat) : List Value → Prop
  | [] => True
  | v :: l => bd n v ∧ bds n l
end
theorem Rn.vs_map (ρ : Rn) : ∀ l, ρ.vs l = l.map ρ.v
  | [] => by simp [Rn.vs]
  | v :: l => by simp [Rn.vs, Rn.vs_map ρ l]
theorem bds_iff {n : Nat} : ∀ {l}, bds n l ↔ ∀ v ∈ l, bd n v
  | [] => by simp [bds]
  | v :: l => by simp [bds, bds_iff (l := l)]
theorem Rn.vs_len (ρ : Rn) (l : List Value) : (ρ.vs l).length = l.length := by simp [Rn.vs_map]
/-- Two movings are alike below n. -/
def Rn.ext (n : Nat) (ρ σ : Rn) : Prop := ∀ k, k < n → σ.b k = ρ.b k ∧ σ.c k = ρ.c k
theorem Rn.ext.refl (n : Nat) (ρ : Rn) : ρ.ext n ρ := fun _ _ => ⟨rfl, rfl⟩
theorem Rn.ext.trans {n m : Nat} {ρ σ τ : Rn} (h : ρ.ext n σ) (k : σ.ext m τ) (hn : n ≤ m) : ρ.ext n τ := fun i hi => ⟨(k i (by omega)).1.trans (h i hi).1, (k i (by omega)).2.trans (h i hi).2⟩
theorem Rn.ext.mono {n m : Nat} {ρ σ : Rn} (h : ρ.ext n σ) (hm : m ≤ n) : ρ.ext m σ := fun i hi => h i (by omega)
mutual
theorem Rn.ext.v {n : Nat} {ρ σ : Rn} (h : ρ.ext n σ) : ∀ v, bd n v → σ.v v = ρ.v v
  | .pointer (some a), hb => by simp only [bd] at hb; simp only [Rn.v, Rn.a, (h _ hb).1]
  | .slice (some a) m c, hb => by simp only [bd] at hb; simp only [Rn.v, Rn.a, (h _ hb).1, (h _ hb).2]
  | .map (some r), hb => by simp only [bd] at hb; simp only [Rn.v, (h _ hb).1]
  | .func f ⟨a⟩ ⟨b⟩, hb => by
    simp only [bd] at hb
    have hf : σ.fn f = ρ.fn f := by
      cases f with
      | yield l => simp only [Rn.fn, (h _ (hb.1 l rfl)).1]
      | _ => rfl
    simp only [Rn.v, hf, h.vs a hb.2.1, h.vs b hb.2.2]
  | .iface t v, hb => by simp only [bd] at hb; simp only [Rn.v, h.v v hb]
  | .agg ⟨cs⟩, hb => by simp only [bd] at hb; simp only [Rn.v, h.vs cs hb]
  | .tuple ⟨cs⟩, hb => by simp only [bd] at hb; simp only [Rn.v, h.vs cs hb]
  | .bool _, _ => by simp [Rn.v]
  | .int _ _, _ => by simp [Rn.v]
  | .float _ _, _ => by simp [Rn.v]
  | .complex _ _ _, _ => by simp [Rn.v]
  | .string _, _ => by simp [Rn.v]
  | .pointer none, _ => by simp [Rn.v]
  | .slice none _ _, _ => by simp [Rn.v]
  | .map none, _ => by simp [Rn.v]
  | .chan none, _ => by simp [Rn.v]
  | .chan (some k), hb => by simp only [bd] at hb; simp only [Rn.v, (h _ hb).2]
  | .nilFunc, _ => by simp [Rn.v]
  | .nilIface, _ => by simp [Rn.v]
theorem Rn.ext.vs {n : Nat} {ρ σ : Rn} (h : ρ.ext n σ) : ∀ l, bds n l → σ.vs l = ρ.vs l
  | [], _ => by simp [Rn.vs]
  | v :: l, hb => by simp only [bds] at hb; simp only [Rn.vs, h.v v hb.1, h.vs l hb.2]
end
mutual
theorem bd_mono {n m : Nat} (hm : n ≤ m) : ∀ v, bd n v → bd m v
  | .pointer (some a), hb => by simp only [bd] at hb ⊢; omega
  | .slice (some a) _ c, hb => by simp only [bd] at hb ⊢; omega
  | .map (some r), hb => by simp only [bd] at hb ⊢; omega
  | .func f ⟨a⟩ ⟨b⟩, hb => by simp only [bd] at hb ⊢; exact ⟨fun l e => by have := hb.1 l e; omega, bds_mono hm a hb.2.1, bds_mono hm b hb.2.2⟩
  | .iface t v, hb => by simp only [bd] at hb ⊢; exact bd_mono hm v hb
  | .agg ⟨cs⟩, hb => by simp only [bd] at hb ⊢; exact bds_mono hm cs hb
  | .tuple ⟨cs⟩, hb => by simp only [bd] at hb ⊢; exact bds_mono hm cs hb
  | .bool _, _ => by simp [bd]
  | .int _ _, _ => by simp [bd]
  | .float _ _, _ => by simp [bd]
  | .complex _ _ _, _ => by simp [bd]
  | .string _, _ => by simp [bd]
  | .pointer none, _ => by simp [bd]
  | .slice none _ _, _ => by simp [bd]
  | .map none, _ => by simp [bd]
  | .chan none, _ => by simp [bd]
  | .chan (some k), hb => by simp only [bd] at hb ⊢; omega
  | .nilFunc, _ => by simp [bd]
  | .nilIface, _ => by simp [bd]
theorem bds_mono {n m : Nat} (hm : n ≤ m) : ∀ l, bds n l → bds m l
  | [], _ => by simp [bds]
  | v :: l, hb => by simp only [bds] at hb ⊢; exact ⟨bd_mono hm v hb.1, bds_mono hm l hb.2⟩
end
/-! the blocks in a world -/
def Rn.e (ρ : Rn) (e : MapEntry) : MapEntry := ⟨ρ.v e.key, ρ.v e.val, e.born⟩
def live : Obj → Bool
  | .cells _ _ _ => true
  | .pending _ _ => true
  | .map _ _ => true
  | .loop _ => true
  | .deferred _ => true
  | .mapIter _ _ _ _ => true
  | _ => false
theorem prim_v {v : Value} (ρ : Rn) (h : prim v = true) : ρ.v v = v := by cases v <;> simp_all [prim, Rn.v]
theorem prims_v (ρ : Rn) : ∀ {l : List Value}, prims l = true → ρ.vs l = l
  | [], _ => by simp [Rn.vs]
  | v :: l, h => by
    unfold prims at h
    cases hv : prim v with
    | false => rw [hv] at h; cases h
    | true => rw [hv] at h; simp only [Rn.vs, prim_v ρ hv, prims_v ρ h]
theorem isKey_v {v : Value} (ρ : Rn) (h : isKey v = true) : ρ.v v = v := by
  cases v with
  | agg cs => obtain ⟨l⟩ := cs; simp only [isKey] at h; simp only [Rn.v, prims_v ρ h]
  | bool b => simp [Rn.v]
  | int k n => simp [Rn.v]
  | string s => simp [Rn.v]
  | _ => simp [isKey, prim] at h
theorem prim_bd {v : Value} (n : Nat) (h : prim v = true) : bd n v := by cases v <;> simp_all [prim, bd]
theorem prims_bd (n : Nat) : ∀ {l : List Value}, prims l = true → bds n l
  | [], _ => by simp [bds]
  | v :: l, h => by
    unfold prims at h
    cases hv : prim v with
    | false => rw [hv] at h; cases h
    | true => rw [hv] at h; exact ⟨prim_bd n hv, prims_bd n h⟩
theorem isKey_bd {v : Value} (n : Nat) (h : isKey v = true) : bd n v := by
  cases v with
  | agg cs => obtain ⟨l⟩ := cs; simp only [isKey] at h; simpa only [bd] using prims_bd n h
  | bool b => simp [bd]
  | int k n => simp [bd]
  | string s => simp [bd]
  | _ => simp [isKey, prim] at h
def bdO (n : Nat) : Obj → Prop
  | .cells c _ _ => bds n c.toList
  | .pending c _ => bds n c.toList
  | .map es _ => ∀ e ∈ es.toList, isKey e.key = true ∧ bd n e.val
  | .mapIter m _ _ _ => ∀ r, m = some r → r < n
  | .loop L => bds n L.tmps.toList ∧ L.defers < n
  | _ => True
def RelO (P : Program) (ρ : Rn) (w : World) (k : Nat) : Obj → Prop
  | .cells c t z => z = (0, 0) ∧ w.heap[ρ.b k]? = some (.cells ⟨ρ.vs c.toList⟩ t (0, 0))
  | .pending c t => ∃ (z : List Value) (i : TypeInfo), P.info? t = some i ∧ 0 < i.size ∧ c.toList.length + z.length = ρ.c k * i.size ∧ w.heap[ρ.b k]? = some (.cells ⟨ρ.vs c.toList ++ z⟩ t (0, 0))
  | .map es c => w.heap[ρ.b k]? = some (.map ⟨es.toList.map ρ.e⟩ c)
  | .loop L => w.heap[ρ.b k]? = some (.loop { L with tmps := ⟨ρ.vs L.tmps.toList⟩, defers := ρ.b L.defers })
  | .deferred d => (d = none ∨ d = some []) ∧ w.heap[ρ.b k]? = some (.deferred d)
  | .mapIter m a b c => w.heap[ρ.b k]? = some (.mapIter (m.map ρ.b) a b c)
  | _ => True
/-- A world, and which of its blocks stay. -/
structure Base where
  w : World
  keep : Nat → Prop
structure Under (B : Base) (w : World) : Prop where
  os : w.os = B.w.os
  tape : w.tape = B.w.tape
  output : w.output = B.w.output
  size : B.w.heap.size ≤ w.heap.size
  block : ∀ k, B.keep k → w.heap[k]? = B.w.heap[k]?
structure Rel (P : Program) (w0 : Base) (ρ : Rn) (h : H) (w : World) : Prop where
  below : Under w0 w
  kl : ∀ k, w0.keep k → k < w0.w.heap.size
  obj : ∀ k o, h.get k = some o → k < h.n ∧ bdO h.n o ∧ RelO P ρ w k o
  lo : ∀ k o, h.get k = some o → live o = true → ¬ w0.keep (ρ.b k) ∧ ρ.b k < w.heap.size
  inj : ∀ j k o o', h.get j = some o → h.get k = some o' → live o = true → live o' = true → ρ.b j = ρ.b k → j = k
theorem bdO_mono {n m : Nat} (hm : n ≤ m) : ∀ o, bdO n o → bdO m o
  | .cells c _ _, h => bds_mono hm _ h
  | .pending c _, h => bds_mono hm _ h
  | .map es _, h => fun e he => ⟨(h e he).1, bd_mono hm _ (h e he).2⟩
  | .loop L, h => ⟨bds_mono hm _ h.1, Nat.lt_of_lt_of_le h.2 hm⟩
  | .view .., _ => trivial
  | .number .., _ => trivial
  | .chan .., _ => trivial
  | .stringIter .., _ => trivial
  | .mapIter .., h => fun r e => Nat.lt_of_lt_of_le (h r e) hm
  | .deferred .., _ => trivial
  | .coro .., _ => trivial
  | .finalizers .., _ => trivial
theorem RelO.ext {P : Program} {ρ σ : Rn} {w : World} {n k : Nat} (hx : ρ.ext n σ) (hk : k < n) : ∀ {o : Obj}, bdO n o → RelO P ρ w k o → RelO P σ w k o
  | .cells c t z, hb, h => by
    simp only [bdO] at hb
    simp only [RelO] at h ⊢
    rw [(hx k hk).1, hx.vs _ hb]; exact h
  | .pending c t, hb, h => by
    simp only [bdO] at hb
    simp only [RelO] at h ⊢
    rw [(hx k hk).1, (hx k hk).2, hx.vs _ hb]; exact h
  | .map es c, hb, h => by
    simp only [bdO] at hb
    simp only [RelO] at h ⊢
    have : es.toList.map σ.e = es.toList.map ρ.e := List.map_congr_left fun e he => by simp only [Rn.e, isKey_v σ (hb e he).1, isKey_v ρ (hb e he).1, hx.v _ (hb e he).2]
    rw [(hx k hk).1, this]; exact h
  | .loop L, hb, h => by
    simp only [bdO] at hb
    simp only [RelO] at h ⊢
    rw [(hx k hk).1, hx.vs _ hb.1, (hx _ hb.2).1]; exact h
  | .deferred d, hb, h => by
    simp only [RelO] at h ⊢
    rw [(hx k hk).1]; exact h
  | .view .., _, _ => trivial
  | .number .., _, _ => trivial
  | .chan .., _, _ => trivial
  | .stringIter .., _, _ => trivial
  | .mapIter m _ _ _, hb, h => by
    simp only [bdO] at hb
    simp only [RelO] at h ⊢
    have : m.map σ.b = m.map ρ.b := by cases m with
      | none => rfl
      | some r => simp [(hx r (hb r rfl)).1]
    rw [(hx k hk).1, this]; exact h
  | .coro .., _, _ => trivial
  | .finalizers .., _, _ => trivial
theorem RelO.world {P : Program} {ρ : Rn} {w w' : World} {k : Nat} (hw : w'.heap[ρ.b k]? = w.heap[ρ.b k]?) : ∀ {o : Obj}, RelO P ρ w k o → RelO P ρ w' k o
  | .cells c t z, h => by simp only [RelO] at h ⊢; rw [hw]; exact h
  | .pending c t, h => by simp only [RelO] at h ⊢; rw [hw]; exact h
  | .map es c, h => by simp only [RelO] at h ⊢; rw [hw]; exact h
  | .loop L, h => by simp only [RelO] at h ⊢; rw [hw]; exact h
  | .deferred d, h => by simp only [RelO] at h ⊢; rw [hw]; exact h
  | .view .., _ => trivial
  | .number .., _ => trivial
  | .chan .., _ => trivial
  | .stringIter .., _ => trivial
  | .mapIter .., h => by simp only [RelO] at h ⊢; rw [hw]; exact h
  | .coro .., _ => trivial
  | .finalizers .., _ => trivial
theorem RelO.dead {P : Program} {ρ : Rn} {w : World} {k : Nat} : ∀ {o : Obj}, live o = false → RelO P ρ w k o
  | .cells c t z, h => by cases h
  | .pending c t, h => by cases h
  | .map es c, h => by cases h
  | .loop L, h => by cases h
  | .deferred d, h => by cases h
  | .view .., _ => trivial
  | .number .., _ => trivial
  | .chan .., _ => trivial
  | .stringIter .., _ => trivial
  | .mapIter .., h => by cases h
  | .coro .., _ => trivial
  | .finalizers .., _ => trivial
/-- All but one block are as they were. -/
structure Upd (w w' : World) (b : Nat) : Prop where
  os : w'.os = w.os
  tape : w'.tape = w.tape
  output : w'.output = w.output
  size : w'.heap.size = w.heap.size
  other : ∀ k, k ≠ b → w'.heap[k]? = w.heap[k]?
theorem Upd.refl (w : World) (b : Nat) : Upd w w b := ⟨rfl, rfl, rfl, rfl, fun _ _ => rfl⟩
theorem Upd.trans {w w' w'' : World} {b : Nat} (h : Upd w w' b) (k : Upd w' w'' b) : Upd w w'' b := ⟨k.os.trans h.os, k.tape.trans h.tape, k.output.trans h.output, k.size.trans h.size, fun i hi => (k.other i hi).trans (h.other i hi)⟩
theorem Upd.setCell (w : World) (a : Addr) (v : Value) : Upd w (w.setCell a v) a.block := ⟨rfl, rfl, rfl, by simp [World.setCell], fun k hk => Below.heap_setCell _ _ _ _ hk⟩
theorem Upd.putObj (w : World) (b : Nat) (o : Obj) : Upd w (w.putObj b o) b := ⟨rfl, rfl, rfl, by simp [World.putObj], fun k hk => by simp only [World.putObj]; rw [Array.getElem?_setIfInBounds_ne (Ne.symm hk)]⟩
section
variable {P : Program} {w0 : Base} {w w' : World} {ρ : Rn} {h : H}
theorem Rel.upd {k : Nat} {o0 o1 : Obj} (R : Rel P w0 ρ h w) (hg : h.get k = some o0) (hl : live o0 = true) (hb : bdO h.n o1) (u : Upd w w' (ρ.b k)) (hO : RelO P ρ w' k o1) : Rel P w0 ρ (h.put k o1) w' := by
  have hk := H.get_lt hg
  have h0 := R.lo k o0 hg hl
  have rest : ∀ j o, (h.put k o1).get j = some o → j ≠ k → h.get j = some o := fun j o hj e => by rwa [H.put_other hk e] at hj
  refine ⟨?_, R.kl, ?_, ?_, ?_⟩
  · exact ⟨u.os.trans R.below.os, u.tape.trans R.below.tape, u.output.trans R.below.output, by rw [u.size]; exact R.below.size, fun i hi => (u.other i (fun e => h0.1 (e ▸ hi))).trans (R.below.block i hi)⟩
  · intro j o hj
    by_cases e : j = k
    · subst e
      rw [H.put_get hk] at hj
      cases hj
      exact ⟨(R.obj _ _ hg).1, hb, hO⟩
    · have hj' := rest j o hj e
      obtain ⟨h1, h2, h3⟩ := R.obj j o hj'
      refine ⟨h1, h2, ?_⟩
      cases hlo : live o with
      | false => exact RelO.dead hlo
      | true => exact h3.world (u.other _ fun e' => e (R.inj j k o o0 hj' hg hlo hl e'))
  · intro j o hj hlo
    by_cases e : j = k
    · subst e
      rw [u.size]; exact h0
    · rw [u.size]; exact R.lo j o (rest j o hj e) hlo
  · intro i j o o' hi hj l1 l2 e
    by_cases ei : i = k
    · subst ei
      by_cases ej : j = i
      · exact ej.symm
      · exact R.inj i j o0 o' hg (rest j o' hj ej) hl l2 e
    · by_cases ej : j = k
      · subst ej
        exact R.inj i j o o0 (rest i o hi ei) hg l1 hl e
      · exact R.inj i j o o' (rest i o hi ei) (rest j o' hj ej) l1 l2 e
/-- A block dies. -/
theorem Rel.kill {k : Nat} {o0 : Obj} (R : Rel P w0 ρ h w) (hg : h.get k = some o0) : Rel P w0 ρ (h.put k (.coro none)) w := by
  have hk := H.get_lt hg
  have rest : ∀ j o, (h.put k (.coro none)).get j = some o → live o = true → h.get j = some o := fun j o hj hl => by
    by_cases e : j = k
    · subst e; rw [H.put_get hk] at hj; cases hj; cases hl
    · rwa [H.put_other hk e] at hj
  refine ⟨R.below, R.kl, ?_, fun j o hj hl => R.lo j o (rest j o hj hl) hl, fun i j o o' hi hj l1 l2 e => R.inj i j o o' (rest i o hi l1) (rest j o' hj l2) l1 l2 e⟩
  intro j o hj
  by_cases e : j = k
  · subst e; rw [H.put_get hk] at hj; cases hj; exact ⟨(R.obj _ _ hg).1, trivial, trivial⟩
  · rw [H.put_other hk e] at hj
    exact R.obj j o hj
def Rn.set (ρ : Rn) (n b c : Nat) : Rn := ⟨fun k => if k = n then b else ρ.b k, fun k => if k = n then c else ρ.c k⟩
theorem Rn.set_ext (ρ : Rn) (n b c : Nat) : ρ.ext n (ρ.set n b c) := fun k hk => by simp [Rn.set, Nat.ne_of_lt hk]
/-- A number more: for a new block, or for one that no number names any more. -/
theorem Rel.add {o : Obj} {b c : Nat} (R : Rel P w0 ρ h w) (hB : Below 0 w w') (hsz : ∀ k, k ≠ b → k < w.heap.size → w'.heap[k]? = w.heap[k]?) (hb : bdO h.n o) (hlo : ¬ w0.keep b ∧ b < w'.heap.size)
    (hf : ∀ k o', h.get k = some o' → live o' = true → ρ.b k ≠ b) (hO : RelO P (ρ.set h.n b c) w' h.n o) : Rel P w0 (ρ.set h.n b c) (h.new o) w' := by
  have hx := ρ.set_ext h.n b c
  have hn := H.new_n h o
  have hnb : (ρ.set h.n b c).b h.n = b := by simp [Rn.set]
  have old : ∀ k o', h.get k = some o' → (ρ.set h.n b c).b k = ρ.b k := fun k o' hk => (hx k (R.obj k o' hk).1).1
  have cases' : ∀ k o', (h.new o).get k = some o' → (k = h.n ∧ o' = o) ∨ (k ≠ h.n ∧ h.get k = some o') := fun k o' hk => by
    rcases H.new_get hk with e | e | e
    · exact .inl e
    · exact .inr e
    · have := (R.obj k o' e.2).1; omega
  refine ⟨⟨hB.os.trans R.below.os, hB.tape.trans R.below.tape, hB.output.trans R.below.output, Nat.le_trans R.below.size hB.size, fun i hi => (hsz i (fun e => hlo.1 (e ▸ hi)) (Nat.lt_of_lt_of_le (R.kl i hi) R.below.size)).trans (R.below.block i hi)⟩, R.kl, ?_, ?_, ?_⟩
  · intro k o' hk
    rw [hn]
    rcases cases' k o' hk with ⟨rfl, rfl⟩ | ⟨_, hk'⟩
    · exact ⟨by omega, bdO_mono (by omega) _ hb, hO⟩
    · obtain ⟨h1, h2, h3⟩ := R.obj k o' hk'
      refine ⟨by omega, bdO_mono (by omega) _ h2, ?_⟩
      cases hl : live o' with
      | false => exact RelO.dead hl
      | true =>
        refine RelO.ext hx h1 h2 (h3.world ?_)
        exact hsz _ (hf k o' hk' hl) (R.lo k o' hk' hl).2
  · intro k o' hk hl
    rcases cases' k o' hk with ⟨rfl, rfl⟩ | ⟨_, hk'⟩
    · rw [hnb]; exact hlo
    · rw [old k o' hk']
      exact ⟨(R.lo k o' hk' hl).1, Nat.lt_of_lt_of_le (R.lo k o' hk' hl).2 hB.size⟩
  · intro i j oi oj hi hj l1 l2 e
    rcases cases' i oi hi with ⟨rfl, rfl⟩ | ⟨ni, hi'⟩ <;> rcases cases' j oj hj with ⟨rfl, rfl⟩ | ⟨nj, hj'⟩
    · rfl
    · rw [hnb, old j oj hj'] at e
      exact absurd e.symm (hf j oj hj' l2)
    · rw [hnb, old i oi hi'] at e
      exact absurd e (hf i oi hi' l1)
    · rw [old i oi hi', old j oj hj'] at e
      exact R.inj i j oi oj hi' hj' l1 l2 e
/-- A new block. -/
theorem Rel.new {o O : Obj} {c : Nat} (R : Rel P w0 ρ h w) (hb : bdO h.n o) (hO : RelO P (ρ.set h.n w.heap.size c) (w.alloc O) h.n o) : Rel P w0 (ρ.set h.n w.heap.size c) (h.new o) (w.alloc O) :=
  R.add (Below.alloc (Below.refl _ _) (Nat.zero_le _) O) (fun k _ hk => Below.heap_alloc _ _ _ hk) hb ⟨fun hk => by have := R.kl _ hk; have := R.below.size; omega, by simp⟩ (fun k o' hk hl e => by have := (R.lo k o' hk hl).2; omega) hO
theorem Rel.protect {b : Nat} (R : Rel P w0 ρ h w) (hb : b < w.heap.size) (hf : ∀ k o, h.get k = some o → live o = true → ρ.b k ≠ b) : Rel P ⟨w, fun k => w0.keep k ∨ k = b⟩ ρ h w :=
  ⟨⟨rfl, rfl, rfl, Nat.le_refl _, fun _ _ => rfl⟩, fun k hk => hk.elim (fun h => Nat.lt_of_lt_of_le (R.kl k h) R.below.size) (fun e => e ▸ hb), R.obj,
    fun k o hk hl => ⟨fun hh => hh.elim (R.lo k o hk hl).1 (hf k o hk hl), (R.lo k o hk hl).2⟩, R.inj⟩
theorem Rel.rebase {B : Base} (R : Rel P B ρ h w) (hk : ∀ k, w0.keep k → B.keep k) (hl : ∀ k, w0.keep k → k < w0.w.heap.size) (hu : Under w0 B.w) : Rel P w0 ρ h w :=
  ⟨⟨R.below.os.trans hu.os, R.below.tape.trans hu.tape, R.below.output.trans hu.output, Nat.le_trans hu.size R.below.size, fun k h => (R.below.block k (hk k h)).trans (hu.block k h)⟩, hl, R.obj,
    fun k o hg hv => ⟨fun h => (R.lo k o hg hv).1 (hk _ h), (R.lo k o hg hv).2⟩, R.inj⟩
theorem Rel.drawn (R : Rel P w0 ρ h w) (n : Nat) : Rel P w0 ρ h { w with drawn := n } :=
  ⟨⟨R.below.os, R.below.tape, R.below.output, R.below.size, R.below.block⟩, R.kl, fun k o hk => ⟨(R.obj k o hk).1, (R.obj k o hk).2.1, (R.obj k o hk).2.2.world rfl⟩, R.lo, R.inj⟩
end
/-! rows of cells -/
theorem nth_get {α : Type} : ∀ (l : List α) (i : Nat), nth l i = l[i]?
  | [], _ => by simp [nth]
  | _ :: _, 0 => by simp [nth]
  | _ :: l, n + 1 => by simp [nth, nth_get l n]
theorem bds_get {n : Nat} {l : List Value} {i : Nat} {v : Value} (h : bds n l) (hv : l[i]? = some v) : bd n v := bds_iff.1 h v (List.mem_of_getElem? hv)
theorem bds_sub {n : Nat} {l m : List Value} (h : bds n l) (hs : ∀ v ∈ m, v ∈ l) : bds n m := bds_iff.2 fun v hv => bds_iff.1 h v (hs v hv)
theorem bds_app {n : Nat} {l m : List Value} : bds n (l ++ m) ↔ bds n l ∧ bds n m := by
  simp only [bds_iff, List.mem_append]
  exact ⟨fun h => ⟨fun v hv => h v (.inl hv), fun v hv => h v (.inr hv)⟩, fun h v hv => hv.elim (h.1 v) (h.2 v)⟩
theorem Rn.vs_app (ρ : Rn) (l m : List Value) : ρ.vs (l ++ m) = ρ.vs l ++ ρ.vs m := by simp [Rn.vs_map]
theorem Rn.vs_take (ρ : Rn) (l : List Value) (n : Nat) : ρ.vs (l.take n) = (ρ.vs l).take n := by simp [Rn.vs_map]
theorem Rn.vs_drop (ρ : Rn) (l : List Value) (n : Nat) : ρ.vs (l.drop n) = (ρ.vs l).drop n := by simp [Rn.vs_map]
theorem Rn.vs_get (ρ : Rn) (l : List Value) (i : Nat) : (ρ.vs l)[i]? = (l[i]?).map ρ.v := by simp [Rn.vs_map]
theorem chan_v (ρ : Rn) (r : Option Nat) : (∃ s, ρ.v (.chan r) = .string s) ∨ (∃ z, ρ.v (.chan r) = .int .i64 z) ∨ ρ.v (.chan r) = .chan r := by
  cases r with
  | none => exact .inr (.inr (by simp [Rn.v]))
  | some k =>
    rcases opn_cases (ρ.c k) with ⟨s, e⟩ | ⟨z, e⟩
    · exact .inl ⟨s, by simp [Rn.v, e]⟩
    · exact .inr (.inl ⟨z, by simp [Rn.v, e]⟩)
theorem cellsOf_v (ρ : Rn) (v : Value) : (ρ.v v).cells = ⟨ρ.vs (cellsOf v)⟩ := by
  cases v with
  | pointer a => cases a <;> simp [Rn.v, Rn.vs, cellsOf, Value.cells]
  | slice a n c => cases a <;> simp [Rn.v, Rn.vs, cellsOf, Value.cells]
  | map a => cases a <;> simp [Rn.v, Rn.vs, cellsOf, Value.cells]
  | agg cs => cases cs; simp [Rn.v, cellsOf, Value.cells]
  | tuple cs => cases cs; simp [Rn.v, Rn.vs, cellsOf, Value.cells]
  | func f a b => cases a; cases b; simp [Rn.v, Rn.vs, cellsOf, Value.cells]
  | chan r =>
    cases r with
    | none => simp [Rn.v, Rn.vs, cellsOf, Value.cells, Value.oneCell']
    | some k => rcases opn_cases (ρ.c k) with ⟨s, e⟩ | ⟨z, e⟩ <;> simp [Rn.vs, cellsOf, Value.cells, e, Rn.v]
  | _ => simp [Rn.v, Rn.vs, cellsOf, Value.cells]
theorem bds_cellsOf {n : Nat} {v : Value} (h : bd n v) : bds n (cellsOf v) := by
  cases v with
  | agg cs => cases cs; simpa [cellsOf, bd] using h
  | _ => exact ⟨h, trivial⟩
theorem plain_v {v : Value} (ρ : Rn) (n : Nat) (h : plain v = true) : ρ.v v = v ∧ bd n v := by
  cases v with
  | pointer a => cases a with
    | none => simp [Rn.v, bd]
    | some a => cases h
  | slice a m c => cases a with
    | none => exact ⟨by simp [Rn.v], by simp [bd]⟩
    | some a => cases h
  | map a => cases a with
    | none => simp [Rn.v, bd]
    | some a => cases h
  | bool b => simp [Rn.v, bd]
  | int k m => simp [Rn.v, bd]
  | string s => simp [Rn.v, bd]
  | nilFunc => simp [Rn.v, bd]
  | nilIface => simp [Rn.v, bd]
  | _ => cases h
theorem plains_v (ρ : Rn) (n : Nat) : ∀ {l : List Value}, plains l = true → ρ.vs l = l ∧ bds n l
  | [], _ => by simp [Rn.vs, bds]
  | v :: l, h => by
    unfold plains at h
    cases hv : plain v with
    | false => rw [hv] at h; cases h
    | true =>
      rw [hv] at h
      have h1 := plain_v ρ n hv
      have h2 := plains_v ρ n (l := l) h
      exact ⟨by simp only [Rn.vs, h1.1, h2.1], ⟨h1.2, h2.2⟩⟩
theorem one1_v (ρ : Rn) {v : Value} (h : one1 v = true) : (ρ.v v).oneCell' = true := by
  cases v with
  | pointer a => cases a <;> simp [Rn.v, Value.oneCell']
  | slice a m c => cases a <;> simp [Rn.v, Value.oneCell']
  | map a => cases a <;> simp [Rn.v, Value.oneCell']
  | agg cs => cases h
  | tuple cs => cases h
  | func f a b => cases a; cases b; simp [Rn.v, Value.oneCell']
  | chan r =>
    cases r with
    | none => simp [Rn.v, Rn.vs, cellsOf, Value.cells, Value.oneCell']
    | some k => rcases opn_cases (ρ.c k) with ⟨s, e⟩ | ⟨z, e⟩ <;> simp [Rn.v, Value.oneCell', e]
  | _ => simp [Rn.v, Value.oneCell']
theorem ones_v (ρ : Rn) : ∀ {l : List Value}, ones l = true → ∀ v ∈ ρ.vs l, v.oneCell' = true
  | [], _ => by simp [Rn.vs]
  | v :: l, h => by
    unfold ones at h
    cases hv : one1 v with
    | false => rw [hv] at h; cases h
    | true =>
      rw [hv] at h
      simp only [Rn.vs, List.mem_cons]
      rintro x (rfl | hx)
      · exact one1_v ρ hv
      · exact ones_v ρ h x hx
theorem over_eq : ∀ {vs c r : List Value}, over vs c = some r → vs.length ≤ c.length ∧ r = vs ++ c.drop vs.length
  | [], c, r, h => by simp only [over, Option.some.injEq] at h; subst h; simp
  | v :: vs, [], r, h => by simp [over] at h
  | v :: vs, x :: c, r, h => by
    simp only [over] at h
    cases ho : over vs c with
    | none => rw [ho] at h; cases h
    | some q =>
      rw [ho] at h
      simp only [Option.some.injEq] at h
      subst h
      obtain ⟨h1, h2⟩ := over_eq ho
      exact ⟨by simp; omega, by simp [h2]⟩
theorem overAt_eq : ∀ {n : Nat} {vs c r : List Value}, overAt n vs c = some r → n + vs.length ≤ c.length ∧ r = c.take n ++ vs ++ c.drop (n + vs.length)
  | 0, vs, c, r, h => by
    have := over_eq h
    exact ⟨by omega, by simpa using this.2⟩
  | n + 1, vs, [], r, h => by simp [overAt] at h
  | n + 1, vs, x :: c, r, h => by
    simp only [overAt] at h
    cases ho : overAt n vs c with
    | none => rw [ho] at h; cases h
    | some q =>
      rw [ho] at h
      simp only [Option.some.injEq] at h
      subst h
      obtain ⟨h1, h2⟩ := overAt_eq ho
      refine ⟨by simp; omega, ?_⟩
      rw [h2, show n + 1 + vs.length = (n + vs.length) + 1 by omega]
      simp
theorem cut_eq {c r : List Value} {off n : Nat} (h : cut c off n = some r) : r.length = n ∧ r = (c.drop off).take n := by
  unfold cut at h
  simp only at h
  cases hb : Nat.beq ((c.drop off).take n).length n with
  | false => rw [hb] at h; cases h
  | true =>
    rw [hb] at h
    cases h
    exact ⟨beq_true' hb, rfl⟩
section
variable {P : Program} {w0 : Base} {w w' : World} {ρ : Rn} {h : H}
theorem Rel.row {k : Nat} {c : List Value} (R : Rel P w0 ρ h w) (hr : h.row k = some c) : ∃ o z t, h.get k = some o ∧ rowOf o = some c ∧ live o = true ∧ bds h.n c ∧ k < h.n ∧ w.heap[ρ.b k]? = some (.cells ⟨ρ.vs c ++ z⟩ t (0, 0)) ∧
    (∀ c', c'.length = c.length → bds h.n c' → bdO h.n (reRow o c') ∧ ∀ w' : World, w'.heap[ρ.b k]? = some (.cells ⟨ρ.vs c' ++ z⟩ t (0, 0)) → RelO P ρ w' k (reRow o c')) := by
  unfold H.row at hr
  cases hg : h.get k with
  | none => rw [hg] at hr; cases hr
  | some o =>
    rw [hg] at hr
    obtain ⟨h1, h2, h3⟩ := R.obj k o hg
    cases o with
    | cells c0 t z =>
      simp only [rowOf, Option.some.injEq] at hr
      subst hr
      simp only [RelO] at h3
      obtain ⟨rfl, h4⟩ := h3
      exact ⟨_, [], t, rfl, rfl, rfl, h2, h1, by simpa using h4, fun c' hc hb => ⟨hb, fun w' hw' => by simp only [reRow, RelO]; exact ⟨trivial, by simpa using hw'⟩⟩⟩
    | pending c0 t =>
      simp only [rowOf, Option.some.injEq] at hr
      subst hr
      simp only [RelO] at h3
      obtain ⟨z, i, hi, hs, hl, h4⟩ := h3
      exact ⟨_, z, t, rfl, rfl, rfl, h2, h1, h4, fun c' hc hb => ⟨hb, fun w' hw' => by simp only [reRow, RelO]; exact ⟨z, i, hi, hs, by rw [← hl, ← hc], hw'⟩⟩⟩
    | _ => cases hr
theorem Rel.cells {a : Addr} {n : Nat} {cs : List Value} (R : Rel P w0 ρ h w) (hc : h.cells a n = some cs) : cs.length = n ∧ bds h.n cs ∧ a.spot = none ∧ a.block < h.n ∧ ∀ j v, (ρ.vs cs)[j]? = some v → w.cell? ((ρ.a a).add j) = some v := by
  unfold H.cells at hc
  cases hsp : a.spot with
  | some s => rw [hsp] at hc; cases hc
  | none =>
    cases hr : h.row a.block with
    | none => rw [hsp, hr] at hc; cases hc
    | some c =>
      rw [hsp, hr] at hc
      obtain ⟨h1, h2⟩ := cut_eq hc
      obtain ⟨o, z, t, -, -, -, hb, hk, hw, -⟩ := R.row hr
      refine ⟨h1, ?_, rfl, hk, ?_⟩
      · rw [h2]; exact bds_sub hb fun v hv => List.mem_of_mem_drop (List.mem_of_mem_take hv)
      · intro j v hv
        have hadd : (ρ.a a).add j = ⟨ρ.b a.block, a.off + j, none⟩ := by
          unfold Rn.a Addr.add
          split
          · simp_all
          · rfl
        rw [hadd]
        rw [Rn.vs_get] at hv
        cases hcj : cs[j]? with
        | none => rw [hcj] at hv; cases hv
        | some u =>
          rw [hcj] at hv
          have hj : c[a.off + j]? = some u := by
            rw [h2, List.getElem?_take] at hcj
            split at hcj
            · rwa [List.getElem?_drop] at hcj
            · cases hcj
          have hlt := (List.getElem?_eq_some_iff.1 hj).1
          simp only [World.cell?, hw]
          have : (ρ.vs c ++ z)[a.off + j]? = some v := by
            rw [List.getElem?_append_left (by rw [Rn.vs_len]; exact hlt), Rn.vs_get, hj]
            exact hv
          simpa using this
theorem Rel.loadCells {a : Addr} {n : Nat} {cs : List Value} (R : Rel P w0 ρ h w) (hc : h.cells a n = some cs) : (loadCells (ρ.a a) n).run P w = .ok ⟨ρ.vs cs⟩ w := by
  obtain ⟨h1, -, -, -, h5⟩ := R.cells hc
  have := run_loadCells_list (P := P) w (ρ.a a) (ρ.vs cs) h5
  rw [Rn.vs_len, h1] at this
  exact this
theorem Rel.store {a : Addr} {vs : List Value} {h' : H} (R : Rel P w0 ρ h w) (hs : h.store a vs = some h') (hv : bds h.n vs) (h1 : ∀ v ∈ ρ.vs vs, v.oneCell' = true) :
    ∃ w', (storeCells (ρ.a a) (ρ.vs vs)).run P w = .ok () w' ∧ Rel P w0 ρ h' w' ∧ h'.n = h.n := by
  unfold H.store at hs
  cases hsp : a.spot with
  | some s => rw [hsp] at hs; cases hs
  | none =>
    cases hg : h.get a.block with
    | none => rw [hsp, hg] at hs; cases hs
    | some o =>
      rw [hsp, hg] at hs
      simp only at hs
      cases hro : rowOf o with
      | none => rw [hro] at hs; cases hs
      | some c =>
        rw [hro] at hs
        simp only at hs
        cases hov : overAt a.off vs c with
        | none => rw [hov] at hs; cases hs
        | some r =>
          rw [hov] at hs
          cases hs
          have hrow : h.row a.block = some c := by unfold H.row; rw [hg]; exact hro
          obtain ⟨o', z, t, hg', -, hl, hb, hk, hw, hre⟩ := R.row hrow
          rw [hg] at hg'
          cases hg'
          obtain ⟨e1, e2⟩ := overAt_eq hov
          have hlen : r.length = c.length := by rw [e2]; simp; omega
          have hbr : bds h.n r := by
            rw [e2]
            exact bds_app.2 ⟨bds_app.2 ⟨bds_sub hb fun v hv => List.mem_of_mem_take hv, hv⟩, bds_sub hb fun v hv => List.mem_of_mem_drop hv⟩
          obtain ⟨q1, q2⟩ := hre r hlen hbr
          have ha : ρ.a a = ⟨ρ.b a.block, a.off, none⟩ := by unfold Rn.a; rw [hsp]
          have hst := run_storeCells_at (P := P) (ρ.b a.block) a.off t (ρ.vs vs) 0 ⟨ρ.vs c ++ z⟩ w hw (by simp [Rn.vs_len]; omega) h1
          have hrow' : (⟨ρ.vs c ++ z⟩ : Array Value).toList.take (a.off + 0) ++ ρ.vs vs ++ (⟨ρ.vs c ++ z⟩ : Array Value).toList.drop (a.off + 0 + (ρ.vs vs).length) = ρ.vs r ++ z := by
            rw [e2]
            simp only [Nat.add_zero, Rn.vs_app, Rn.vs_take, Rn.vs_drop, Rn.vs_len]
            rw [List.take_append_of_le_length (by rw [Rn.vs_len]; omega), List.drop_append_of_le_length (by rw [Rn.vs_len]; omega)]
            simp
          rw [hrow'] at hst
          refine ⟨w.setRow (ρ.b a.block) (ρ.vs r ++ z).toArray, by rw [ha]; exact hst, ?_, rfl⟩
          refine R.upd hg hl q1 ⟨rfl, rfl, rfl, by simp, fun k hk => setRow_other _ _ _ _ hk⟩ (q2 _ ?_)
          exact setRow_heap _ _ _ _ _ _ hw
end
/-! what an operation does -/
section
variable {P : Program} {w0 : Base} {w w' : World} {ρ : Rn} {h : H}
/-- A value, in a world that goes on. -/
def Step (P : Program) (w0 : Base) (ρ : Rn) (h : H) (w : World) (s : Sem Next) (v : Value) (h' : H) : Prop :=
  ∃ σ w' x, s.run P w = .ok x w' ∧ (x = .value (σ.v v) ∨ x = .skip ∧ v = undef) ∧ ρ.ext h.n σ ∧ h.n ≤ h'.n ∧ Rel P w0 σ h' w' ∧ bd h'.n v
theorem Step.pure {s : Sem Value} {v : Value} (R : Rel P w0 ρ h w) (hs : s.run P w = .ok (ρ.v v) w) (hb : bd h.n v) : Step P w0 ρ h w (do Pure.pure (.value (← s))) v h :=
  ⟨ρ, w, .value (ρ.v v), by simp [hs], .inl rfl, Rn.ext.refl _ _, Nat.le_refl _, R, hb⟩
theorem undef_v (ρ : Rn) : ρ.v undef = undef := by simp [undef, Rn.v, Rn.vs]
theorem bd_undef (n : Nat) : bd n undef := by simp [undef, bd, bds]
theorem sz_some {t : TypeId} {n : Nat} (hs : sz P t = some n) : ∃ i, P.info? t = some i ∧ i.size = n := by
  unfold sz at hs
  cases hi : P.info? t with
  | none => rw [hi] at hs; cases hs
  | some i => rw [hi] at hs; cases hs; exact ⟨i, rfl, rfl⟩
theorem zr_some {t : TypeId} {z : Value} (hs : zr P t = some z) : ∃ i, P.info? t = some i ∧ i.zero = some z := by
  unfold zr at hs
  cases hi : P.info? t with
  | none => rw [hi] at hs; cases hs
  | some i => rw [hi] at hs; exact ⟨i, rfl, hs⟩
theorem run_size {t : TypeId} {n : Nat} (hs : sz P t = some n) (w : World) : (sizeOf t).run P w = .ok n w := by
  obtain ⟨i, hi, rfl⟩ := sz_some hs
  simp [sizeOf, typeInfo, hi]
theorem run_isA {t : TypeId} {b : Bool} (hs : isA P t = some b) (w : World) : (isAgg t).run P w = .ok b w := by
  unfold isA at hs
  cases hu : P.underlying t with
  | none => rw [hu] at hs; cases hs
  | some d =>
    rw [hu] at hs
    unfold isAgg
    rw [Sem.run_bind, run_underlying hu w]
    cases d <;> simp_all
theorem run_zr {t : TypeId} {z : Value} (hs : zr P t = some z) (w : World) : (zeroValue t).run P w = .ok z w := by
  obtain ⟨i, hi, hz⟩ := zr_some hs
  simp [zeroValue, typeInfo, hi, hz]
theorem und_run {t : TypeId} {d : TypeDesc} (hu : P.underlying t = some d) (w : World) : (underlying t).run P w = .ok d w := run_underlying hu w
theorem cells_eq (v : Value) : v.cells = ⟨cellsOf v⟩ := by cases v <;> simp [Value.cells, cellsOf]
theorem ofCells_v {b : Bool} {cs : List Value} {v : Value} (ho : ofCells b cs = some v) : (b = true ∧ v = .agg ⟨cs⟩) ∨ (b = false ∧ cs = [v]) := by
  unfold ofCells at ho
  split at ho
  · cases ho; exact .inl ⟨rfl, rfl⟩
  · cases ho; exact .inr ⟨rfl, rfl⟩
  · cases ho
theorem bd_ofCells {b : Bool} {cs : List Value} {v : Value} {n : Nat} (ho : ofCells b cs = some v) (hb : bds n cs) : bd n v := by
  rcases ofCells_v ho with ⟨rfl, rfl⟩ | ⟨rfl, rfl⟩
  · simpa [bd] using hb
  · exact hb.1
/-- A size 1 of what is no struct and no row. -/
def oneCellT (P : Program) (t : TypeId) : Prop := True
theorem Rel.ldVar {t : TypeId} {a : Addr} {v : Value} (R : Rel P w0 ρ h w) (hl : ldVar P h t a = some v) : (loadVar t (ρ.a a)).run P w = .ok (ρ.v v) w ∧ bd h.n v := by
  unfold Run.ldVar at hl
  cases hA : isA P t with
  | none => rw [hA] at hl; cases hl
  | some b =>
    cases hS : sz P t with
    | none => rw [hA, hS] at hl; cases hl
    | some n =>
      rw [hA, hS] at hl
      simp only at hl
      cases hc : h.cells a n with
      | none => rw [hc] at hl; cases hl
      | some cs =>
        rw [hc] at hl
        simp only at hl
        obtain ⟨h1, h2, h3, -, h5⟩ := R.cells hc
        refine ⟨?_, bd_ofCells hl h2⟩
        rcases ofCells_v hl with ⟨rfl, rfl⟩ | ⟨rfl, rfl⟩
        · simp [loadVar, run_isA hA, run_size hS, R.loadCells hc, Rn.v]
        · have hcell := h5 0 (ρ.v v) (by simp [Rn.vs])
          have hadd : (ρ.a a).add 0 = ρ.a a := by simp [Addr.add]
          rw [hadd] at hcell
          simp [loadVar, run_isA hA, hcell]
theorem Rel.opLoad {t : TypeId} {p v : Value} (R : Rel P w0 ρ h w) (hl : opLoad P h t p = some v) : (Instr.loadAt t (ρ.v p)).run P w = .ok (ρ.v v) w ∧ bd h.n v := by
  unfold Run.opLoad at hl
  split at hl
  · rename_i a
    obtain ⟨h1, h2⟩ := R.ldVar hl
    exact ⟨by simp [Instr.loadAt, Rn.v, Instr.sureAddr, h1], h2⟩
  · cases hl
theorem Rel.opStore {t : TypeId} {p v : Value} {nx : Nx} (R : Rel P w0 ρ h w) (hs : opStore P h t p v = some nx) (hb : bd h.n v) : ∃ h', nx = .val undef h' ∧ Step P w0 ρ h w (do Instr.storeAt t (ρ.v p) (ρ.v v); Pure.pure .skip) undef h' := by
  unfold Run.opStore at hs
  split at hs
  · rename_i a n hS
    cases hlen : Nat.beq (cellsOf v).length n with
    | false => rw [hlen] at hs; simp at hs
    | true =>
      cases ho : ones (cellsOf v) with
      | false => rw [hlen, ho] at hs; simp at hs
      | true =>
        rw [hlen, ho] at hs
        simp only at hs
        cases hst : h.store a (cellsOf v) with
        | none => rw [hst] at hs; cases hs
        | some h' =>
          rw [hst] at hs
          cases hs
          obtain ⟨w', h1, h2, h3⟩ := R.store hst (bds_cellsOf hb) (ones_v ρ ho)
          refine ⟨h', rfl, ρ, w', .skip, ?_, .inr ⟨rfl, rfl⟩, Rn.ext.refl _ _, Nat.le_of_eq h3.symm, h2, bd_undef _⟩
          have hc := cellsOf_v ρ v
          have hn : (ρ.v v).cells.size = n := by rw [hc]; simp [Rn.vs_len, beq_true' hlen]
          simp [Instr.storeAt, Rn.v, Instr.sureAddr, storeVar, run_size hS, hn]
          simp [hc, h1]
  · cases hs
theorem Rel.opNew {t : TypeId} {z : Value} {nx : Nx} (R : Rel P w0 ρ h w) (hs : opNew h t z = some nx) (hb : bd h.n z) : ∃ v h', nx = .val v h' ∧ Step P w0 ρ h w (do Pure.pure (.value (.pointer (some (← newVar t (ρ.v z)))))) v h' := by
  unfold Run.opNew at hs
  cases hs
  have hnb := bds_cellsOf hb
  have hx := ρ.set_ext h.n w.heap.size 0
  have R' := R.new (o := .cells ⟨cellsOf z⟩ t) (O := .cells ⟨ρ.vs (cellsOf z)⟩ t) (c := 0) hnb ⟨rfl, by
    rw [hx.vs _ hnb, show (ρ.set h.n w.heap.size 0).b h.n = w.heap.size by simp [Rn.set]]
    exact World.alloc_heap_new w _⟩
  refine ⟨_, _, rfl, _, _, _, ?_, .inl rfl, hx, by rw [H.new_n]; omega, R', by rw [H.new_n]; simp [bd]⟩
  have hc := cellsOf_v ρ z
  simp [newVar, newRow, hc, Rn.v, Rn.a, Rn.set]
theorem Rel.opMap {nx : Nx} (R : Rel P w0 ρ h w) (hs : opMap h = some nx) (t : TypeId) : ∃ v h', nx = .val v h' ∧ Step P w0 ρ h w (do Pure.pure (.value (← Instr.makeMap t none))) v h' := by
  unfold Run.opMap at hs
  cases hs
  have hx := ρ.set_ext h.n w.heap.size 0
  have R' := R.new (o := .map #[] 0) (O := .map #[] 0) (c := 0) (by simp [bdO]) (by
    simp only [RelO]
    rw [show (ρ.set h.n w.heap.size 0).b h.n = w.heap.size by simp [Rn.set]]
    exact World.alloc_heap_new w _)
  refine ⟨_, _, rfl, _, _, _, ?_, .inl rfl, hx, by rw [H.new_n]; omega, R', by rw [H.new_n]; simp [bd]⟩
  simp [Instr.makeMap, Rn.v, Rn.set]
theorem opPick_sound {c a b v : Value} (ρ : Rn) (n : Nat) (ho : opPick c a b = some v) (ha : bd n a) (hb : bd n b) : (do Pure.pure (if ← asBool (ρ.v c) then ρ.v a else ρ.v b) : Sem Value).run P w = .ok (ρ.v v) w ∧ bd n v := by
  unfold opPick at ho
  split at ho
  · cases ho; exact ⟨by simp [Rn.v, asBool], ha⟩
  · cases ho; exact ⟨by simp [Rn.v, asBool], hb⟩
  · cases ho
theorem opNil_sound {x v : Value} (ρ : Rn) (ho : opNil x = some v) : v = x ∧ (match ρ.v x with
    | .pointer none | .nilIface | .nilFunc => (runtimePanic .nilDeref : Sem Next)
    | .func (.method name) first captured =>
      match (first[0]? : Option Value) with
      | some .nilIface => runtimePanic .nilDeref
      | some (.iface t w) => do
        if (← nilAhead ((← program).types.size + Made.depth) t w name) != some false then
          unsupported (.noEntry "op/nilCheck.the method's receiver behind this interface value is a nil pointer, or cannot be seen to be none, and the arguments act or may panic (ledger 612)")
        Pure.pure (.value (.func (.method name) first captured))
      | _ => Pure.pure (.value (.func (.method name) first captured))
    | x => Pure.pure (.value x)) = Pure.pure (.value (ρ.v v)) := by
  cases x with
  | pointer a => cases a <;> simp only [opNil, Option.some.injEq, reduceCtorEq] at ho <;> subst ho <;> simp [Rn.v]
  | slice a m c => cases a <;> simp only [opNil, Option.some.injEq] at ho <;> subst ho <;> simp [Rn.v]
  | map a => cases a <;> simp only [opNil, Option.some.injEq] at ho <;> subst ho <;> simp [Rn.v]
  | func f a b => cases a; cases b; cases f <;> simp only [opNil, Option.some.injEq, reduceCtorEq] at ho <;> subst ho <;> simp [Rn.v, Rn.fn]
  | agg cs => cases cs; simp only [opNil, Option.some.injEq] at ho; subst ho; simp [Rn.v]
  | tuple cs => cases cs; simp only [opNil, Option.some.injEq] at ho; subst ho; simp [Rn.v]
  | nilFunc => cases ho
  | nilIface => cases ho
  | chan r => cases ho
  | _ => simp only [opNil, Option.some.injEq] at ho; subst ho; simp [Rn.v]
theorem opUn_sound {u : UnOp} {x v : Value} (ρ : Rn) (n : Nat) (ho : opUn u x = some v) : (Op.unary u (ρ.v x)).run P w = .ok (ρ.v v) w ∧ bd n v := by
  unfold opUn at ho
  split at ho
  · cases ho; simp [Rn.v, Op.unary, bd]
  · cases ho; simp [Rn.v, Op.unary, Op.intArith, bd]
  · cases ho
theorem Rel.shapeAt {a : Addr} {t n : Nat} (R : Rel P w0 ρ h w) (ho : shapeAt h a = some (t, n)) : a.spot = none ∧ w.shape? (ρ.b a.block) = some (t, n) := by
  unfold Run.shapeAt at ho
  split at ho
  · rename_i c t' z hsp hg
    cases ho
    obtain ⟨-, -, h3⟩ := R.obj _ _ hg
    simp only [RelO] at h3
    refine ⟨hsp, ?_⟩
    simp only [World.shape?, h3.2]
    simp [Rn.vs_len]
  · cases ho
theorem Rel.toUns {s d t : TypeId} {a : Addr} {v : Value} (R : Rel P w0 ρ h w) (hs : P.underlying s = some (.pointer t)) (hd : P.underlying d = some .unsafePointer) (ho : toUns P h t a = some v) (hb : a.block < h.n) :
    (convert s d (.pointer (some (ρ.a a)))).run P w = .ok (ρ.v v) w ∧ bd h.n v := by
  unfold Run.toUns at ho
  split at ho
  · rename_i m e n hsz hsh
    cases hlt : Nat.blt a.off n with
    | false => rw [hlt] at ho; cases ho
    | true =>
      rw [hlt] at ho
      cases ho
      obtain ⟨hsp, hw⟩ := R.shapeAt hsh
      have hlt' : ¬ n ≤ a.off := by have := blt_true hlt; omega
      refine ⟨?_, by simpa [bd] using hb⟩
      simp [convert, und_run hs, und_run hd, Conv.unsafePointer, Conv.seenAt, viewAt, cellsIn, Rn.a, hw, run_size hsz, hlt', Rn.v]
  · cases ho
theorem Rel.ofUns {s d t : TypeId} {a : Addr} {v : Value} (R : Rel P w0 ρ h w) (hs : P.underlying s = some .unsafePointer) (hd : P.underlying d = some (.pointer t)) (ho : ofUns P h t a = some v) (hb : a.block < h.n) :
    (convert s d (.pointer (some (ρ.a a)))).run P w = .ok (ρ.v v) w ∧ bd h.n v := by
  unfold Run.ofUns at ho
  split at ho
  · rename_i m e n hsz hsh
    cases hl : liesAt P P.depth e (n / P.cellsOf e) a.off t 1 with
    | false => rw [hl] at ho; cases ho
    | true =>
      rw [hl] at ho
      cases ho
      obtain ⟨hsp, hw⟩ := R.shapeAt hsh
      refine ⟨?_, by simpa [bd] using hb⟩
      simp [convert, und_run hs, und_run hd, Conv.unsafePointer, Conv.seenAt, viewAt, Rn.a, hw, run_size hsz, variablesAt, hl, Rn.v]
  · cases ho
theorem Rel.opConv {s d : TypeId} {x v : Value} (R : Rel P w0 ρ h w) (ho : opConv P h s d x = some v) (hb : bd h.n x) : (convert s d (ρ.v x)).run P w = .ok (ρ.v v) w ∧ bd h.n v := by
  unfold Run.opConv at ho
  split at ho
  · rename_i h1 h2
    cases ho
    exact ⟨by simp [convert, und_run h1, und_run h2, Rn.v, Conv.unsafePointer], by simp [bd]⟩
  · rename_i h1 h2
    cases ho
    exact ⟨by simp [convert, und_run h1, und_run h2, Rn.v, Conv.unsafePointer], by simp [bd]⟩
  · rename_i h1 h2
    rw [Rn.v]
    exact R.toUns h1 h2 ho (by simpa [bd] using hb)
  · rename_i h1 h2
    rw [Rn.v]
    exact R.ofUns h1 h2 ho (by simpa [bd] using hb)
  · rename_i h1 h2
    cases ho
    exact ⟨by simp [convert, und_run h1, und_run h2, Rn.v, Conv.intToInt], by simp [bd]⟩
  · rename_i h1 h2
    cases ho
    exact ⟨by simp [convert, und_run h1, und_run h2, Rn.v], by simp [bd]⟩
  · cases ho
theorem movA_eq (ρ : Rn) (a : Addr) (n : Nat) : ρ.a (movA a n) = (ρ.a a).add n := by
  unfold movA Addr.add
  cases n <;> simp [Rn.a]
theorem movA_block (a : Addr) (n : Nat) : (movA a n).block = a.block := by unfold movA; cases n <;> rfl
theorem opExtract_sound {t v : Value} {i n : Nat} (ρ : Rn) (ho : opExtract t i = some v) (hb : bd n t) : (Instr.extract (ρ.v t) i).run P w = .ok (ρ.v v) w ∧ bd n v := by
  unfold opExtract at ho
  split at ho
  · rename_i vs
    obtain ⟨l⟩ := vs
    simp only [bd] at hb
    refine ⟨?_, bds_get hb ho⟩
    have : (ρ.vs l)[i]? = some (ρ.v v) := by rw [Rn.vs_get]; simp only at ho; rw [ho]; rfl
    simp [Instr.extract, Rn.v, this]
  · cases ho
theorem Rel.partOf {t : TypeId} {cs : List Value} {off : Nat} {v : Value} {n : Nat} (ρ : Rn) (ho : partOf P t cs off = some v) (hb : bds n cs) : (part t ⟨ρ.vs cs⟩ off).run P w = .ok (ρ.v v) w ∧ bd n v := by
  unfold Run.partOf at ho
  cases hA : isA P t with
  | none => rw [hA] at ho; cases ho
  | some b =>
    cases hS : sz P t with
    | none => rw [hA, hS] at ho; cases ho
    | some m =>
      rw [hA, hS] at ho
      simp only at ho
      cases hc : cut cs off m with
      | none => rw [hc] at ho; cases ho
      | some r =>
        rw [hc] at ho
        simp only at ho
        obtain ⟨h1, h2⟩ := cut_eq hc
        have hbr : bds n r := by rw [h2]; exact bds_sub hb fun v hv => List.mem_of_mem_drop (List.mem_of_mem_take hv)
        refine ⟨?_, bd_ofCells ho hbr⟩
        rcases ofCells_v ho with ⟨rfl, rfl⟩ | ⟨rfl, rfl⟩
        · have this : ((ρ.vs cs).drop off).take m = ρ.vs r := by rw [h2, Rn.vs_take, Rn.vs_drop]
          simp [part, run_isA hA, run_size hS, Rn.v]
          rw [← this, List.take_drop, Nat.add_comm]
        · have h0 : cs[off]? = some v := by
            have : ((cs.drop off).take m)[0]? = some v := by rw [← h2]; rfl
            rw [List.getElem?_take] at this
            split at this
            · rw [List.getElem?_drop] at this; simpa using this
            · cases this
          have : (ρ.vs cs)[off]? = some (ρ.v v) := by rw [Rn.vs_get, h0]; rfl
          simp [part, run_isA hA, this]
theorem opField_sound {t : TypeId} {x v : Value} {f n : Nat} (ρ : Rn) (ho : opField P t x f = some v) (hb : bd n x) : (Instr.field t (ρ.v x) f).run P w = .ok (ρ.v v) w ∧ bd n v := by
  unfold opField at ho
  split at ho
  · rename_i fs c hu
    obtain ⟨l⟩ := c
    split at ho
    · rename_i g hg
      simp only [bd] at hb
      obtain ⟨h1, h2⟩ := Rel.partOf (P := P) (w := w) ρ ho hb
      refine ⟨?_, h2⟩
      have hg' : fs[f]? = some g := by simpa using hg
      simp [Instr.field, und_run hu, hg', Rn.v, asAgg, h1]
    · cases ho
  · cases ho
theorem opFieldA_sound {t : TypeId} {x v : Value} {f n : Nat} (ρ : Rn) (ho : opFieldA P t x f = some v) (hb : bd n x) : (Instr.fieldAt t (ρ.v x) f).run P w = .ok (ρ.v v) w ∧ bd n v := by
  unfold opFieldA at ho
  split at ho
  · rename_i fs a hu
    split at ho
    · rename_i g hg
      split at ho
      · rename_i m hS
        cases ho
        have hg' : fs[f]? = some g := by simpa using hg
        refine ⟨?_, by simpa [bd, movA_block] using hb⟩
        simp [Instr.fieldAt, und_run hu, hg', Rn.v, Instr.sureAddr, fieldPlace, run_size hS, movA_eq]
      · cases ho
    · cases ho
  · cases ho
theorem asN_int {x : Value} {n : Nat} (ho : asN x = some n) : ∃ k, x = .int k (n : Int) := by
  cases x with
  | int k m =>
    cases m with
    | ofNat q => simp only [asN, Option.some.injEq] at ho; subst ho; exact ⟨k, rfl⟩
    | negSucc q => cases ho
  | _ => cases ho
theorem opIndexA_sound {t : TypeId} {x i v : Value} {n : Nat} (ρ : Rn) (ho : opIndexA P t x i = some v) (hb : bd n x) : (Instr.indexAt t (ρ.v x) (ρ.v i)).run P w = .ok (ρ.v v) w ∧ bd n v := by
  unfold opIndexA at ho
  split at ho
  · rename_i el a m c j hu hi
    split at ho
    · rename_i s hlt hS
      cases ho
      obtain ⟨k, rfl⟩ := asN_int hi
      refine ⟨?_, by simpa [bd, movA_block] using hb⟩
      have hlt' : (j : Int) < m := by have := blt_true hlt; omega
      have hnle : ¬ m ≤ j := by have := blt_true hlt; omega
      simp [Instr.indexAt, und_run hu, Rn.v, asIntOf, hlt', hnle, run_size hS, movA_eq]
    · cases ho
  · rename_i m el a j hu hi
    split at ho
    · rename_i s hlt hS
      cases ho
      obtain ⟨k, rfl⟩ := asN_int hi
      refine ⟨?_, by simpa [bd, movA_block] using hb⟩
      have hlt' : (j : Int) < m := by have := blt_true hlt; omega
      have hnle : ¬ m ≤ j := by have := blt_true hlt; omega
      simp [Instr.indexAt, und_run hu, Rn.v, asIntOf, hlt', hnle, run_size hS, movA_eq, Instr.sureAddr]
    · cases ho
  · cases ho
theorem opIndex_sound {x i v : Value} {n : Nat} (t : TypeId) (hu : P.underlying t = some .string) (ρ : Rn) (ho : opIndex x i = some v) : (Instr.index t (ρ.v x) (ρ.v i)).run P w = .ok (ρ.v v) w ∧ bd n v := by
  unfold opIndex at ho
  split at ho
  · rename_i s j hi
    split at ho
    · rename_i b hb
      cases ho
      obtain ⟨k, rfl⟩ := asN_int hi
      refine ⟨?_, by simp [bd]⟩
      have hs : s[j]? = some b := by
        have hlt := (List.getElem?_eq_some_iff.1 hb).1
        have hsz : j < s.size := hlt
        rw [getElem?_pos s j hsz]
        obtain ⟨hx, e⟩ := List.getElem?_eq_some_iff.1 hb
        rw [← e]
        rfl
      simp [Instr.index, und_run hu, Rn.v, asIntOf, hs]
    · cases ho
  · cases ho
theorem opIndexT_sound {x i v : Value} {n : Nat} {t : TypeId} (ρ : Rn) (ho : opIndexT P t x i = some v) (hb : bd n x) : (Instr.index t (ρ.v x) (ρ.v i)).run P w = .ok (ρ.v v) w ∧ bd n v := by
  unfold opIndexT at ho
  split at ho
  · rename_i hu
    exact opIndex_sound t hu ρ ho
  · rename_i m el hu
    split at ho
    · rename_i c j s hi hS
      obtain ⟨l⟩ := c
      split at ho
      · rename_i hlt
        simp only [bd] at hb
        obtain ⟨h1, h2⟩ := Rel.partOf (P := P) (w := w) ρ ho hb
        refine ⟨?_, h2⟩
        obtain ⟨k, rfl⟩ := asN_int hi
        have hlt' : (j : Int) < m := by have := blt_true hlt; omega
        have hnle : ¬ m ≤ j := by have := blt_true hlt; omega
        simp [Instr.index, und_run hu, Rn.v, asIntOf, hlt', hnle, run_size hS, h1]
      · cases ho
    · cases ho
  · cases ho
end
/-! structs and rows out of parts -/
section
variable {P : Program} {w0 : Base} {w w' : World} {ρ : Rn} {h : H}
theorem fold_put (off : Nat) : ∀ (vs : List Value) (j : Nat) (c : List Value), off + j + vs.length ≤ c.length →
    (vs.zipIdx j).foldl (fun (cs : Array Value) (x : Value × Nat) => cs.setIfInBounds (off + x.2) x.1) ⟨c⟩ = ⟨c.take (off + j) ++ vs ++ c.drop (off + j + vs.length)⟩
  | [], j, c, _ => by simp
  | v :: vs, j, c, hl => by
    simp only [List.length_cons] at hl
    have ih := fold_put off vs (j + 1) (c.set (off + j) v) (by simp; omega)
    simp only [List.zipIdx_cons, List.foldl_cons, List.setIfInBounds_toArray] at ih ⊢
    rw [ih]
    congr 1
    have h1 : (c.set (off + j) v).take (off + (j + 1)) = c.take (off + j) ++ [v] := by
      rw [show off + (j + 1) = (off + j) + 1 by omega, List.take_set]
      rw [List.take_succ_eq_append_getElem (by omega)]
      rw [List.set_append_right _ _ (by simp; omega)]
      simp [Nat.min_eq_left (by omega : off + j ≤ c.length)]
    have h2 : (c.set (off + j) v).drop (off + (j + 1) + vs.length) = c.drop (off + j + (vs.length + 1)) := by
      rw [List.drop_set_of_lt (by omega)]
      congr 1
      omega
    rw [h1, h2]
    simp
theorem fills_sound (ρ : Rn) {place : Nat → Option (Nat × Nat)} {n : Nat} : ∀ {ps : List (Nat × Value)} {c r : List Value}, fills place c ps = some r → bds n c → (∀ p ∈ ps, bd n p.2) →
    Instr.fill place ⟨ρ.vs c⟩ (ps.map fun p => (p.1, ρ.v p.2)) = some ⟨ρ.vs r⟩ ∧ bds n r
  | [], c, r, hf, hb, _ => by simp only [fills, Option.some.injEq] at hf; subst hf; exact ⟨rfl, hb⟩
  | (i, v) :: ps, c, r, hf, hb, hp => by
    simp only [fills] at hf
    cases hpl : place i with
    | none => rw [hpl] at hf; cases hf
    | some q =>
      obtain ⟨o, s⟩ := q
      rw [hpl] at hf
      simp only at hf
      cases hlen : Nat.beq (cellsOf v).length s with
      | false => rw [hlen] at hf; simp at hf
      | true =>
        cases hov : overAt o (cellsOf v) c with
        | none => rw [hlen, hov] at hf; cases hf
        | some c' =>
          rw [hlen, hov] at hf
          simp only at hf
          obtain ⟨e1, e2⟩ := overAt_eq hov
          have hbv := hp (i, v) (by simp)
          have hbc : bds n c' := by
            rw [e2]
            exact bds_app.2 ⟨bds_app.2 ⟨bds_sub hb fun v hv => List.mem_of_mem_take hv, bds_cellsOf hbv⟩, bds_sub hb fun v hv => List.mem_of_mem_drop hv⟩
          obtain ⟨h1, h2⟩ := fills_sound ρ hf hbc (fun p hpp => hp p (by simp [hpp]))
          refine ⟨?_, h2⟩
          have hc := cellsOf_v ρ v
          have hl := beq_true' hlen
          simp only [List.map_cons, Instr.fill, hpl, hc]
          rw [if_neg (by simp [Rn.vs_len, hl]; omega)]
          rw [← h1]
          congr 1
          have hfold := fold_put o (ρ.vs (cellsOf v)) 0 (ρ.vs c) (by simp [Rn.vs_len]; omega)
          rw [← Array.foldl_toList]
          simp only [Array.toList_zipIdx]
          rw [hfold, e2]
          congr 1
          simp only [Rn.vs_app, Rn.vs_take, Rn.vs_drop, Rn.vs_len, Nat.add_zero]
theorem places_eq : ∀ {fs : List Field} {r : List (Nat × Nat)}, places P fs = some r → fs.mapM (fun f => (P.info? f.type).map fun i => (f.offset, i.size)) = some r
  | [], r, h => by simp only [places, Option.some.injEq] at h; subst h; rfl
  | f :: fs, r, h => by
    simp only [places] at h
    cases hs : sz P f.type with
    | none => rw [hs] at h; cases h
    | some n =>
      cases hp : places P fs with
      | none => rw [hs, hp] at h; cases h
      | some q =>
        rw [hs, hp] at h
        simp only [Option.some.injEq] at h
        subst h
        obtain ⟨i, hi, rfl⟩ := sz_some hs
        simp [List.mapM_cons, hi, places_eq hp]
theorem zcells_some {t : TypeId} {z : List Value} (hz : zcells P t = some z) : ∃ v i, P.info? t = some i ∧ i.zero = some v ∧ cellsOf v = z ∧ plains z = true := by
  unfold zcells at hz
  cases h1 : zr P t with
  | none => rw [h1] at hz; cases hz
  | some v =>
    rw [h1] at hz
    simp only at hz
    cases h2 : plains (cellsOf v) with
    | false => rw [h2] at hz; cases hz
    | true =>
      rw [h2] at hz
      cases hz
      obtain ⟨i, hi, hzz⟩ := zr_some h1
      exact ⟨v, i, hi, hzz, rfl, h2⟩
theorem opBuild_sound {t : TypeId} {ps : List (Nat × Value)} {v : Value} {n : Nat} (ρ : Rn) (ho : opBuild P t ps = some v) (hp : ∀ p ∈ ps, bd n p.2) : (Instr.build t (ps.map fun p => (p.1, ρ.v p.2)).toArray).run P w = .ok (ρ.v v) w ∧ bd n v := by
  unfold opBuild at ho
  cases hz : zcells P t with
  | none => rw [hz] at ho; cases ho
  | some z =>
    obtain ⟨zv, i, hi, hzz, hzc, hpl⟩ := zcells_some hz
    obtain ⟨z1, z2⟩ := plains_v ρ n hpl
    have hzv : zv.cells = ⟨ρ.vs z⟩ := by rw [cells_eq, hzc, z1]
    cases hu : P.underlying t with
    | none => rw [hz, hu] at ho; cases ho
    | some d =>
      rw [hz, hu] at ho
      cases d <;> simp only at ho <;> try (cases ho; done)
      case struct fs =>
        cases hpp : places P fs.toList with
        | none => rw [hpp] at ho; cases ho
        | some pl =>
          rw [hpp] at ho
          simp only at ho
          cases hf : fills (nth pl) z ps with
          | none => rw [hf] at ho; cases ho
          | some c =>
            rw [hf] at ho
            cases ho
            obtain ⟨h1, h2⟩ := fills_sound ρ hf z2 hp
            refine ⟨?_, by simpa [bd] using h2⟩
            rw [Rn.v]
            refine run_build w t _ _ ?_
            have hn : (fun x => (pl.toArray[x]? : Option (Nat × Nat))) = nth pl := funext fun x => by rw [nth_get]; simp
            simp only [Program.built, hi, hu, hzz, places_eq hpp, hn, hzv]
            exact h1
      case array m el =>
        cases hs : sz P el with
        | none => rw [hs] at ho; cases ho
        | some s =>
          rw [hs] at ho
          simp only at ho
          cases hf : fills (fun i => some (i * s, s)) z ps with
          | none => rw [hf] at ho; cases ho
          | some c =>
            rw [hf] at ho
            cases ho
            obtain ⟨h1, h2⟩ := fills_sound ρ hf z2 hp
            obtain ⟨ie, hie, rfl⟩ := sz_some hs
            refine ⟨?_, by simpa [bd] using h2⟩
            rw [Rn.v]
            refine run_build w t _ _ ?_
            simp only [Program.built, hi, hu, hzz, hie, hzv]
            exact h1
theorem repz_eq {z : List Value} {v : Value} (hz : v.cells = ⟨z⟩) (hp : 0 < z.length) (m : Nat) : (Array.range m).map (v.cells[· % v.cells.size]!) = ⟨repz z m⟩ := by
  apply Array.ext'
  simp only [Array.toList_map, Array.toList_range, repz, hz]
  refine List.map_congr_left fun i _ => ?_
  have hlt : i % z.length < z.length := Nat.mod_lt _ hp
  rw [nth_get, List.getElem?_eq_getElem hlt]
  simp [List.size_toArray, hlt]
theorem plains_repz {z : List Value} (ρ : Rn) (n : Nat) (hp : plains z = true) (hl : 0 < z.length) (m : Nat) : ρ.vs (repz z m) = repz z m ∧ bds n (repz z m) := by
  obtain ⟨z1, z2⟩ := plains_v ρ n hp
  have hmem : ∀ v ∈ repz z m, v ∈ z := by
    intro v hv
    unfold repz at hv
    obtain ⟨i, _, rfl⟩ := List.mem_map.1 hv
    have hlt : i % z.length < z.length := Nat.mod_lt _ hl
    rw [nth_get, List.getElem?_eq_getElem hlt]
    exact List.getElem_mem _
  have hfix : ∀ v ∈ z, ρ.v v = v := by
    intro v hv
    obtain ⟨i, hi, rfl⟩ := List.getElem_of_mem hv
    have := Rn.vs_get ρ z i
    rw [z1, List.getElem?_eq_getElem hi] at this
    simpa using this.symm
  exact ⟨by rw [Rn.vs_map]; exact (List.map_congr_left fun v hv => hfix v (hmem v hv)).trans (List.map_id' _), bds_sub z2 hmem⟩
theorem Rel.opBuildSlice {t : TypeId} {n : Nat} {ps : List (Nat × Value)} {nx : Nx} (R : Rel P w0 ρ h w) (ho : opBuildSlice P h t n ps = some nx) (hp : ∀ p ∈ ps, bd h.n p.2) :
    ∃ v h', nx = .val v h' ∧ Step P w0 ρ h w (do Pure.pure (.value (← Instr.buildSlice t n (ps.map fun p => (p.1, ρ.v p.2)).toArray))) v h' := by
  unfold Run.opBuildSlice at ho
  cases hu : P.underlying t with
  | none => rw [hu] at ho; cases ho
  | some d =>
    rw [hu] at ho
    cases d <;> simp only at ho <;> try (cases ho; done)
    case slice el =>
      cases hz : zcells P el with
      | none => rw [hz] at ho; cases ho
      | some z =>
        cases hs : sz P el with
        | none => rw [hz, hs] at ho; cases ho
        | some s0 =>
          cases s0 with
          | zero => rw [hz, hs] at ho; cases ho
          | succ s =>
            rw [hz, hs] at ho
            simp only at ho
            cases hb1 : Nat.beq z.length (s + 1) with
            | false => rw [hb1] at ho; simp at ho
            | true =>
              cases hb2 : Nat.ble (n * (s + 1)) 16777216 with
              | false => rw [hb1, hb2] at ho; simp at ho
              | true =>
                cases hf : fills (fun i => some (i * (s + 1), s + 1)) (repz z (n * (s + 1))) ps with
                | none => rw [hb1, hb2, hf] at ho; cases ho
                | some c =>
                  rw [hb1, hb2, hf] at ho
                  cases ho
                  obtain ⟨zv, i, hi, hzz, hzc, hpl⟩ := zcells_some hz
                  have hlen : z.length = s + 1 := beq_true' hb1
                  have hzv : zv.cells = ⟨z⟩ := by rw [cells_eq, hzc]
                  obtain ⟨e1, e2⟩ := plains_repz ρ h.n hpl (by omega) (n * (s + 1))
                  obtain ⟨h1, h2⟩ := fills_sound ρ hf e2 hp
                  rw [e1] at h1
                  have hx := ρ.set_ext h.n w.heap.size 0
                  have R' := R.new (o := .cells ⟨c⟩ el) (O := .cells ⟨ρ.vs c⟩ el) (c := 0) h2 ⟨rfl, by
                    rw [hx.vs _ h2, show (ρ.set h.n w.heap.size 0).b h.n = w.heap.size by simp [Rn.set]]
                    exact World.alloc_heap_new w _⟩
                  obtain ⟨j, hj, hjs⟩ := sz_some hs
                  rw [hi] at hj
                  cases hj
                  have hsm : ¬ n * (s + 1) > 2 ^ 24 := by have := Nat.le_of_ble_eq_true hb2; omega
                  refine ⟨_, _, rfl, _, _, _, ?_, .inl rfl, hx, by rw [H.new_n]; omega, R', by rw [H.new_n]; simp [bd]⟩
                  rotate_left
                  by_cases hn : n = 0
                  · subst hn
                    have : repz z (0 * (s + 1)) = [] := by simp [repz]
                    rw [this] at h1
                    have h1' : Instr.fill (fun i => some (i * (s + 1), s + 1)) (Array.map (fun x => (default : Value)) (Array.range 0)) (List.map (fun p => (p.fst, ρ.v p.snd)) ps) = some { toList := ρ.vs c } := by
                      rw [← h1]; congr 1; apply Array.ext'; simp [Array.toList_range]
                    simp [Instr.buildSlice, und_run hu, sizeOf, typeInfo, hi, hjs, h1', newRow, Rn.v, Rn.a, Rn.set]
                  · have hnz : ¬ n * (s + 1) = 0 := Nat.mul_ne_zero hn (by omega)
                    have hrep := repz_eq hzv (by omega) (n * (s + 1))
                    have hfl : Instr.fill (fun i => some (i * (s + 1), s + 1)) ((Array.range (n * (s + 1))).map (zv.cells[· % zv.cells.size]!)) (ps.map fun p => (p.1, ρ.v p.2)) = some ⟨ρ.vs c⟩ := by rw [hrep]; exact h1
                    simp only [Instr.buildSlice, und_run hu, sizeOf, typeInfo, zeroValue, hi, hjs, hzz, hsm, hnz, hfl, newRow, Sem.run_bind, Sem.run_pure, Result.andThen_ok, run_program, if_false, run_newObj, Rn.v, Rn.a, Rn.set, Nat.lt_irrefl, if_true]
                    have hnU : n < U := by
                      have h3 := Nat.le_of_ble_eq_true hb2
                      have h4 : n ≤ n * (s + 1) := Nat.le_mul_of_pos_right n (by omega)
                      have h5 : (16777216 : Nat) < U := by decide
                      omega
                    simp [hnU]
end
/-! equality and the other operators -/
section
variable {P : Program} {w0 : Base} {w w' : World} {ρ : Rn} {h : H}
theorem Rel.frozen {k : Nat} {c : List Value} (R : Rel P w0 ρ h w) (hr : h.row k = some c) (o : Nat) (sp : Option Nat) : w.frozen? ⟨ρ.b k, o, sp⟩ = false := by
  obtain ⟨_, z, t, -, -, -, -, -, hw, -⟩ := R.row hr
  simp [World.frozen?, hw]
theorem Rel.shapeOf {k : Nat} {c : List Value} (R : Rel P w0 ρ h w) (hr : h.row k = some c) : ∃ t n, w.shape? (ρ.b k) = some (t, n) := by
  obtain ⟨_, z, t, -, -, -, -, -, hw, -⟩ := R.row hr
  exact ⟨t, _, by simp [World.shape?, hw]; rfl⟩
theorem Rel.ptrEq {a b : Addr} {r : Bool} (R : Rel P w0 ρ h w) (ho : ptrEq h a b = some r) : (sameAddr (ρ.a a) (ρ.a b)).run P w = .ok r w := by
  unfold Run.ptrEq at ho
  split at ho
  · rename_i h1 h2 h3
    cases ho
    have hbl : a.block = b.block := beq_true' h1
    unfold sameAddr
    have e1 : ((ρ.a a).block == (ρ.a b).block) = true := by simp [Rn.a, hbl]
    have e2 : (ρ.a a == ρ.a b) = Nat.beq a.off b.off := by
      have : (ρ.a a == ρ.a b) = decide (ρ.a a = ρ.a b) := rfl
      rw [this]
      by_cases ho : a.off = b.off
      · rw [ho]
        have : ρ.a a = ρ.a b := by simp [Rn.a, hbl, ho, h2, h3]
        simp [this]
      · have : ρ.a a ≠ ρ.a b := fun e => ho (by have := congrArg Addr.off e; simpa [Rn.a] using this)
        rw [decide_eq_false this]
        cases hb : Nat.beq a.off b.off with
        | false => rfl
        | true => exact absurd (beq_true' hb) ho
    simp only [e1, if_true, Sem.run_pure, e2]
  · rename_i h1 h2 h3
    split at ho
    · rename_i r1 r2 hr1 hr2
      cases ho
      have hne : a.block ≠ b.block := beq_false' h1
      obtain ⟨o1, z1, t1, g1, -, l1, -, -, w1, -⟩ := R.row hr1
      obtain ⟨o2, z2, t2, g2, -, l2, -, -, w2, -⟩ := R.row hr2
      have hb : ρ.b a.block ≠ ρ.b b.block := fun e => hne (R.inj _ _ _ _ g1 g2 l1 l2 e)
      have e1 : ((ρ.a a).block == (ρ.a b).block) = false := by simpa [Rn.a] using hb
      unfold sameAddr
      simp [e1, noView, viewAt, mayBeOne, stringish, Rn.a, World.frozen?, World.shape?, w1, w2]
      intro e
      exact absurd e hb
    · cases ho
  · cases ho
theorem bytes_beq (a b : ByteArray) : (a == b) = (a.data.toList == b.data.toList) := by
  rw [beq_toListBytes, ByteArray.toList_eq, ByteArray.toList_eq]
theorem veqF_sound (ρ : Rn) {D : Nat} {f : TypeId → Value → Value → Option Bool} (hf : ∀ t x y r n, f t x y = some r → bd n x → bd n y → (Op.equalIn D t (ρ.v x) (ρ.v y)).run P w = .ok r w) {n : Nat} {xs ys : List Value} (bx : bds n xs) (by_ : bds n ys) :
    ∀ {fs : List Field} {r : Bool}, veqF P f fs xs ys = some r → (Op.eqFields D ⟨ρ.vs xs⟩ ⟨ρ.vs ys⟩ fs).run P w = .ok r w
  | [], r, h => by simp only [veqF, Option.some.injEq] at h; subst h; simp [Op.eqFields]
  | g :: fs, r, h => by
    unfold veqF at h
    by_cases hn : g.name = "_"
    · rw [decide_eq_true hn] at h
      simp only at h
      rw [Op.eqFields, if_neg (by simp [hn])]
      exact veqF_sound ρ hf bx by_ h
    · rw [decide_eq_false hn] at h
      simp only at h
      cases hpx : partOf P g.type xs g.offset with
      | none => rw [hpx] at h; cases h
      | some a =>
        cases hpy : partOf P g.type ys g.offset with
        | none => rw [hpx, hpy] at h; cases h
        | some b =>
          rw [hpx, hpy] at h
          simp only at h
          obtain ⟨p1, p2⟩ := Rel.partOf (P := P) (w := w) ρ hpx bx
          obtain ⟨q1, q2⟩ := Rel.partOf (P := P) (w := w) ρ hpy by_
          cases hff : f g.type a b with
          | none => rw [hff] at h; cases h
          | some c =>
            rw [hff] at h
            have he := hf _ _ _ _ n hff p2 q2
            cases c with
            | false =>
              cases h
              rw [Op.eqFields, if_pos hn]
              simp [p1, q1, he]
            | true =>
              simp only at h
              have ih := veqF_sound ρ hf bx by_ h
              rw [Op.eqFields, if_pos hn]
              simp [p1, q1, he, ih]
theorem Rel.veqT (R : Rel P w0 ρ h w) : ∀ (d D : Nat) (t : TypeId) (x y : Value) (r : Bool) (n : Nat), d ≤ D → veqT P h d t x y = some r → bd n x → bd n y → (Op.equalIn D t (ρ.v x) (ρ.v y)).run P w = .ok r w
  | 0, _, _, _, _, _, _, _, ho, _, _ => by simp [Run.veqT] at ho
  | d + 1, 0, _, _, _, _, _, hD, _, _, _ => by omega
  | d + 1, D + 1, t, x, y, r, n, hD, ho, bx, by_ => by
    unfold Run.veqT at ho
    split at ho
    · rename_i hu
      cases ho
      simp [Op.equalIn, und_run hu, Rn.v]
    · rename_i hu
      split at ho
      · rename_i e
        subst e
        cases ho
        simp [Op.equalIn, und_run hu, Rn.v]
      · cases ho
    · rename_i hu
      cases ho
      simp [Op.equalIn, und_run hu, Rn.v, bytes_beq]
    · rename_i b hu
      cases ho
      cases b <;> simp [Op.equalIn, und_run hu, Rn.v]
    · rename_i hu
      cases ho
      simp [Op.equalIn, und_run hu, Rn.v]
    · rename_i e a b hu
      split at ho
      · rename_i m hs
        have := R.ptrEq ho
        simp [Op.equalIn, und_run hu, Rn.v, run_size hs, this]
      · cases ho
    · rename_i hu
      cases ho
      simp [Op.equalIn, und_run hu, Rn.v]
    · rename_i hu
      cases ho
      simp [Op.equalIn, und_run hu, Rn.v]
    · rename_i fs a b hu
      cases hst : P.stoodInHeld t with
      | true => rw [hst] at ho; cases ho
      | false =>
        rw [hst] at ho
        simp only at ho
        obtain ⟨la⟩ := a
        obtain ⟨lb⟩ := b
        simp only [bd] at bx by_
        have hff : P.fieldsOf t = fs := by simp [Program.fieldsOf, hu]
        rw [Rn.v, Rn.v, run_equalIn_struct (P := P) w D t _ _ (by rw [hff]; exact hu) hst, hff]
        exact veqF_sound ρ (fun t' x' y' r' n' hf' b1 b2 => R.veqT d D t' x' y' r' n' (by omega) hf' b1 b2) bx by_ ho
    · rename_i b _ _ hu
      cases ho
      cases b <;> simp [Op.equalIn, und_run hu, Rn.v]
    · rename_i hu
      cases ho
      simp [Op.equalIn, und_run hu, Rn.v]
    · rename_i b hu
      cases ho
      cases b <;> simp [Op.equalIn, und_run hu, Rn.v]
    · rename_i hu
      cases ho
      simp [Op.equalIn, und_run hu, Rn.v]
    · rename_i hu
      cases ho
      simp [Op.equalIn, und_run hu, Rn.v]
    · rename_i f a b hu
      cases ho
      cases a; cases b
      simp [Op.equalIn, und_run hu, Rn.v]
    · rename_i f a b hu
      cases ho
      cases a; cases b
      simp [Op.equalIn, und_run hu, Rn.v]
    · cases ho
theorem binI_sound {op : BinOp} {k : IntKind} {a b : Int} {v : Value} (ρ : Rn) (n : Nat) (ho : binI op k a b = some v) (hs : isSh op = false) (t : TypeId) : (binOp op t (.int k a) (.int k b)).run P w = .ok (ρ.v v) w ∧ bd n v := by
  cases op <;> simp only [isSh, reduceCtorEq, Bool.true_eq_false] at hs <;> simp only [binI, cmpI, Option.some.injEq, reduceCtorEq] at ho
  case quo => split at ho <;> simp only [Option.some.injEq, reduceCtorEq] at ho; subst ho; rename_i hb; simp [binOp, Op.intDiv, hb, Rn.v, bd]
  case rem => split at ho <;> simp only [Option.some.injEq, reduceCtorEq] at ho; subst ho; rename_i hb; simp [binOp, Op.intDiv, hb, Rn.v, bd]
  all_goals subst ho; simp [binOp, Op.intArith, Op.intBits, Op.intCmp, Rn.v, bd]
theorem shI_sound {op : BinOp} {j k : IntKind} {a b : Int} {v : Value} (ρ : Rn) (n : Nat) (ho : shI op j a b = some v) (t : TypeId) : (binOp op t (.int j a) (.int k b)).run P w = .ok (ρ.v v) w ∧ bd n v := by
  unfold shI at ho
  split at ho
  · cases ho
  · rename_i hb
    split at ho
    · cases ho; simp [binOp, Op.shift, hb, Rn.v, bd]
    · cases ho; simp [binOp, Op.shift, hb, Rn.v, bd]
    · cases ho
theorem opBinI_sound {op : BinOp} {j k : IntKind} {a b : Int} {v : Value} (ρ : Rn) (n : Nat) (ho : opBinI op j a k b = some v) (t : TypeId) : (binOp op t (.int j a) (.int k b)).run P w = .ok (ρ.v v) w ∧ bd n v := by
  unfold opBinI at ho
  cases hs : isSh op with
  | true => rw [hs] at ho; exact shI_sound ρ n ho t
  | false =>
    rw [hs] at ho
    simp only at ho
    split at ho
    · rename_i e
      subst e
      exact binI_sound ρ n ho hs t
    · cases ho
theorem binS_sound {op : BinOp} {a b : ByteArray} {v : Value} (ρ : Rn) (n : Nat) (ho : binS op a.data.toList b.data.toList = some v) (t : TypeId) : (binOp op t (.string a) (.string b)).run P w = .ok (ρ.v v) w ∧ bd n v := by
  cases op <;> simp only [binS, Option.some.injEq, reduceCtorEq] at ho
  case add =>
    cases hble : Nat.ble (a.data.toList.length + b.data.toList.length) 9223372036854775807 with
    | false => rw [hble] at ho; cases ho
    | true =>
    rw [hble] at ho
    simp only [Option.some.injEq] at ho
    have hsz := Nat.le_of_ble_eq_true hble
    subst ho
    have hlim : ¬ ((a.size + b.size : Nat) : Int) > IntKind.i64.max := by
      have : (IntKind.i64.max : Int) = 9223372036854775807 := by decide
      rw [this]
      have h1 : a.size = a.data.toList.length := rfl
      have h2 : b.size = b.data.toList.length := rfl
      omega
    have happ : a ++ b = ⟨⟨a.data.toList ++ b.data.toList⟩⟩ := by
      apply ByteArray.ext
      apply Array.ext'
      simp [ByteArray.data_append]
    refine ⟨?_, by simp [bd]⟩
    simp only [binOp, Op.stringOp, if_neg hlim, Rn.v, happ]
    rfl
  all_goals subst ho; simp [binOp, Op.stringOp, Rn.v, bd, ByteArray.toList_eq]
end
end Go.Run
