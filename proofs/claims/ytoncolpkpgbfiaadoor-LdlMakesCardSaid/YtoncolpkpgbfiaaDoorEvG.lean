/- The abstract interpreter in wp form: values, heap, operations, code, calls. Definitions alone; its soundness against the machine is proved in EvB and after. -/
import Derived.Orders
import Derived.LoopN
import Derived.Laws.Rows
import Derived.Laws.CopyRow
import Derived.Laws.Append
import Derived.Laws.AppendOwn
import Derived.Laws.MakeOwn
import Derived.Laws.Slices
import Derived.Laws.Small
set_option linter.unusedVariables false
set_option linter.unusedSimpArgs false
namespace Go.Proofs.YtoncolpkpgbfiaaDoor

/-- Abstract values: a block is named by a number of its own; a list that nobody writes any more stands as itself. -/
inductive AV where
  | undef
  | int (k : IntKind) (n : Int)
  | bool (b : Bool)
  | str (s : ByteArray)
  | nilp
  | ptr (id ver off : Nat)
  | lel (cells : List AV) (off : Nat)
  | nils
  | sl (id ver off len cap esz : Nat)
  | lst (cells : List AV) (len : Nat)
  | nilf
  | fn (f : FuncId) (captured : List AV)
  | nili
  | ifc (t : TypeId) (v : AV)
  | agg (cells : List AV)
  | tup (vs : List AV)
  deriving Inhabited

structure Blk where
  cells : List AV
  ver : Nat

abbrev Heap := List (Option Blk)
abbrev Fr := List (Nat × AV)

def Fr.get : Fr → Nat → AV
  | [], _ => .undef
  | (d, v) :: r, t => if t = d then v else Fr.get r t
def Fr.put (fr : Fr) : Option Nat → AV → Fr
  | some d, v => (d, v) :: fr
  | none, _ => fr
def Fr.keep (fr : Fr) (l : List Nat) : Fr := l.map fun t => (t, fr.get t)

/-! ### types -/
inductive TK where
  | bool | int (k : IntKind) | string | slice (e esz ebytes : Nat) (ezero : List AV) | array (n esz : Nat) (eagg : Bool) | struct (fs : List (Nat × Nat × Bool)) | iface | ptr | fn | other
structure TI where
  agg : Bool
  size : Nat
  zero : List AV
  kind : TK

/-- What the interpreter is told: the types; which variables' empty slices and literals are owned; which temporaries live on behind a region; which functions hand out memory; at which regions which slices grow no more; which structs and arrays are of integers alone. -/
structure Env where
  P : Program
  T : TypeId → Option TI
  own : FuncId → Nat → Bool
  keep : FuncId → Nat → Option (List Nat)
  escapes : FuncId → Bool
  ext : FuncId → List AV → Option AV
  given : FuncId → List AV → AV → Prop
  frz : FuncId → Nat → List Nat
  flat : TypeId → Option Nat

def ofConst : Value → AV
  | .int k n => .int k n
  | .bool b => .bool b
  | .string s => .str s
  | .pointer none => .nilp
  | .slice none 0 0 => .nils
  | .nilFunc => .nilf
  | .nilIface => .nili
  | .iface t (.int k n) => .ifc t (.int k n)
  | _ => .undef

def Fr.ev (fr : Fr) : Operand → AV
  | .tmp t => fr.get t
  | .const v => ofConst v
  | .global _ => .undef
  | .func f => .fn f []

/-- The cells of a value that may lie in memory. -/
def AV.cells? : AV → Option (List AV)
  | .undef => none
  | .tup _ => none
  | .agg cs => some cs
  | v => some [v]

/-- Surely a value of one cell. -/
def AV.one : AV → Bool
  | .undef => false
  | .tup _ => false
  | .agg _ => false
  | _ => true

/-- Surely names no block. -/
def AV.plain : AV → Bool
  | .int _ _ => true
  | .bool _ => true
  | .str _ => true
  | .nilp => true
  | .nils => true
  | .nilf => true
  | .nili => true
  | .lst _ _ => true
  | .lel _ _ => true
  | .ifc _ v => v.plain
  | .fn _ [] => true
  | _ => false

def readAt (ti : TI) (cells : List AV) (off : Nat) : Option AV :=
  if ti.agg then (if off + ti.size ≤ cells.length then some (.agg ((cells.drop off).take ti.size)) else none) else cells[off]?

def blkAt (H : Heap) (id ver : Nat) : Option Blk :=
  match H[id]? with
  | some (some b) => if b.ver = ver then some b else none
  | _ => none

def loadA (ti : TI) (H : Heap) : AV → Option AV
  | .ptr id ver off => (blkAt H id ver).bind fun b => readAt ti b.cells off
  | .lel cells off => readAt ti cells off
  | _ => none

/-- All names in it are below n. -/
inductive Nmd (n : Nat) : AV → Prop
  | undef : Nmd n .undef
  | int (k : IntKind) (x : Int) : Nmd n (.int k x)
  | bool (b : Bool) : Nmd n (.bool b)
  | str (s : ByteArray) : Nmd n (.str s)
  | nilp : Nmd n .nilp
  | ptr (id ver off : Nat) : id < n → Nmd n (.ptr id ver off)
  | lel (cells : List AV) (off : Nat) : Nmd n (.lel cells off)
  | nils : Nmd n .nils
  | sl (id ver off len cap esz : Nat) : id < n → Nmd n (.sl id ver off len cap esz)
  | lst (cells : List AV) (len : Nat) : Nmd n (.lst cells len)
  | nilf : Nmd n .nilf
  | fn (f : FuncId) (caps : List AV) : (∀ x ∈ caps, Nmd n x) → Nmd n (.fn f caps)
  | nili : Nmd n .nili
  | ifc (t : TypeId) (v : AV) : Nmd n v → Nmd n (.ifc t v)
  | agg (cells : List AV) : (∀ x ∈ cells, Nmd n x) → Nmd n (.agg cells)
  | tup (vs : List AV) : (∀ x ∈ vs, Nmd n x) → Nmd n (.tup vs)

def splice (l : List AV) (off : Nat) (vs : List AV) : List AV :=
  match vs with
  | [c] => l.set off c
  | _ => l.take off ++ vs ++ l.drop (off + vs.length)

/-- A store's effect: what may be written into block 'id' by an activation that began at 'base': into its own blocks anything, into elder ones what names no younger block. -/
def mayStore (base id : Nat) (vs : List AV) : Prop := base ≤ id ∨ ∀ x ∈ vs, Nmd (id + 1) x

def cmpI (op : BinOp) (a b : Int) : Option AV :=
  match op with
  | .eql => some (.bool (a == b))
  | .neq => some (.bool (a != b))
  | .lss => some (.bool (decide (a < b)))
  | .leq => some (.bool (decide (a ≤ b)))
  | .gtr => some (.bool (decide (a > b)))
  | .geq => some (.bool (decide (a ≥ b)))
  | _ => none

def bitsI (op : BinOp) (k : IntKind) (x y : Int) : Option AV :=
  match op with
  | .and => some (.int k (k.wrap (BitVec.ofInt k.bits x &&& BitVec.ofInt k.bits y).toNat))
  | .or => some (.int k (k.wrap (BitVec.ofInt k.bits x ||| BitVec.ofInt k.bits y).toNat))
  | .xor => some (.int k (k.wrap (BitVec.ofInt k.bits x ^^^ BitVec.ofInt k.bits y).toNat))
  | .andNot => some (.int k (k.wrap (BitVec.ofInt k.bits x &&& ~~~(BitVec.ofInt k.bits y)).toNat))
  | _ => none

def intI (op : BinOp) (k : IntKind) (a b : Int) : Option AV :=
  match op with
  | .add => some (.int k (k.wrap (a + b)))
  | .sub => some (.int k (k.wrap (a - b)))
  | .mul => some (.int k (k.wrap (a * b)))
  | .quo => if b = 0 then none else some (.int k (k.wrap (a.tdiv b)))
  | .rem => if b = 0 then none else some (.int k (a.tmod b))
  | .and | .or | .xor | .andNot => bitsI op k a b
  | .shl | .shr => none
  | _ => cmpI op a b

def shiftI (op : BinOp) (k : IntKind) (a b : Int) : Option AV :=
  if b < 0 then none else
  match op with
  | .shl => some (.int k (k.wrap (a * 2 ^ (min b.toNat k.bits))))
  | .shr => some (.int k (a.fdiv (2 ^ (min b.toNat k.bits))))
  | _ => none

/-- Is it nil? (of what may be held against nil) -/
def isNil : AV → Option Bool
  | .nilp | .nils | .nilf | .nili => some true
  | .ptr _ _ _ | .lel _ _ | .fn _ _ | .ifc _ _ => some false
  | _ => none

def allInts : List AV → List AV → Option Bool
  | [], [] => some true
  | .int k a :: r, .int k' b :: r' => if k = k' then (allInts r r').map fun t => (a == b) && t else none
  | _, _ => none

def isConst : Operand → Bool
  | .const _ => true
  | _ => false

/-- '==' of two values of a kind: bools, or one of them a nil (of two nil interface values one stands in the text). -/
def eqA (k : Option TK) (cst : Bool) : AV → AV → Option Bool
  | .bool a, .bool b => match k with | some .bool => some (a == b) | _ => none
  | .nili, .nili => match k with | some .iface => if cst then some true else none | _ => none
  | .nili, .ifc _ _ => match k with | some .iface => some false | _ => none
  | .ifc _ _, .nili => match k with | some .iface => some false | _ => none
  | .nilp, .nilp => match k with | some .ptr => some true | _ => none
  | .nilp, .ptr _ _ _ => match k with | some .ptr => some false | _ => none
  | .ptr _ _ _, .nilp => match k with | some .ptr => some false | _ => none
  | .nilf, .fn _ _ => match k with | some .fn => some false | _ => none
  | .fn _ _, .nilf => match k with | some .fn => some false | _ => none
  | .nilf, .nilf => match k with | some .fn => some true | _ => none
  | .nils, .nils => match k with | some (.slice _ _ _ _) => some true | _ => none
  | _, _ => none

def binA (k : Option TK) (cst : Bool) (op : BinOp) (x y : AV) : Option AV :=
  match op, x, y with
  | .shl, .int k a, .int _ b => shiftI .shl k a b
  | .shr, .int k a, .int _ b => shiftI .shr k a b
  | op, .int k a, .int k' b => if k = k' then intI op k a b else none
  | .eql, x, y => (eqA k cst x y).map .bool
  | .neq, x, y => (eqA k cst x y).map fun b => .bool (!b)
  | _, _, _ => none

/-- Of structs and arrays of integers alone, cell by cell. -/
def binB (E : Env) (t : TypeId) (cst : Bool) (op : BinOp) (x y : AV) : Option AV :=
  match op, x, y with
  | .eql, .agg a, .agg b => if E.flat t = some a.length then (allInts a b).map .bool else none
  | .neq, .agg a, .agg b => if E.flat t = some a.length then (allInts a b).map fun r => .bool (!r) else none
  | op, x, y => binA ((E.T t).map TI.kind) cst op x y

def unA (op : UnOp) (x : AV) : Option AV :=
  match op, x with
  | .neg, .int k n => some (.int k (k.wrap (0 - n)))
  | .xor, .int k n => bitsI .xor k (if k.signed then -1 else k.max) n
  | .not, .bool b => some (.bool !b)
  | _, _ => none

def fillA (esz : Nat) (cells : List AV) : List (Nat × AV) → Option (List AV)
  | [] => some cells
  | (i, v) :: rest =>
    match v.cells? with
    | none => none
    | some vs => if vs.length = esz ∧ i * esz + esz ≤ cells.length then fillA esz (splice cells (i * esz) vs) rest else none

def fillS (fs : List (Nat × Nat × Bool)) (cells : List AV) : List (Nat × AV) → Option (List AV)
  | [] => some cells
  | (i, v) :: rest =>
    match fs[i]?, v.cells? with
    | some (off, size, _), some vs => if vs.length = size ∧ off + size ≤ cells.length then fillS fs (splice cells off vs) rest else none
    | _, _ => none

def zeros (z : List AV) (n : Nat) : List AV := (List.replicate n z).flatten

/-- The cells of a slice's first n elements. -/
def sliceCells (H : Heap) (n esz : Nat) : AV → Option (List AV)
  | .nils => if n = 0 then some [] else none
  | .lst cells len => if n ≤ len ∧ n * esz ≤ cells.length then some (cells.take (n * esz)) else none
  | .sl id ver off len _ e => (blkAt H id ver).bind fun b => if n ≤ len ∧ e = esz ∧ off + n * esz ≤ b.cells.length then some ((b.cells.drop off).take (n * esz)) else none
  | _ => none

def mayAppend (base : Nat) (b : Builtin) (args : List AV) (H : Heap) : Prop :=
  match b, args with
  | .append, [.sl id _ _ _ _ _, x] | .copy, [.sl id _ _ _ _ _, x] => base ≤ id ∨ ∀ n esz cs, sliceCells H n esz x = some cs → ∀ y ∈ cs, Nmd (id + 1) y
  | _, _ => True

def lenA : AV → Option Nat
  | .nils => some 0
  | .lst _ len => some len
  | .sl _ _ _ len _ _ => some len
  | .str s => some s.size
  | _ => none

def maxBytes : Nat := 140737488355328

def Env.kd (E : Env) (t : TypeId) : Option TK := (E.T t).map TI.kind
def ownDst (E : Env) (f : Nat) (dst : Option Nat) : Bool := match dst with | some d => E.own f d | none => false
/-- A bound of a slice expression: what stands there, or the default. -/
def boundA (fr : Fr) (d : Int) : Option Operand → Option Int
  | none => some d
  | some o => match fr.ev o with | .int _ n => some n | _ => none

def moveA (own : Bool) (k : Option TK) (H : Heap) (v : AV) : Option (AV × Heap) :=
  match v with
  | .nils => if own then (match k with | some (.slice _ esz _ _) => some (.sl H.length 0 0 0 0 esz, H ++ [some ⟨[], 0⟩]) | _ => none) else some (.nils, H)
  | v => some (v, H)
def pickA (c a b : AV) (H : Heap) : Option (AV × Heap) :=
  match c, a, b with
  | .bool t, .bool x, .bool y => some (.bool (bif t then x else y), H)
  | .bool t, a, b => some (if t then a else b, H)
  | _, _, _ => none
def buildA (ti : TI) (parts : List (Nat × AV)) : Option AV :=
  match ti.kind with
  | .struct fs => (fillS fs ti.zero parts).map .agg
  | .array _ esz _ => (fillA esz ti.zero parts).map .agg
  | _ => none
def buildSliceA (own : Bool) (H : Heap) (k : TK) (len : Nat) (parts : List (Nat × AV)) : Option (AV × Heap) :=
  match k with
  | .slice _ esz _ ez => (if len * esz ≤ 16777216 then fillA esz (zeros ez len) parts else none).bind fun cs => if own then some (.sl H.length 0 0 len len esz, H ++ [some ⟨cs, 0⟩]) else if cs.all AV.plain then some (.lst cs len, H) else none
  | _ => none
def nilCheckA : AV → Option AV
  | .ptr id ver off => some (.ptr id ver off)
  | .lel cs off => some (.lel cs off)
  | .fn g cs => some (.fn g cs)
  | _ => none
def convertA (s d : TK) (v : AV) : Option AV :=
  match s, d, v with
  | .int _, .int k, .int _ n => some (.int k (k.wrap n))
  | _, _, _ => none
def makeInterfaceA (k : TK) (t : TypeId) (v : AV) : Option AV :=
  match k, v with
  | .iface, _ => none
  | .other, _ => none
  | _, .undef => none
  | _, v => some (.ifc t v)
def makeSliceA (H : Heap) (k : TK) (l c : AV) : Option (AV × Heap) :=
  match k, l, c with
  | .slice _ esz bytes ez, .int _ n, .int _ m => if 0 ≤ n ∧ n ≤ m ∧ m.toNat * bytes ≤ maxBytes ∧ m ≤ 9223372036854775807 ∧ ez.length = esz then some (.sl H.length 0 0 n.toNat m.toNat esz, H ++ [some ⟨zeros ez n.toNat, 0⟩]) else none
  | _, _, _ => none
def sliceLenA : AV → Int
  | .sl _ _ _ len _ _ => len
  | .lst _ len => len
  | _ => 0
def sliceA (H : Heap) (fr : Fr) (k : TK) (x : AV) (lo hi : Option Operand) : Option AV :=
  match k, x with
  | .array n esz _, .ptr id ver off => (boundA fr 0 lo).bind fun l => (boundA fr n hi).bind fun h =>
      (blkAt H id ver).bind fun b => if 0 ≤ l ∧ l ≤ h ∧ h ≤ n ∧ off + n * esz ≤ b.cells.length then (if l = h then some (.lst [] 0) else some (.sl id ver (off + l.toNat * esz) (h.toNat - l.toNat) (n - l.toNat) esz)) else none
  | .slice _ esz _ _, .sl id ver off len cap e => (boundA fr 0 lo).bind fun l => (boundA fr len hi).bind fun h =>
      if 0 ≤ l ∧ l ≤ h ∧ h ≤ len ∧ e = esz then (if l = h then some (.lst [] 0) else some (.sl id ver (off + l.toNat * esz) (h.toNat - l.toNat) (cap - l.toNat) esz)) else none
  | .slice _ esz _ _, .lst cells len => (boundA fr 0 lo).bind fun l => (boundA fr len hi).bind fun h =>
      if 0 ≤ l ∧ l ≤ h ∧ h ≤ len ∧ h.toNat * esz ≤ cells.length then (if l = h then some (.lst [] 0) else some (.lst ((cells.drop (l.toNat * esz)).take ((h.toNat - l.toNat) * esz)) (h.toNat - l.toNat))) else none
  | .slice _ _ _ _, .nils => (boundA fr 0 lo).bind fun l => (boundA fr 0 hi).bind fun h => if l = 0 ∧ h = 0 then some .nils else none
  | _, _ => none
def fieldAddrA (k : TK) (x : AV) (i : Nat) : Option AV :=
  match k, x with
  | .struct fs, .ptr id ver off => (fs[i]?).bind fun p => if p.2.1 = 0 then none else some (.ptr id ver (off + p.1))
  | .struct fs, .lel cs off => (fs[i]?).bind fun p => if p.2.1 = 0 then none else some (.lel cs (off + p.1))
  | _, _ => none
def fieldA (k : TK) (x : AV) (i : Nat) : Option AV :=
  match k, x with
  | .struct fs, .agg cs => (fs[i]?).bind fun p => if p.2.2 then (if p.1 + p.2.1 ≤ cs.length then some (.agg ((cs.drop p.1).take p.2.1)) else none) else cs[p.1]?
  | _, _ => none
def indexAddrA (k : TK) (x i : AV) : Option AV :=
  match k, x, i with
  | .array n esz _, .ptr id ver off, .int _ i => if 0 ≤ i ∧ i < n then some (.ptr id ver (off + i.toNat * esz)) else none
  | .array n esz _, .lel cs off, .int _ i => if 0 ≤ i ∧ i < n then some (.lel cs (off + i.toNat * esz)) else none
  | .slice _ esz _ _, .sl id ver off len _ e, .int _ i => if 0 ≤ i ∧ i < len ∧ e = esz then some (.ptr id ver (off + i.toNat * esz)) else none
  | .slice _ esz _ _, .lst cs len, .int _ i => if 0 ≤ i ∧ i < len then some (.lel cs (i.toNat * esz)) else none
  | _, _, _ => none
def indexA (k : TK) (x i : AV) : Option AV :=
  match k, x, i with
  | .array n esz agg, .agg cs, .int _ i => if 0 ≤ i ∧ i < n then (if agg then (if i.toNat * esz + esz ≤ cs.length then some (.agg ((cs.drop (i.toNat * esz)).take esz)) else none) else cs[i.toNat * esz]?) else none
  | .string, .str s, .int _ i => if 0 ≤ i then (s[i.toNat]?).map fun b => .int .u8 b.toNat else none
  | _, _, _ => none
def arrayAtA (k : TK) (x : AV) : Option AV :=
  match k, x with
  | .array n _ _, .lst cells len => if 0 < n ∧ n ≤ len then some (.lel cells 0) else none
  | .array n esz _, .sl id ver off len _ e => if 0 < n ∧ n ≤ len ∧ e = esz then some (.ptr id ver off) else none
  | _, _ => none
def extractA (x : AV) (i : Nat) : Option AV :=
  match x with
  | .tup vs => vs[i]?
  | _ => none

/-- Operations that carry no call. -/
def opA (E : Env) (f : Nat) (dst : Option Nat) (ty : TypeId) (fr : Fr) (H : Heap) : Op → Option (AV × Heap)
  | .move x | .assign x => moveA (ownDst E f dst) (E.kd ty) H (fr.ev x)
  | .pick c a b => pickA (fr.ev c) (fr.ev a) (fr.ev b) H
  | .alloc t => (E.T t).map fun ti => (.ptr H.length 0 0, H ++ [some ⟨ti.zero, 0⟩])
  | .box _ x => (fr.ev x).cells?.map fun cs => (.ptr H.length 0 0, H ++ [some ⟨cs, 0⟩])
  | .build t parts => (E.T t).bind fun ti => (buildA ti (parts.toList.map fun p => (p.1, fr.ev p.2))).map fun v => (v, H)
  | .buildSlice t len parts => (E.kd t).bind fun k => buildSliceA (ownDst E f dst) H k len (parts.toList.map fun p => (p.1, fr.ev p.2))
  | .load t a => (E.T t).bind fun ti => (loadA ti H (fr.ev a)).map fun v => (v, H)
  | .nilCheck x => (nilCheckA (fr.ev x)).map fun v => (v, H)
  | .binOp op t x y _ => (binB E t (isConst x || isConst y) op (fr.ev x) (fr.ev y)).map fun v => (v, H)
  | .unOp op _ x => (unA op (fr.ev x)).map fun v => (v, H)
  | .convert s d x => (E.kd s).bind fun s => (E.kd d).bind fun d => (convertA s d (fr.ev x)).map fun v => (v, H)
  | .makeInterface t x => (E.kd t).bind fun k => (makeInterfaceA k t (fr.ev x)).map fun v => (v, H)
  | .makeFunc (.func g) first captured => if first.size = 0 then some (.fn g (captured.toList.map fr.ev), H) else none
  | .makeSlice t l c => (E.kd t).bind fun k => makeSliceA H k (fr.ev l) (fr.ev c)
  | .slice t x lo hi none => (E.kd t).bind fun k => (sliceA H fr k (fr.ev x) lo hi).map fun v => (v, H)
  | .fieldAddr t x i => (E.kd t).bind fun k => (fieldAddrA k (fr.ev x) i).map fun v => (v, H)
  | .field t x i => (E.kd t).bind fun k => (fieldA k (fr.ev x) i).map fun v => (v, H)
  | .indexAddr t x i => (E.kd t).bind fun k => (indexAddrA k (fr.ev x) (fr.ev i)).map fun v => (v, H)
  | .index t x i => (E.kd t).bind fun k => (indexA k (fr.ev x) (fr.ev i)).map fun v => (v, H)
  | .sliceToArrayPointer t x => (E.kd t).bind fun k => (arrayAtA k (fr.ev x)).map fun v => (v, H)
  | .extract x i => (extractA (fr.ev x) i).map fun v => (v, H)
  | _ => none

def lenOfA (k : TK) (x : AV) : Option Nat :=
  match k, x with
  | .array n _ _, _ => some n
  | .slice _ _ _ _, .nils => some 0
  | .slice _ _ _ _, .lst _ len => some len
  | .slice _ _ _ _, .sl _ _ _ len _ _ => some len
  | .string, .str s => some s.size
  | _, _ => none
def isSliceK : TK → Bool
  | .slice _ _ _ _ => true
  | _ => false
def appendA (H : Heap) (k : TK) (s x : AV) : Option (AV × Heap) :=
  match k with
  | .slice _ esz bytes _ => (lenA x).bind fun n => (sliceCells H n esz x).bind fun cs => match s with
    | .nils => if n * bytes ≤ maxBytes ∧ n ≤ 9223372036854775807 then some (.sl H.length n 0 n n esz, H ++ [some ⟨cs, n⟩]) else none
    | .sl id ver off len _ e => (blkAt H id ver).bind fun b =>
      if off = 0 ∧ e = esz ∧ len * esz = b.cells.length ∧ (len + n) * bytes ≤ maxBytes ∧ len + n ≤ 9223372036854775807 ∧ cs.all AV.one = true then
        some (.sl id (ver + n) 0 (len + n) (len + n) esz, H.set id (some ⟨b.cells ++ cs, ver + n⟩))
      else none
    | _ => none
  | _ => none

def copyA (H : Heap) (k : TK) (d s : AV) : Option (AV × Heap) :=
  match k, d with
  | .slice _ esz _ _, .sl id ver off len _ e => (lenA s).bind fun n => (sliceCells H n esz s).bind fun cs => (blkAt H id ver).bind fun b =>
      if n ≤ len ∧ e = esz ∧ off + n * esz ≤ b.cells.length ∧ cs.all AV.one = true then some (.int .i64 n, H.set id (some ⟨b.cells.take off ++ cs ++ b.cells.drop (off + cs.length), b.ver⟩)) else none
  | _, _ => none

/-- Stores, and the builtins that are calls of the text: they may change the heap. -/
def builtinA (E : Env) (b : Builtin) (argTypes : List TypeId) (args : List AV) (H : Heap) : Option (AV × Heap) :=
  match b, args with
  | .len, [x] => ((argTypes[0]?).bind E.kd).bind fun k => (lenOfA k x).map fun n => (.int .i64 n, H)
  | .max, [.int k a, .int k' b] => if k = k' then some (.int k (max a b), H) else none
  | .min, [.int k a, .int k' b] => if k = k' then some (.int k (min a b), H) else none
  | .max, [.int k a, .int k' b, .int k'' c] => if k = k' ∧ k = k'' then some (.int k (max (max a b) c), H) else none
  | .min, [.int k a, .int k' b, .int k'' c] => if k = k' ∧ k = k'' then some (.int k (min (min a b) c), H) else none
  | .copy, [d, s] => ((argTypes[0]?).bind E.kd).bind fun k => copyA H k d s
  | .append, [s, x] => ((argTypes[0]?).bind E.kd).bind fun k => ((argTypes[1]?).bind E.kd).bind fun k2 => if isSliceK k2 then appendA H k s x else none
  | _, _ => none

/-! ### the heap changes of a store -/
def storeA (ti : TI) (H : Heap) (a v : AV) : Option (Nat × List AV × Heap) :=
  match a, v.cells? with
  | .ptr id ver off, some vs => (blkAt H id ver).bind fun b =>
    if vs.length = ti.size ∧ off + vs.length ≤ b.cells.length ∧ vs.all AV.one = true then some (id, vs, H.set id (some ⟨splice b.cells off vs, b.ver⟩)) else none
  | _, _ => none

abbrev CallRel := FuncId → List AV → Heap → AV → Heap → Prop

/-- A call, then what follows. -/
def callThen (C : CallRel) (f : FuncId) (args : List AV) (H : Heap) (K : AV → Heap → Prop) : Prop := ∃ v H', C f args H v H' ∧ K v H'

def someThen (r : Option (AV × Heap)) (K : AV → Heap → Prop) : Prop :=
  match r with
  | some (v, H) => K v H
  | none => False

def storeThen (base : Nat) (r : Option (Nat × List AV × Heap)) (K : AV → Heap → Prop) : Prop :=
  match r with
  | some (id, vs, H) => mayStore base id vs ∧ K (.tup []) H
  | none => False

def fnThen (E : Env) (C : CallRel) (g : AV) (args : List AV) (H : Heap) (K : AV → Heap → Prop) : Prop :=
  match g with
  | .fn h caps => match E.ext h (args ++ caps) with
    | some v => K v H
    | none => callThen C h (args ++ caps) H K
  | _ => False

/-- One operation that is carried out. -/
def stepA (E : Env) (C : CallRel) (f base : Nat) (o : Oper) (fr : Fr) (H : Heap) (K : AV → Heap → Prop) : Prop :=
  match o.op with
  | .call c => match c.callee with
    | .value g => fnThen E C (fr.ev g) (c.args.toList.map fr.ev) H K
    | .builtin b => mayAppend base b (c.args.toList.map fr.ev) H ∧ someThen (builtinA E b c.argTypes.toList (c.args.toList.map fr.ev) H) K
    | .invoke _ _ => False
  | .store t a x => match E.T t with
    | some ti => storeThen base (storeA ti H (fr.ev a) (fr.ev x)) K
    | none => False
  | op => someThen (opA E f o.dst o.type fr H op) K

def guardA (all : Array Oper) (fr : Fr) (g : Option (Nat × Bool)) : Option Bool :=
  match g with
  | none => some true
  | some (j, want) => match (all[j]?).bind (·.dst) with
    | some d => match fr.get d with
      | .bool b => some (b == want)
      | .tup [] => some false
      | _ => none
    | none => none

/-- An operation that carries no call of a Go function: as it is done with a heap. -/
def stepO (E : Env) (f : Nat) (o : Oper) (fr : Fr) (H : Heap) : Option (AV × Heap) :=
  match o.op with
  | .call c => match c.callee with
    | .value g => match fr.ev g with
      | .fn h caps => (E.ext h (c.args.toList.map fr.ev ++ caps)).map fun v => (v, H)
      | _ => none
    | .builtin b => builtinA E b c.argTypes.toList (c.args.toList.map fr.ev) H
    | .invoke _ _ => none
  | op => opA E f o.dst o.type fr H op
/-- What hangs on no heap: done with none. -/
def pureA (E : Env) (f : Nat) (o : Oper) (fr : Fr) : Option AV :=
  match stepO E f o fr [] with
  | some (v, []) => some v
  | _ => none
/-- An append to nothing makes a block. -/
def freshApp (E : Env) (n : Nat) (ts : List TypeId) : List AV → Option (AV × Blk)
  | [.nils, .lst l m] => match builtinA E .append ts [.nils, .lst l m] [] with
    | some (.sl _ ver _ len cap esz, [some b]) => some (.sl n ver 0 len cap esz, b)
    | _ => none
  | [.nils, .nils] => match builtinA E .append ts [.nils, .nils] [] with
    | some (.sl _ ver _ len cap esz, [some b]) => some (.sl n ver 0 len cap esz, b)
    | _ => none
  | _ => none
/-- A slice that is made, its block the n-th. -/
def freshMk (n : Nat) (k : TK) (l c : AV) : Option (AV × Blk) :=
  match k, l, c with
  | .slice _ esz bytes ez, .int _ x, .int _ m => if 0 ≤ x ∧ x ≤ m ∧ m.toNat * bytes ≤ maxBytes ∧ m ≤ 9223372036854775807 ∧ ez.length = esz then some (.sl n 0 0 x.toNat m.toNat esz, ⟨zeros ez x.toNat, 0⟩) else none
  | _, _, _ => none
/-- A new block, the n-th. -/
def freshA (E : Env) (fr : Fr) (n : Nat) : Op → Option (AV × Blk)
  | .alloc t => (E.T t).map fun ti => (.ptr n 0 0, ⟨ti.zero, 0⟩)
  | .box _ x => (fr.ev x).cells?.map fun cs => (.ptr n 0 0, ⟨cs, 0⟩)
  | .makeSlice t l c => (E.kd t).bind fun k => freshMk n k (fr.ev l) (fr.ev c)
  | .call c => match c.callee with
    | .builtin .append => freshApp E n c.argTypes.toList (c.args.toList.map fr.ev)
    | _ => none
  | _ => none
def quietOp : Op → Bool
  | .load _ _ => true
  | .slice _ _ _ _ _ => true
  | .call c => match c.callee with | .value _ => true | _ => false
  | _ => false

/-- How an operation stands in a region: in its order; or, where the machine draws: hanging on no heap; reading it; making a block; growing a slice of its own by a list; reading what is no tally; changing nothing but tallies; reading what is not blank; changing nothing but blank blocks; one of two that make a block each, in either order; growing a slice of its own, or making one of nothing. -/
inductive Tag where
  | seq | pure | quiet | fresh | grow | look | mark | peek | lay | twin | app
  deriving DecidableEq
/-- A block that keeps a tally: its first cell is a bool. -/
def tallyC : List AV → Bool
  | .bool _ :: _ => true
  | _ => false
def tallyAt (H : Heap) (i : Nat) : Bool :=
  match H[i]? with
  | some (some b) => tallyC b.cells
  | _ => false
/-- Nothing is changed but tallies. -/
def sameBut (H H' : Heap) : Prop := H'.length = H.length ∧ ∀ i, H'[i]? = H[i]? ∨ tallyAt H i = true ∧ tallyAt H' i = true
def lookAt : Op → Option Operand
  | .load _ a => some a
  | .slice _ a _ _ _ => some a
  | _ => none
/-- A block to which nothing was stored yet. -/
def zeroI : AV → Bool
  | .int _ n => n == 0
  | _ => false
def blankC : List AV → Bool
  | .int _ n :: l => n == 0 && l.all zeroI
  | [.bool false, .nils] => true
  | _ => false
def blankAt (H : Heap) (i : Nat) : Bool :=
  match H[i]? with
  | some (some b) => blankC b.cells
  | _ => false
/-- Nothing is changed but such blocks. -/
def onlyIn (H H' : Heap) : Prop := H'.length = H.length ∧ ∀ i, H'[i]? = H[i]? ∨ blankAt H i = true
def clsC (c : Bool) (l : List AV) : Bool := if c then blankC l else tallyC l
def lookB (c : Bool) : Option Blk → Prop
  | some b => clsC c b.cells = false
  | none => False
/-- What is looked at is no tally (or no blank block). -/
def lookV (c : Bool) (H : Heap) : AV → Prop
  | .ptr id ver _ => lookB c (blkAt H id ver)
  | _ => True
def lookO (c : Bool) (o : Op) (fr : Fr) (H : Heap) : Prop :=
  match lookAt o with
  | some a => lookV c H (fr.ev a)
  | none => False

def growV : List AV → Bool
  | [.sl _ _ _ _ _ _, .lst _ n] => decide (0 < n)
  | _ => false
def growO (o : Op) (fr : Fr) : Bool :=
  match o with
  | .call c => match c.callee with
    | .builtin .append => growV (c.args.toList.map fr.ev)
    | _ => false
  | _ => false
def tagThen (E : Env) (C : CallRel) (f base : Nat) (o : Oper) (tag : Tag) (fr : Fr) (H : Heap) (K : AV → Heap → Prop) : Prop :=
  match tag with
  | .seq => stepA E C f base o fr H K
  | .pure => match pureA E f o fr with
    | some v => K v H
    | none => False
  | .quiet => quietOp o.op = true ∧ stepA E C f base o fr H fun v H' => H' = H ∧ K v H'
  | .fresh => match freshA E fr H.length o.op with
    | some (v, b) => K v (H ++ [some b])
    | none => False
  | .grow => growO o.op fr = true ∧ stepA E C f base o fr H K
  | .look => lookO false o.op fr H ∧ stepA E C f base o fr H fun v H' => H' = H ∧ K v H'
  | .mark => quietOp o.op = true ∧ stepA E C f base o fr H fun v H' => sameBut H H' ∧ K v H'
  | .peek => lookO true o.op fr H ∧ stepA E C f base o fr H fun v H' => H' = H ∧ K v H'
  | .lay => stepA E C f base o fr H fun v H' => onlyIn H H' ∧ K v H'
  | .twin => False
  | .app => if growO o.op fr = true then stepA E C f base o fr H K else match freshA E fr H.length o.op with
    | some (v, b) => K v (H ++ [some b])
    | none => False

def wpOpsA (E : Env) (C : CallRel) (f base : Nat) (all : Array Oper) : List (Oper × Tag) → Fr → Heap → (Fr → Heap → Prop) → Prop
  | [], fr, H, K => K fr H
  | (o, tag) :: rest, fr, H, K =>
    match guardA all fr o.guard with
    | some true => tagThen E C f base o tag fr H fun v H' => wpOpsA E C f base all rest (fr.put o.dst v) H' K
    | some false => wpOpsA E C f base all rest (fr.put o.dst (.tup [])) H K
    | none => False

inductive Ex where
  | normal | exit (id : Nat) | ret

def keepA (E : Env) (f id : Nat) (fr : Fr) : Fr :=
  match E.keep f id with
  | some l => fr.keep l
  | none => fr

/-- Slices that grow no more: from here on they stand as lists, and nobody writes them. -/
def frzThen (base : Nat) : List Nat → Fr → Heap → (Fr → Heap → Prop) → Prop
  | [], fr, H, K => K fr H
  | t :: ts, fr, H, K => match fr.get t with
    | .sl id ver off len _ esz => match blkAt H id ver with
      | some b => base ≤ id ∧ off + len * esz ≤ b.cells.length ∧ (∀ x ∈ b.cells, Nmd 0 x) ∧ frzThen base ts (fr.put (some t) (.lst ((b.cells.drop off).take (len * esz)) len)) (H.set id none) K
      | none => False
    | .lst _ _ => frzThen base ts fr H K
    | .nils => frzThen base ts fr H K
    | _ => False

/-- An order in which operations may be taken, each with its tag; and for each operation (by its place in the text) those that it waits for. -/
structure Cert where
  ord : List (Nat × Tag)
  waits : List (List Nat)

def directs (o : Oper) : List Nat := (o.after.toList.filter fun e => Region.binds .any e).map (·.on)
def waitsFor (D : Cert) (i j : Nat) : Bool := ((D.waits[i]?).getD []).contains j
def waitsOk (ops : Array Oper) (D : Cert) : Bool :=
  (List.range ops.size).all fun i => match ops[i]? with
    | some o => ((D.waits[i]?).getD []).all fun j => (directs o).contains j || (directs o).any fun k => decide (k < i) && waitsFor D k j
    | none => true
def tagsApart : Tag → Tag → Bool
  | .pure, _ => true
  | _, .pure => true
  | .quiet, .quiet => true
  | .quiet, .fresh => true
  | .fresh, .look => true
  | .grow, .grow => true
  | .quiet, .look => true
  | .look, .quiet => true
  | .look, .look => true
  | .look, .fresh => true
  | .look, .mark => true
  | .mark, .look => true
  | .mark, .fresh => true
  | .grow, .look => true
  | .app, .look => true
  | .peek, .lay => true
  | .peek, .peek => true
  | .peek, .quiet => true
  | .quiet, .peek => true
  | _, _ => false
def untwin : Tag → Tag
  | .twin => .fresh
  | t => t
def twinPos : List Tag → Option Nat
  | [] => none
  | .twin :: _ => some 0
  | _ :: l => (twinPos l).map (· + 1)
def swap1 {α : Type} : List α → List α
  | a :: b :: r => b :: a :: r
  | l => l
def untw (l : List (Nat × Tag)) : List (Nat × Tag) := l.map fun p => (p.1, untwin p.2)
def pairOk (ops : Array Oper) (D : Cert) (p q : Nat × Tag) : Bool :=
  match ops[p.1]?, ops[q.1]? with
  | some x, some y => !(directs x).contains q.1 && p.1 != q.1 && (waitsFor D q.1 p.1 || (Oper.apart ops x y && Oper.apart ops y x && tagsApart p.2 q.2))
  | _, _ => false
def pairsOk (ops : Array Oper) (D : Cert) : List (Nat × Tag) → Bool
  | [] => true
  | p :: l => l.all (pairOk ops D p) && pairsOk ops D l
def freeOk (ops : Array Oper) (i j : Nat) : Bool :=
  match ops[i]?, ops[j]? with
  | some x, some y => !(directs x).contains j && !(directs y).contains i && i != j
  | _, _ => false
/-- Two that make a block each, in either order; what follows waits for one of them. -/
def twinOk (ops : Array Oper) (D : Cert) (pre : List (Nat × Tag)) (i j : Nat × Tag) (post : List (Nat × Tag)) : Bool :=
  pairsOk ops D (pre ++ i :: post) && pairsOk ops D (pre ++ j :: post) && freeOk ops i.1 j.1 && post.all fun q => waitsFor D q.1 i.1 || waitsFor D q.1 j.1
def ordOk (ops : Array Oper) (D : Cert) : Bool :=
  match twinPos (D.ord.map (·.2)) with
  | none => pairsOk ops D (untw D.ord)
  | some k => match (untw D.ord).drop k with
    | i :: j :: post => twinOk ops D ((untw D.ord).take k) i j post
    | _ => false
def drawOk (ops : Array Oper) (D : Cert) : Bool :=
  waitsOk ops D && ordOk ops D && ((D.ord.map (·.1)).length == ops.size) && ((List.range ops.size).all fun i => (D.ord.map (·.1)).contains i) && (D.ord.all fun p => decide (p.1 < ops.size)) &&
  ((List.range ops.size).all fun i => match ops[i]? with | some o => (directs o).all fun j => decide (j < ops.size) && j != i | none => true)

/-- The operations of a region, in an order; behind the k first ones two may stand the other way round. -/
def drawW (E : Env) (C : CallRel) (f base : Nat) (all : Array Oper) (k : Option Nat) (l : List (Oper × Tag)) (fr : Fr) (H : Heap) (K : Fr → Heap → Prop) : Prop :=
  match k with
  | none => wpOpsA E C f base all l fr H K
  | some k => wpOpsA E C f base all (l.take k) fr H fun fr H => wpOpsA E C f base all (l.drop k) fr H K ∧ wpOpsA E C f base all (swap1 (l.drop k)) fr H K

def wpA (E : Env) (C : CallRel) (f base : Nat) : Code → Fr → Heap → (Ex → Fr → Heap → Prop) → Prop
  | .skip, fr, H, K => K .normal fr H
  | .region id ops false, fr, H, K => frzThen base (E.frz f id) fr H fun fr H => wpOpsA E C f base ops (ops.toList.map fun o => (o, Tag.seq)) fr H fun fr' H' => K .normal (keepA E f id fr') H'
  | .region id ops true, fr, H, K => frzThen base (E.frz f id) fr H fun fr H => ∃ D : Cert, drawOk ops D = true ∧ drawW E C f base ops (twinPos (D.ord.map (·.2))) (D.ord.filterMap fun p => (ops[p.1]?).map fun o => (o, untwin p.2)) fr H fun fr' H' => K .normal (keepA E f id fr') H'
  | .seq a b, fr, H, K => wpA E C f base a fr H fun e fr' H' => match e with
    | .normal => wpA E C f base b fr' H' K
    | e => K e fr' H'
  | .cond c x y, fr, H, K => match fr.ev c with
    | .bool b => (b = true → wpA E C f base x fr H K) ∧ (b = false → wpA E C f base y fr H K)
    | _ => False
  | .block id b, fr, H, K => wpA E C f base b fr H fun e fr' H' => match e with
    | .exit id' => if id' = id then K .normal fr' H' else K (.exit id') fr' H'
    | e => K e fr' H'
  | .loop b, fr, H, K => ∀ X : Fr → Heap → Prop, (∀ fr H, wpA E C f base b fr H (fun e fr' H' => match e with
    | .normal => X fr' H'
    | e => K e fr' H') → X fr H) → X fr H
  | .exit id, fr, H, K => K (.exit id) fr H
  | .ret, fr, H, K => K .ret fr H
  | _, _, _, _ => False

/-! ### calls -/
def resA (E : Env) (fr : Fr) (H : Heap) : ResultVar → Option AV
  | .tmp t => some (fr.get t)
  | .cell a t => (E.T t).bind fun ti => loadA ti H (fr.get a)

def resultsA (E : Env) (fr : Fr) (H : Heap) (rs : List ResultVar) : Option (List AV) := rs.mapM (resA E fr H)

mutual
/-- A result leaves its call: it names no block of the call's own; or it is a slice of one, of which none is left; or it is made of such; or a slice of such. -/
inductive Fin1 (base : Nat) (H : Heap) : AV → AV → Prop
  | same (v : AV) : Nmd base v → Fin1 base H v v
  | sl (id ver off len cap esz : Nat) (b : Blk) : base ≤ id → blkAt H id ver = some b → (∀ x ∈ b.cells, Nmd 0 x) → off + len * esz ≤ b.cells.length →
      Fin1 base H (.sl id ver off len cap esz) (.lst ((b.cells.drop off).take (len * esz)) len)
  | agg (l l' : List AV) : FinL base H l l' → Fin1 base H (.agg l) (.agg l')
  | rows (id ver off len cap esz : Nat) (b : Blk) (cs : List AV) : base ≤ id → blkAt H id ver = some b → FinL base H ((b.cells.drop off).take (len * esz)) cs → (∀ x ∈ cs, Nmd 0 x) → off + len * esz ≤ b.cells.length →
      Fin1 base H (.sl id ver off len cap esz) (.lst cs len)
inductive FinL (base : Nat) (H : Heap) : List AV → List AV → Prop
  | nil : FinL base H [] []
  | cons (v v' : AV) (l l' : List AV) : Fin1 base H v v' → FinL base H l l' → FinL base H (v :: l) (v' :: l')
end

def packA : List AV → AV
  | [v] => v
  | l => .tup l

def dstsOk (n : Nat) : Code → Bool
  | .region _ ops _ => ops.toList.all fun o => match o.dst with | some d => decide (d < n) | none => true
  | .seq a b => dstsOk n a && dstsOk n b
  | .cond _ a b => dstsOk n a && dstsOk n b
  | .block _ b => dstsOk n b
  | .loop b => dstsOk n b
  | _ => true

def fnOk (fn : Func) (c : Code) : Bool := dstsOk fn.ntmps c && !(fn.name == "runtime.NumGoroutine")

def initFr (args : List AV) : Fr := (List.range args.length).zip args

def retA (E : Env) (f base : Nat) (rs : List ResultVar) (v' : AV) (H' : Heap) (e : Ex) (fr : Fr) (H1 : Heap) : Prop :=
  (match e with | .exit _ => False | _ => True) ∧ ∃ vs, resultsA E fr H1 rs = some vs ∧
    (if E.escapes f then v' = packA vs ∧ H' = H1 else ∃ vs', FinL base H1 vs vs' ∧ v' = packA vs' ∧ H' = H1.take base)

def Step (E : Env) (C : CallRel) : CallRel := fun f args H v' H' =>
  ∃ fn c, E.P.funcs[f]? = some fn ∧ fn.body = some c ∧ fnOk fn c = true ∧ args.length ≤ fn.ntmps ∧
    wpA E C f H.length c (initFr args) H (retA E f H.length fn.results.toList v' H')

/-- The least relation that is closed under Step and holds what is given. -/
def Call (E : Env) : CallRel := fun f args H v H' => ∀ C : CallRel, (∀ f args H v H', Step E C f args H v H' → C f args H v H') → (∀ f args H v, E.given f args v → C f args H v H) → C f args H v H'

end Go.Proofs.YtoncolpkpgbfiaaDoor

/- Monotonicity of the wp form in what calls do and in what follows; the closure of Call under Step. -/
set_option linter.unusedVariables false
set_option linter.unusedSimpArgs false
namespace Go.Proofs.YtoncolpkpgbfiaaDoor

section
variable {E : Env} {C C' : CallRel}

theorem callThen_mono {f : FuncId} {args : List AV} {H : Heap} {K K' : AV → Heap → Prop} (hC : ∀ f args H v H', C f args H v H' → C' f args H v H') (hK : ∀ v H, K v H → K' v H)
    (h : callThen C f args H K) : callThen C' f args H K' := by
  obtain ⟨v, H', h1, h2⟩ := h
  exact ⟨v, H', hC _ _ _ _ _ h1, hK _ _ h2⟩

theorem someThen_mono {r : Option (AV × Heap)} {K K' : AV → Heap → Prop} (hK : ∀ v H, K v H → K' v H) (h : someThen r K) : someThen r K' := by
  cases r with
  | none => exact h
  | some p => exact hK _ _ h

theorem storeThen_mono {base : Nat} {r : Option (Nat × List AV × Heap)} {K K' : AV → Heap → Prop} (hK : ∀ v H, K v H → K' v H) (h : storeThen base r K) : storeThen base r K' := by
  match r, h with
  | some (_, _, _), ⟨h1, h2⟩ => exact ⟨h1, hK _ _ h2⟩

theorem stepA_mono {f base : Nat} {o : Oper} {fr : Fr} {H : Heap} {K K' : AV → Heap → Prop} (hC : ∀ f args H v H', C f args H v H' → C' f args H v H') (hK : ∀ v H, K v H → K' v H)
    (h : stepA E C f base o fr H K) : stepA E C' f base o fr H K' := by
  unfold stepA at h ⊢
  split at h
  · split at h
    · unfold fnThen at h ⊢
      split at h
      · split at h
        · exact hK _ _ h
        · exact callThen_mono hC hK h
      · exact h
    · exact ⟨h.1, someThen_mono hK h.2⟩
    · exact h
  · split at h
    · exact storeThen_mono hK h
    · exact h
  · exact someThen_mono hK h

theorem tagThen_mono {f base : Nat} {o : Oper} {tag : Tag} {fr : Fr} {H : Heap} {K K' : AV → Heap → Prop} (hC : ∀ f args H v H', C f args H v H' → C' f args H v H') (hK : ∀ v H, K v H → K' v H)
    (h : tagThen E C f base o tag fr H K) : tagThen E C' f base o tag fr H K' := by
  unfold tagThen at h ⊢
  split at h
  · exact stepA_mono hC hK h
  · split at h
    · exact hK _ _ h
    · exact h
  · exact ⟨h.1, stepA_mono hC (fun v H' h => ⟨h.1, hK _ _ h.2⟩) h.2⟩
  · split at h
    · exact hK _ _ h
    · exact h
  · exact ⟨h.1, stepA_mono hC hK h.2⟩
  · exact ⟨h.1, stepA_mono hC (fun v H' h => ⟨h.1, hK _ _ h.2⟩) h.2⟩
  · exact ⟨h.1, stepA_mono hC (fun v H' h => ⟨h.1, hK _ _ h.2⟩) h.2⟩
  · exact ⟨h.1, stepA_mono hC (fun v H' h => ⟨h.1, hK _ _ h.2⟩) h.2⟩
  · exact stepA_mono hC (fun v H' h => ⟨h.1, hK _ _ h.2⟩) h
  · exact h
  · split at h
    · rename_i hg; rw [if_pos hg]; exact stepA_mono hC hK h
    · rename_i hg
      rw [if_neg hg]
      split at h
      · exact hK _ _ h
      · exact h

theorem wpOpsA_mono {f base : Nat} {all : Array Oper} (hC : ∀ f args H v H', C f args H v H' → C' f args H v H') : ∀ (l : List (Oper × Tag)) {fr : Fr} {H : Heap} {K K' : Fr → Heap → Prop},
    (∀ fr H, K fr H → K' fr H) → wpOpsA E C f base all l fr H K → wpOpsA E C' f base all l fr H K'
  | [], _, _, _, _, hK, h => hK _ _ h
  | (o, s) :: rest, fr, H, K, K', hK, h => by
    simp only [wpOpsA] at h ⊢
    split at h
    · exact tagThen_mono hC (fun v H' h => wpOpsA_mono hC rest hK h) h
    · exact wpOpsA_mono hC rest hK h
    · exact h

theorem frzThen_mono {base : Nat} : ∀ (ts : List Nat) {fr : Fr} {H : Heap} {K K' : Fr → Heap → Prop}, (∀ fr H, K fr H → K' fr H) → frzThen base ts fr H K → frzThen base ts fr H K'
  | [], _, _, _, _, hK, h => hK _ _ h
  | t :: ts, fr, H, K, K', hK, h => by
    simp only [frzThen] at h ⊢
    split at h
    · split at h
      · exact ⟨h.1, h.2.1, h.2.2.1, frzThen_mono ts hK h.2.2.2⟩
      · exact h
    · exact frzThen_mono ts hK h
    · exact frzThen_mono ts hK h
    · exact h

theorem drawW_mono {f base : Nat} {all : Array Oper} (hC : ∀ f args H v H', C f args H v H' → C' f args H v H') {k : Option Nat} {l : List (Oper × Tag)} {fr : Fr} {H : Heap} {K K' : Fr → Heap → Prop}
    (hK : ∀ fr H, K fr H → K' fr H) (h : drawW E C f base all k l fr H K) : drawW E C' f base all k l fr H K' := by
  cases k with
  | none => exact wpOpsA_mono hC _ hK h
  | some k => exact wpOpsA_mono hC _ (fun fr H h => ⟨wpOpsA_mono hC _ hK h.1, wpOpsA_mono hC _ hK h.2⟩) h
theorem wpA_mono {f base : Nat} (hC : ∀ f args H v H', C f args H v H' → C' f args H v H') : ∀ (c : Code) {fr : Fr} {H : Heap} {K K' : Ex → Fr → Heap → Prop},
    (∀ e fr H, K e fr H → K' e fr H) → wpA E C f base c fr H K → wpA E C' f base c fr H K' := by
  intro c
  induction c with
  | skip => intro fr H K K' hK h; exact hK _ _ _ h
  | region id ops draw =>
    intro fr H K K' hK h
    cases draw with
    | false => exact frzThen_mono _ (fun _ _ h => wpOpsA_mono hC _ (fun _ _ h => hK _ _ _ h) h) h
    | true => exact frzThen_mono _ (fun _ _ h => by obtain ⟨ord, h1, h2⟩ := h; exact ⟨ord, h1, drawW_mono hC (fun _ _ h => hK _ _ _ h) h2⟩) h
  | seq a b iha ihb =>
    intro fr H K K' hK h
    refine iha (fun e fr H h => ?_) h
    cases e with
    | normal => exact ihb hK h
    | _ => exact hK _ _ _ h
  | cond c x y ihx ihy =>
    intro fr H K K' hK h
    simp only [wpA] at h ⊢
    split at h
    · exact ⟨fun hb => ihx hK (h.1 hb), fun hb => ihy hK (h.2 hb)⟩
    · exact h
  | block id b ih =>
    intro fr H K K' hK h
    refine ih (fun e fr H h => ?_) h
    cases e with
    | exit id' =>
      by_cases hid : id' = id
      · simp only [hid, if_true] at h ⊢; exact hK _ _ _ h
      · simp only [hid, if_false] at h ⊢; exact hK _ _ _ h
    | _ => exact hK _ _ _ h
  | loop b ih =>
    intro fr H K K' hK h
    intro X hX
    refine h X fun fr H h => hX fr H (ih (fun e fr H h => ?_) h)
    cases e with
    | normal => exact h
    | _ => exact hK _ _ _ h
  | exit id => intro fr H K K' hK h; exact hK _ _ _ h
  | ret => intro fr H K K' hK h; exact hK _ _ _ h
  | _ => intro fr H K K' hK h; exact h

theorem Step_mono (hC : ∀ f args H v H', C f args H v H' → C' f args H v H') {f : FuncId} {args : List AV} {H : Heap} {v : AV} {H' : Heap} (h : Step E C f args H v H') : Step E C' f args H v H' := by
  obtain ⟨fn, c, h1, h2, h3, h4, h5⟩ := h
  exact ⟨fn, c, h1, h2, h3, h4, wpA_mono hC c (fun _ _ _ h => h) h5⟩
end

theorem Call.intro {E : Env} {f : FuncId} {args : List AV} {H : Heap} {v : AV} {H' : Heap} (h : Step E (Call E) f args H v H') : Call E f args H v H' :=
  fun C hC hG => hC _ _ _ _ _ (Step_mono (fun _ _ _ _ _ hc => hc C hC hG) h)
theorem Call.ofGiven {E : Env} {f : FuncId} {args : List AV} {v : AV} (h : E.given f args v) (H : Heap) : Call E f args H v H := fun C _ hG => hG _ _ H _ h

theorem Call.of {E : Env} {f : FuncId} {args : List AV} {H : Heap} {v : AV} {H' : Heap} {fn : Func} {c : Code} (h1 : E.P.funcs[f]? = some fn) (h2 : fn.body = some c) (h3 : fnOk fn c = true)
    (h4 : args.length ≤ fn.ntmps) (h5 : wpA E (Call E) f H.length c (initFr args) H (retA E f H.length fn.results.toList v H')) : Call E f args H v H' :=
  Call.intro ⟨fn, c, h1, h2, h3, h4, h5⟩

/-! ### the walk's rules, what follows behind a name -/
section
variable {E : Env} {C : CallRel} {f base : Nat}
def seqK (E : Env) (C : CallRel) (f base : Nat) (b : Code) (K : Ex → Fr → Heap → Prop) (e : Ex) (fr : Fr) (H : Heap) : Prop :=
  match e with
  | .normal => wpA E C f base b fr H K
  | e => K e fr H
def blockK (id : Nat) (K : Ex → Fr → Heap → Prop) (e : Ex) (fr : Fr) (H : Heap) : Prop :=
  match e with
  | .exit id' => if id' = id then K .normal fr H else K (.exit id') fr H
  | e => K e fr H
def loopA (E : Env) (C : CallRel) (f base : Nat) (b : Code) (K : Ex → Fr → Heap → Prop) (fr : Fr) (H : Heap) : Prop := wpA E C f base (.loop b) fr H K
def loopK (E : Env) (C : CallRel) (f base : Nat) (b : Code) (K : Ex → Fr → Heap → Prop) (e : Ex) (fr : Fr) (H : Heap) : Prop :=
  match e with
  | .normal => loopA E C f base b K fr H
  | e => K e fr H
def regK (E : Env) (f id : Nat) (K : Ex → Fr → Heap → Prop) (fr : Fr) (H : Heap) : Prop := K .normal (keepA E f id fr) H
def opsK (E : Env) (C : CallRel) (f base : Nat) (all : Array Oper) (rest : List (Oper × Tag)) (dst : Option Nat) (fr : Fr) (K : Fr → Heap → Prop) (v : AV) (H : Heap) : Prop :=
  wpOpsA E C f base all rest (fr.put dst v) H K

def optThen (r : Option AV) (H : Heap) (K : AV → Heap → Prop) : Prop :=
  match r with
  | some v => K v H
  | none => False
def blkThen (r : Option (AV × Blk)) (H : Heap) (K : AV → Heap → Prop) : Prop :=
  match r with
  | some (v, b) => K v (H ++ [some b])
  | none => False
def sameK (H : Heap) (K : AV → Heap → Prop) (v : AV) (H' : Heap) : Prop := H' = H ∧ K v H'
/-! one rule an operation -/
section
variable {all : Array Oper} {rest : List (Oper × Tag)} {dst : Option Nat} {ty : TypeId} {pos : String} {aft : Array Edge} {tag : Tag} {fr : Fr} {H : Heap} {K : Fr → Heap → Prop}
theorem w_nil : wpOpsA E C f base all [] fr H K = K fr H := (rfl)
theorem w_op {o : Op} : wpOpsA E C f base all ((⟨dst, o, ty, pos, aft, none⟩, tag) :: rest) fr H K = tagThen E C f base ⟨dst, o, ty, pos, aft, none⟩ tag fr H (opsK E C f base all rest dst fr K) := (rfl)
theorem w_guard {o : Op} {g : Nat × Bool} : wpOpsA E C f base all ((⟨dst, o, ty, pos, aft, some g⟩, tag) :: rest) fr H K =
    match guardA all fr (some g) with
    | some true => tagThen E C f base ⟨dst, o, ty, pos, aft, some g⟩ tag fr H (opsK E C f base all rest dst fr K)
    | some false => wpOpsA E C f base all rest (fr.put dst (.tup [])) H K
    | none => False := (rfl)
end
theorem t_seq {o : Oper} {fr : Fr} {H : Heap} {K : AV → Heap → Prop} : tagThen E C f base o .seq fr H K = stepA E C f base o fr H K := (rfl)
theorem t_pure {o : Oper} {fr : Fr} {H : Heap} {K : AV → Heap → Prop} : tagThen E C f base o .pure fr H K = optThen (pureA E f o fr) H K := by
  unfold tagThen optThen; cases pureA E f o fr <;> rfl
theorem t_quiet {o : Oper} {fr : Fr} {H : Heap} {K : AV → Heap → Prop} : tagThen E C f base o .quiet fr H K = (quietOp o.op = true ∧ stepA E C f base o fr H (sameK H K)) := (rfl)
theorem t_growO {o : Oper} {fr : Fr} {H : Heap} {K : AV → Heap → Prop} : tagThen E C f base o .grow fr H K = (growO o.op fr = true ∧ stepA E C f base o fr H K) := (rfl)
def butK (H0 : Heap) (K : AV → Heap → Prop) (v : AV) (H : Heap) : Prop := sameBut H0 H ∧ K v H
theorem t_look {o : Oper} {fr : Fr} {H : Heap} {K : AV → Heap → Prop} : tagThen E C f base o .look fr H K = (lookO false o.op fr H ∧ stepA E C f base o fr H (sameK H K)) := (rfl)
def inK (H0 : Heap) (K : AV → Heap → Prop) (v : AV) (H : Heap) : Prop := onlyIn H0 H ∧ K v H
theorem t_lay {o : Oper} {fr : Fr} {H : Heap} {K : AV → Heap → Prop} : tagThen E C f base o .lay fr H K = stepA E C f base o fr H (inK H K) := (rfl)
theorem t_mark {o : Oper} {fr : Fr} {H : Heap} {K : AV → Heap → Prop} : tagThen E C f base o .mark fr H K = (quietOp o.op = true ∧ stepA E C f base o fr H (butK H K)) := (rfl)
theorem t_appO {o : Oper} {fr : Fr} {H : Heap} {K : AV → Heap → Prop} : tagThen E C f base o .app fr H K = if growO o.op fr = true then stepA E C f base o fr H K else blkThen (freshA E fr H.length o.op) H K := by
  unfold blkThen
  cases h : freshA E fr H.length o.op with
  | none => simp only [tagThen, h]
  | some p => simp only [tagThen, h]
theorem t_fresh {o : Oper} {fr : Fr} {H : Heap} {K : AV → Heap → Prop} : tagThen E C f base o .fresh fr H K = blkThen (freshA E fr H.length o.op) H K := by
  unfold tagThen blkThen; cases freshA E fr H.length o.op <;> rfl
theorem optThen_some {v : AV} {H : Heap} {K : AV → Heap → Prop} : optThen (some v) H K = K v H := (rfl)
theorem blkThen_some {v : AV} {b : Blk} {H : Heap} {K : AV → Heap → Prop} : blkThen (some (v, b)) H K = K v (H ++ [some b]) := (rfl)
section
variable {dst : Option Nat} {ty : TypeId} {pos : String} {aft : Array Edge} {g : Option (Nat × Bool)} {fr : Fr} {H : Heap} {K : AV → Heap → Prop}
theorem s_move {x : Operand} : stepA E C f base ⟨dst, .move x, ty, pos, aft, g⟩ fr H K = someThen (moveA (ownDst E f dst) (E.kd ty) H (fr.ev x)) K := (rfl)
theorem s_assign {x : Operand} : stepA E C f base ⟨dst, .assign x, ty, pos, aft, g⟩ fr H K = someThen (moveA (ownDst E f dst) (E.kd ty) H (fr.ev x)) K := (rfl)
theorem s_pick {c a b : Operand} : stepA E C f base ⟨dst, .pick c a b, ty, pos, aft, g⟩ fr H K = someThen (pickA (fr.ev c) (fr.ev a) (fr.ev b) H) K := (rfl)
theorem s_alloc {t : TypeId} : stepA E C f base ⟨dst, .alloc t, ty, pos, aft, g⟩ fr H K = someThen ((E.T t).map fun ti => (.ptr H.length 0 0, H ++ [some ⟨ti.zero, 0⟩])) K := (rfl)
theorem s_box {t : TypeId} {x : Operand} : stepA E C f base ⟨dst, .box t x, ty, pos, aft, g⟩ fr H K = someThen ((fr.ev x).cells?.map fun cs => (.ptr H.length 0 0, H ++ [some ⟨cs, 0⟩])) K := (rfl)
theorem s_build {t : TypeId} {parts : Array (Nat × Operand)} : stepA E C f base ⟨dst, .build t parts, ty, pos, aft, g⟩ fr H K = someThen ((E.T t).bind fun ti => (buildA ti (parts.toList.map fun p => (p.1, fr.ev p.2))).map fun v => (v, H)) K := (rfl)
theorem s_buildSlice {t : TypeId} {n : Nat} {parts : Array (Nat × Operand)} : stepA E C f base ⟨dst, .buildSlice t n parts, ty, pos, aft, g⟩ fr H K = someThen ((E.kd t).bind fun k => buildSliceA (ownDst E f dst) H k n (parts.toList.map fun p => (p.1, fr.ev p.2))) K := (rfl)
theorem s_load {t : TypeId} {a : Operand} : stepA E C f base ⟨dst, .load t a, ty, pos, aft, g⟩ fr H K = someThen ((E.T t).bind fun ti => (loadA ti H (fr.ev a)).map fun v => (v, H)) K := (rfl)
theorem s_nilCheck {x : Operand} : stepA E C f base ⟨dst, .nilCheck x, ty, pos, aft, g⟩ fr H K = someThen ((nilCheckA (fr.ev x)).map fun v => (v, H)) K := (rfl)
theorem s_binOp {op : BinOp} {t u : TypeId} {x y : Operand} : stepA E C f base ⟨dst, .binOp op t x y u, ty, pos, aft, g⟩ fr H K = someThen ((binB E t (isConst x || isConst y) op (fr.ev x) (fr.ev y)).map fun v => (v, H)) K := (rfl)
theorem s_unOp {op : UnOp} {t : TypeId} {x : Operand} : stepA E C f base ⟨dst, .unOp op t x, ty, pos, aft, g⟩ fr H K = someThen ((unA op (fr.ev x)).map fun v => (v, H)) K := (rfl)
theorem s_convert {t u : TypeId} {x : Operand} : stepA E C f base ⟨dst, .convert t u x, ty, pos, aft, g⟩ fr H K = someThen ((E.kd t).bind fun s => (E.kd u).bind fun d => (convertA s d (fr.ev x)).map fun v => (v, H)) K := (rfl)
theorem s_makeInterface {t : TypeId} {x : Operand} : stepA E C f base ⟨dst, .makeInterface t x, ty, pos, aft, g⟩ fr H K = someThen ((E.kd t).bind fun k => (makeInterfaceA k t (fr.ev x)).map fun v => (v, H)) K := (rfl)
theorem s_makeFunc {h : FuncId} {a b : Array Operand} : stepA E C f base ⟨dst, .makeFunc (.func h) a b, ty, pos, aft, g⟩ fr H K = someThen (if a.size = 0 then some (.fn h (b.toList.map fr.ev), H) else none) K := (rfl)
theorem s_makeSlice {t : TypeId} {l c : Operand} : stepA E C f base ⟨dst, .makeSlice t l c, ty, pos, aft, g⟩ fr H K = someThen ((E.kd t).bind fun k => makeSliceA H k (fr.ev l) (fr.ev c)) K := (rfl)
theorem s_slice {t : TypeId} {x : Operand} {lo hi : Option Operand} : stepA E C f base ⟨dst, .slice t x lo hi none, ty, pos, aft, g⟩ fr H K = someThen ((E.kd t).bind fun k => (sliceA H fr k (fr.ev x) lo hi).map fun v => (v, H)) K := (rfl)
theorem s_fieldAddr {t : TypeId} {x : Operand} {i : Nat} : stepA E C f base ⟨dst, .fieldAddr t x i, ty, pos, aft, g⟩ fr H K = someThen ((E.kd t).bind fun k => (fieldAddrA k (fr.ev x) i).map fun v => (v, H)) K := (rfl)
theorem s_field {t : TypeId} {x : Operand} {i : Nat} : stepA E C f base ⟨dst, .field t x i, ty, pos, aft, g⟩ fr H K = someThen ((E.kd t).bind fun k => (fieldA k (fr.ev x) i).map fun v => (v, H)) K := (rfl)
theorem s_indexAddr {t : TypeId} {x i : Operand} : stepA E C f base ⟨dst, .indexAddr t x i, ty, pos, aft, g⟩ fr H K = someThen ((E.kd t).bind fun k => (indexAddrA k (fr.ev x) (fr.ev i)).map fun v => (v, H)) K := (rfl)
theorem s_index {t : TypeId} {x i : Operand} : stepA E C f base ⟨dst, .index t x i, ty, pos, aft, g⟩ fr H K = someThen ((E.kd t).bind fun k => (indexA k (fr.ev x) (fr.ev i)).map fun v => (v, H)) K := (rfl)
theorem s_arrayAt {t : TypeId} {x : Operand} : stepA E C f base ⟨dst, .sliceToArrayPointer t x, ty, pos, aft, g⟩ fr H K = someThen ((E.kd t).bind fun k => (arrayAtA k (fr.ev x)).map fun v => (v, H)) K := (rfl)
theorem s_extract {x : Operand} {i : Nat} : stepA E C f base ⟨dst, .extract x i, ty, pos, aft, g⟩ fr H K = someThen ((extractA (fr.ev x) i).map fun v => (v, H)) K := (rfl)
theorem s_store {t : TypeId} {a x : Operand} : stepA E C f base ⟨dst, .store t a x, ty, pos, aft, g⟩ fr H K = match E.T t with | some ti => storeThen base (storeA ti H (fr.ev a) (fr.ev x)) K | none => False := (rfl)
theorem s_builtin {b : Builtin} {as : Array Operand} {ts : Array TypeId} : stepA E C f base ⟨dst, .call ⟨.builtin b, as, ts⟩, ty, pos, aft, g⟩ fr H K = (mayAppend base b (as.toList.map fr.ev) H ∧ someThen (builtinA E b ts.toList (as.toList.map fr.ev) H) K) := (rfl)
theorem s_call {h : Operand} {as : Array Operand} {ts : Array TypeId} : stepA E C f base ⟨dst, .call ⟨.value h, as, ts⟩, ty, pos, aft, g⟩ fr H K = fnThen E C (fr.ev h) (as.toList.map fr.ev) H K := (rfl)
end
theorem someThen_some {v : AV} {H : Heap} {K : AV → Heap → Prop} : someThen (some (v, H)) K = K v H := (rfl)
theorem storeThen_some {base id : Nat} {vs : List AV} {H : Heap} {K : AV → Heap → Prop} : storeThen base (some (id, vs, H)) K = (mayStore base id vs ∧ K (.tup []) H) := (rfl)

theorem wpA_seq {a b : Code} {fr : Fr} {H : Heap} {K : Ex → Fr → Heap → Prop} : wpA E C f base (.seq a b) fr H K = wpA E C f base a fr H (seqK E C f base b K) := (rfl)
theorem wpA_block {id : Nat} {b : Code} {fr : Fr} {H : Heap} {K : Ex → Fr → Heap → Prop} : wpA E C f base (.block id b) fr H K = wpA E C f base b fr H (blockK id K) := (rfl)
theorem wpA_skip {fr : Fr} {H : Heap} {K : Ex → Fr → Heap → Prop} : wpA E C f base .skip fr H K = K .normal fr H := (rfl)
theorem wpA_exit {id : Nat} {fr : Fr} {H : Heap} {K : Ex → Fr → Heap → Prop} : wpA E C f base (.exit id) fr H K = K (.exit id) fr H := (rfl)
theorem wpA_ret {fr : Fr} {H : Heap} {K : Ex → Fr → Heap → Prop} : wpA E C f base .ret fr H K = K .ret fr H := (rfl)
theorem wpA_loop {b : Code} {fr : Fr} {H : Heap} {K : Ex → Fr → Heap → Prop} : wpA E C f base (.loop b) fr H K = loopA E C f base b K fr H := (rfl)

theorem loopA_of {b : Code} {fr : Fr} {H : Heap} {K : Ex → Fr → Heap → Prop} (h : wpA E C f base b fr H (loopK E C f base b K)) : loopA E C f base b K fr H := by
  intro X hX
  refine hX fr H (wpA_mono (fun _ _ _ _ _ h => h) b (fun e fr H h => ?_) h)
  cases e with
  | normal => exact h X hX
  | _ => exact h
end
end Go.Proofs.YtoncolpkpgbfiaaDoor

/- How the interpreter's values and heap stand for the machine's: the relation, and how it is kept. -/
set_option linter.unusedVariables false
set_option linter.unusedSimpArgs false
namespace Go.Proofs.YtoncolpkpgbfiaaDoor

/-- What stands behind names: lists that nobody writes any more, by the machine's blocks; of each of the interpreter's blocks its version, and the machine's block with its number of cells. -/
structure Ctx where
  z : Nat → Option (List Value)
  m : Nat → Option (Nat × Option (Nat × Nat))

/-- What names no block of n or above is known without those. -/
def Ctx.res (c : Ctx) (n : Nat) : Ctx := { c with m := fun id => if id < n then c.m id else none }

inductive VRel : Ctx → AV → Value → Prop
  | undef {c : Ctx} (v : Value) : VRel c .undef v
  | int {c : Ctx} (k : IntKind) (n : Int) : VRel c (.int k n) (.int k n)
  | bool {c : Ctx} (b : Bool) : VRel c (.bool b) (.bool b)
  | str {c : Ctx} (s : ByteArray) : VRel c (.str s) (.string s)
  | nilp {c : Ctx} : VRel c .nilp (.pointer none)
  | nils {c : Ctx} : VRel c .nils (.slice none 0 0)
  | nilf {c : Ctx} : VRel c .nilf .nilFunc
  | nili {c : Ctx} : VRel c .nili .nilIface
  | ptr {c : Ctx} (id ver off b sz : Nat) : c.m id = some (ver, some (b, sz)) → VRel c (.ptr id ver off) (.pointer (some ⟨b, off, none⟩))
  | ptrOld {c : Ctx} (id ver off ver' : Nat) (bk : Option (Nat × Nat)) (b : Nat) : c.m id = some (ver', bk) → ver < ver' → VRel c (.ptr id ver off) (.pointer (some ⟨b, off, none⟩))
  | lel {c : Ctx} (cells : List AV) (off b o : Nat) (cs : List Value) : c.z b = some cs → o + cells.length ≤ cs.length →
      (∀ i, i < cells.length → VRel (c.res 0) (cells.getD i .undef) (cs.getD (o + i) undef)) → VRel c (.lel cells off) (.pointer (some ⟨b, o + off, none⟩))
  | sl {c : Ctx} (id ver off len cap esz b sz cap' : Nat) : c.m id = some (ver, some (b, sz)) → cap ≤ cap' → len ≤ cap → off + cap' * esz ≤ sz → VRel c (.sl id ver off len cap esz) (.slice (some ⟨b, off, none⟩) len cap')
  | slNone {c : Ctx} (id ver esz : Nat) : c.m id = some (ver, none) → VRel c (.sl id ver 0 0 0 esz) (.slice none 0 0)
  | slOld {c : Ctx} (id ver off len cap esz ver' : Nat) (bk : Option (Nat × Nat)) (b cap' : Nat) : c.m id = some (ver', bk) → ver < ver' → cap ≤ cap' → len ≤ cap → VRel c (.sl id ver off len cap esz) (.slice (some ⟨b, off, none⟩) len cap')
  | slOldNone {c : Ctx} (id ver esz ver' : Nat) (bk : Option (Nat × Nat)) : c.m id = some (ver', bk) → ver < ver' → VRel c (.sl id ver 0 0 0 esz) (.slice none 0 0)
  | lst {c : Ctx} (cells : List AV) (len b o cap : Nat) (cs : List Value) : len ≤ cap → c.z b = some cs → o + cells.length ≤ cs.length →
      (∀ i, i < cells.length → VRel (c.res 0) (cells.getD i .undef) (cs.getD (o + i) undef)) → VRel c (.lst cells len) (.slice (some ⟨b, o, none⟩) len cap)
  | lst0 {c : Ctx} (a : Option Addr) (cap : Nat) : VRel c (.lst [] 0) (.slice a 0 cap)
  | fn {c : Ctx} (f : FuncId) (caps : List AV) (caps' : List Value) : caps.length = caps'.length → (∀ i, i < caps.length → VRel c (caps.getD i .undef) (caps'.getD i undef)) → VRel c (.fn f caps) (.func (.func f) #[] caps'.toArray)
  | ifc {c : Ctx} (t : TypeId) (v : AV) (x : Value) : VRel c v x → VRel c (.ifc t v) (.iface t x)
  | agg {c : Ctx} (cells : List AV) (cs : List Value) : cells.length = cs.length → (∀ i, i < cells.length → VRel c (cells.getD i .undef) (cs.getD i undef)) → VRel c (.agg cells) (.agg cs.toArray)
  | tup {c : Ctx} (vs : List AV) (xs : List Value) : vs.length = xs.length → (∀ i, i < vs.length → VRel c (vs.getD i .undef) (xs.getD i undef)) → VRel c (.tup vs) (.tuple xs.toArray)

/-- Lists, one by one. -/
def LRel (c : Ctx) (l : List AV) (l' : List Value) : Prop := l.length = l'.length ∧ ∀ i, i < l.length → VRel c (l.getD i .undef) (l'.getD i undef)

theorem LRel.nil {c : Ctx} : LRel c [] [] := ⟨rfl, fun i h => by simp at h⟩
theorem LRel.cons {c : Ctx} {v : AV} {x : Value} {l : List AV} {l' : List Value} (h : VRel c v x) (hl : LRel c l l') : LRel c (v :: l) (x :: l') := by
  refine ⟨by simp [hl.1], fun i hi => ?_⟩
  cases i with
  | zero => simpa using h
  | succ i => simpa using hl.2 i (by simpa using hi)
theorem LRel.head {c : Ctx} {v : AV} {l : List AV} {l' : List Value} (h : LRel c (v :: l) l') : ∃ x r, l' = x :: r ∧ VRel c v x ∧ LRel c l r := by
  cases l' with
  | nil => exact absurd h.1 (by simp)
  | cons x r =>
    refine ⟨x, r, rfl, by simpa using h.2 0 (by simp), by simpa using h.1, fun i hi => ?_⟩
    simpa using h.2 (i + 1) (by simpa using hi)
theorem LRel.get {c : Ctx} {l : List AV} {l' : List Value} (h : LRel c l l') {i : Nat} {v : AV} (hi : l[i]? = some v) : ∃ x, l'[i]? = some x ∧ VRel c v x := by
  have hlt : i < l.length := (List.getElem?_eq_some_iff.1 hi).1
  have hlt' : i < l'.length := h.1 ▸ hlt
  refine ⟨l'[i], List.getElem?_eq_getElem hlt', ?_⟩
  have := h.2 i hlt
  simp only [List.getD_eq_getElem?_getD, hi, List.getElem?_eq_getElem hlt', Option.getD_some] at this
  exact this
theorem LRel.append {c : Ctx} {l r : List AV} {l' r' : List Value} (h : LRel c l l') (hr : LRel c r r') : LRel c (l ++ r) (l' ++ r') := by
  induction l generalizing l' with
  | nil => cases l' with
    | nil => simpa using hr
    | cons x t => exact absurd h.1 (by simp)
  | cons v l ih =>
    obtain ⟨x, t, rfl, hx, ht⟩ := h.head
    exact LRel.cons hx (ih ht)
theorem LRel.take {c : Ctx} {l : List AV} {l' : List Value} (h : LRel c l l') (n : Nat) : LRel c (l.take n) (l'.take n) := by
  refine ⟨by simp [h.1], fun i hi => ?_⟩
  have hi' : i < n ∧ i < l.length := by simp at hi; omega
  have := h.2 i hi'.2
  simpa [List.getD_eq_getElem?_getD, List.getElem?_take, hi'.1] using this
theorem LRel.drop {c : Ctx} {l : List AV} {l' : List Value} (h : LRel c l l') (n : Nat) : LRel c (l.drop n) (l'.drop n) := by
  refine ⟨by simp [h.1], fun i hi => ?_⟩
  have hi' : n + i < l.length := by have : i < l.length - n := by simpa using hi
                                    omega
  have := h.2 (n + i) hi'
  simpa [List.getD_eq_getElem?_getD] using this
theorem LRel.set {c : Ctx} {l : List AV} {l' : List Value} (h : LRel c l l') {v : AV} {x : Value} (hv : VRel c v x) (n : Nat) : LRel c (l.set n v) (l'.set n x) := by
  refine ⟨by simp [h.1], fun i hi => ?_⟩
  have hi' : i < l.length := by simpa using hi
  have hi2 : i < l'.length := h.1 ▸ hi'
  by_cases e : n = i
  · subst e; simpa [List.getD_eq_getElem?_getD, hi', hi2] using hv
  · simpa [List.getD_eq_getElem?_getD, e] using h.2 i hi'
theorem LRel.map {c : Ctx} {α : Type} (l : List α) {g : α → AV} {g' : α → Value} (h : ∀ a ∈ l, VRel c (g a) (g' a)) : LRel c (l.map g) (l.map g') := by
  induction l with
  | nil => exact .nil
  | cons a l ih => exact .cons (h a (by simp)) (ih fun b hb => h b (by simp [hb]))
theorem LRel.replicate {c : Ctx} {v : AV} {x : Value} (h : VRel c v x) (n : Nat) : LRel c (List.replicate n v) (List.replicate n x) := by
  refine ⟨by simp, fun i hi => ?_⟩
  have : i < n := by simpa using hi
  simpa [List.getD_eq_getElem?_getD, this] using h
/-- A part of the machine's longer list, read as one. -/
theorem LRel.of_window {c : Ctx} {cells : List AV} {cs : List Value} {o : Nat} (h : o + cells.length ≤ cs.length) (hr : ∀ i, i < cells.length → VRel c (cells.getD i .undef) (cs.getD (o + i) undef)) :
    LRel c cells ((cs.drop o).take cells.length) := by
  refine ⟨by simp; omega, fun i hi => ?_⟩
  have := hr i hi
  simpa [List.getD_eq_getElem?_getD, List.getElem?_take, hi] using this
theorem LRel.window {c : Ctx} {cells : List AV} {cs : List Value} {o : Nat} (hr : LRel c cells ((cs.drop o).take cells.length)) :
    ∀ i, i < cells.length → VRel c (cells.getD i .undef) (cs.getD (o + i) undef) := by
  intro i hi
  have := hr.2 i hi
  simpa [List.getD_eq_getElem?_getD, List.getElem?_take, hi] using this

theorem VRel.agg' {c : Ctx} {l : List AV} {l' : List Value} (h : LRel c l l') : VRel c (.agg l) (.agg l'.toArray) := .agg l l' h.1 h.2
theorem VRel.tup' {c : Ctx} {l : List AV} {l' : List Value} (h : LRel c l l') : VRel c (.tup l) (.tuple l'.toArray) := .tup l l' h.1 h.2
theorem VRel.fn' {c : Ctx} {f : FuncId} {l : List AV} {l' : List Value} (h : LRel c l l') : VRel c (.fn f l) (.func (.func f) #[] l'.toArray) := .fn f l l' h.1 h.2

/-- What is known later of what was known. -/
structure Ext (c c' : Ctx) : Prop where
  z : ∀ b cs, c.z b = some cs → c'.z b = some cs
  m : ∀ id ver bk, c.m id = some (ver, bk) → ∃ ver' bk', c'.m id = some (ver', bk') ∧ ((ver' = ver ∧ bk' = bk) ∨ ver < ver')
theorem Ext.refl (c : Ctx) : Ext c c := ⟨fun _ _ h => h, fun _ ver bk h => ⟨ver, bk, h, .inl ⟨rfl, rfl⟩⟩⟩
theorem Ext.trans {a b c : Ctx} (h : Ext a b) (h' : Ext b c) : Ext a c := by
  refine ⟨fun x cs hx => h'.z _ _ (h.z _ _ hx), fun id ver bk hm => ?_⟩
  obtain ⟨v1, b1, h1, h2⟩ := h.m _ _ _ hm
  obtain ⟨v2, b2, h3, h4⟩ := h'.m _ _ _ h1
  refine ⟨v2, b2, h3, ?_⟩
  rcases h2 with ⟨rfl, rfl⟩ | h2 <;> rcases h4 with ⟨rfl, rfl⟩ | h4
  · exact .inl ⟨rfl, rfl⟩
  · exact .inr h4
  · exact .inr h2
  · exact .inr (by omega)

theorem Ctx.res_res (c : Ctx) (n k : Nat) (h : k ≤ n) : (c.res n).res k = c.res k := by
  unfold Ctx.res
  congr 1
  funext id
  by_cases h1 : id < k
  · simp [h1, show id < n by omega]
  · simp [h1]
theorem Ext.res0 {c c' : Ctx} (h : ∀ b cs, c.z b = some cs → c'.z b = some cs) : Ext (c.res 0) (c'.res 0) := ⟨h, fun id ver bk hm => by simp [Ctx.res] at hm⟩

theorem VRel.mono {c c' : Ctx} (hx : Ext c c') {v : AV} {x : Value} (h : VRel c v x) : VRel c' v x := by
  induction h generalizing c' with
  | undef v => exact .undef v
  | int k n => exact .int k n
  | bool b => exact .bool b
  | str s => exact .str s
  | nilp => exact .nilp
  | nils => exact .nils
  | nilf => exact .nilf
  | nili => exact .nili
  | ptr id ver off b sz h =>
    obtain ⟨v', b', h1, ⟨rfl, rfl⟩ | h2⟩ := hx.m _ _ _ h
    · exact .ptr _ _ _ _ _ h1
    · exact .ptrOld _ _ _ _ _ _ h1 h2
  | ptrOld id ver off ver' bk v h hl =>
    obtain ⟨v', b', h1, ⟨rfl, rfl⟩ | h2⟩ := hx.m _ _ _ h
    · exact .ptrOld _ _ _ _ _ _ h1 hl
    · exact .ptrOld _ _ _ _ _ _ h1 (by omega)
  | lel cells off b o cs h hl _ ih => exact .lel _ _ _ _ _ (hx.z _ _ h) hl fun i hi => ih i hi (.res0 hx.z)
  | sl id ver off len cap esz b sz cap' h hc hl ho =>
    obtain ⟨v', b', h1, ⟨rfl, rfl⟩ | h2⟩ := hx.m _ _ _ h
    · exact .sl _ _ _ _ _ _ _ _ _ h1 hc hl ho
    · exact .slOld _ _ _ _ _ _ _ _ _ _ h1 h2 hc hl
  | slNone id ver esz h =>
    obtain ⟨v', b', h1, ⟨rfl, rfl⟩ | h2⟩ := hx.m _ _ _ h
    · exact .slNone _ _ _ h1
    · exact .slOldNone _ _ _ _ _ h1 h2
  | slOld id ver off len cap esz ver' bk p k h hl hc hle =>
    obtain ⟨v', b', h1, ⟨rfl, rfl⟩ | h2⟩ := hx.m _ _ _ h
    · exact .slOld _ _ _ _ _ _ _ _ _ _ h1 hl hc hle
    · exact .slOld _ _ _ _ _ _ _ _ _ _ h1 (by omega) hc hle
  | slOldNone id ver esz ver' bk h hl =>
    obtain ⟨v', b', h1, ⟨rfl, rfl⟩ | h2⟩ := hx.m _ _ _ h
    · exact .slOldNone _ _ _ _ _ h1 hl
    · exact .slOldNone _ _ _ _ _ h1 (by omega)
  | lst cells len b o cap cs hcap h hl _ ih => exact .lst _ _ _ _ _ _ hcap (hx.z _ _ h) hl fun i hi => ih i hi (.res0 hx.z)
  | lst0 a cap => exact .lst0 a cap
  | fn f caps caps' hl _ ih => exact .fn _ _ _ hl fun i hi => ih i hi hx
  | ifc t v x _ ih => exact .ifc _ _ _ (ih hx)
  | agg cells cs hl _ ih => exact .agg _ _ hl fun i hi => ih i hi hx
  | tup vs xs hl _ ih => exact .tup _ _ hl fun i hi => ih i hi hx
theorem LRel.mono {c c' : Ctx} (hx : Ext c c') {l : List AV} {l' : List Value} (h : LRel c l l') : LRel c' l l' := ⟨h.1, fun i hi => (h.2 i hi).mono hx⟩

theorem getD_mem {α : Type} {l : List α} {i : Nat} {d : α} (h : i < l.length) : l.getD i d ∈ l := by
  rw [List.getD_eq_getElem?_getD, List.getElem?_eq_getElem h]; exact List.getElem_mem h

/-- What names no block of n or above is known by the others alone. -/
theorem VRel.res {c : Ctx} {n : Nat} {v : AV} {x : Value} (h : VRel c v x) (hb : Nmd n v) : VRel (c.res n) v x := by
  induction h with
  | undef v => exact .undef v
  | int k n => exact .int k n
  | bool b => exact .bool b
  | str s => exact .str s
  | nilp => exact .nilp
  | nils => exact .nils
  | nilf => exact .nilf
  | nili => exact .nili
  | ptr id ver off b sz h =>
    cases hb with | ptr _ _ _ hlt => exact .ptr _ _ _ _ _ (by simpa [Ctx.res, hlt] using h)
  | ptrOld id ver off ver' bk v h hl =>
    cases hb with | ptr _ _ _ hlt => exact .ptrOld _ _ _ _ _ _ (by simpa [Ctx.res, hlt] using h) hl
  | @lel c cells off b o cs h hl hr ih => exact .lel _ _ _ _ _ h hl fun i hi => by rw [Ctx.res_res _ _ _ (by omega)]; exact hr i hi
  | sl id ver off len cap esz b sz cap' h hc hl ho =>
    cases hb with | sl _ _ _ _ _ _ hlt => exact .sl _ _ _ _ _ _ _ _ _ (by simpa [Ctx.res, hlt] using h) hc hl ho
  | slNone id ver esz h =>
    cases hb with | sl _ _ _ _ _ _ hlt => exact .slNone _ _ _ (by simpa [Ctx.res, hlt] using h)
  | slOld id ver off len cap esz ver' bk p k h hl hc hle =>
    cases hb with | sl _ _ _ _ _ _ hlt => exact .slOld _ _ _ _ _ _ _ _ _ _ (by simpa [Ctx.res, hlt] using h) hl hc hle
  | slOldNone id ver esz ver' bk h hl =>
    cases hb with | sl _ _ _ _ _ _ hlt => exact .slOldNone _ _ _ _ _ (by simpa [Ctx.res, hlt] using h) hl
  | @lst c cells len b o cap cs hcap h hl hr ih => exact .lst _ _ _ _ _ _ hcap h hl fun i hi => by rw [Ctx.res_res _ _ _ (by omega)]; exact hr i hi
  | lst0 a cap => exact .lst0 a cap
  | fn f caps caps' hl _ ih =>
    cases hb with | fn _ _ hx => exact .fn _ _ _ hl fun i hi => ih i hi (hx _ (getD_mem hi))
  | ifc t v x _ ih =>
    cases hb with | ifc _ _ hx => exact .ifc _ _ _ (ih hx)
  | agg cells cs hl _ ih =>
    cases hb with | agg _ hx => exact .agg _ _ hl fun i hi => ih i hi (hx _ (getD_mem hi))
  | tup vs xs hl _ ih =>
    cases hb with | tup _ hx => exact .tup _ _ hl fun i hi => ih i hi (hx _ (getD_mem hi))

theorem mem_getD {α : Type} {l : List α} {x : α} (h : x ∈ l) (d : α) : ∃ i, i < l.length ∧ l.getD i d = x := by
  obtain ⟨i, hi, e⟩ := List.getElem_of_mem h
  exact ⟨i, hi, by rw [List.getD_eq_getElem?_getD, List.getElem?_eq_getElem hi]; exact e⟩

/-- What is known names known blocks alone. -/
theorem VRel.names {c : Ctx} {n : Nat} (hn : ∀ id p, c.m id = some p → id < n) {v : AV} {x : Value} (h : VRel c v x) : Nmd n v := by
  induction h with
  | undef v => exact .undef
  | int k n => exact .int k n
  | bool b => exact .bool b
  | str s => exact .str s
  | nilp => exact .nilp
  | nils => exact .nils
  | nilf => exact .nilf
  | nili => exact .nili
  | ptr id ver off b sz h => exact .ptr _ _ _ (hn _ _ h)
  | ptrOld id ver off ver' bk v h hl => exact .ptr _ _ _ (hn _ _ h)
  | lel cells off b o cs h hl _ ih => exact .lel _ _
  | sl id ver off len cap esz b sz cap' h hc hl ho => exact .sl _ _ _ _ _ _ (hn _ _ h)
  | slNone id ver esz h => exact .sl _ _ _ _ _ _ (hn _ _ h)
  | slOld id ver off len cap esz ver' bk p k h hl hc hle => exact .sl _ _ _ _ _ _ (hn _ _ h)
  | slOldNone id ver esz ver' bk h hl => exact .sl _ _ _ _ _ _ (hn _ _ h)
  | lst cells len b o cap cs hcap h hl _ ih => exact .lst _ _
  | lst0 a cap => exact .lst _ _
  | fn f caps caps' hl _ ih => exact .fn _ _ fun x hx => by obtain ⟨i, hi, e⟩ := mem_getD hx .undef; exact e ▸ ih i hi hn
  | ifc t v x _ ih => exact .ifc _ _ (ih hn)
  | agg cells cs hl _ ih => exact .agg _ fun x hx => by obtain ⟨i, hi, e⟩ := mem_getD hx .undef; exact e ▸ ih i hi hn
  | tup vs xs hl _ ih => exact .tup _ fun x hx => by obtain ⟨i, hi, e⟩ := mem_getD hx .undef; exact e ▸ ih i hi hn
theorem Nmd.mono {n k : Nat} (h : n ≤ k) {v : AV} (hb : Nmd n v) : Nmd k v := by
  induction hb with
  | ptr id ver off hl => exact .ptr _ _ _ (by omega)
  | sl id ver off len cap esz hl => exact .sl _ _ _ _ _ _ (by omega)
  | fn f caps _ ih => exact .fn _ _ ih
  | ifc t v _ ih => exact .ifc _ _ ih
  | agg cells _ ih => exact .agg _ ih
  | tup vs _ ih => exact .tup _ ih
  | undef => exact .undef
  | int k n => exact .int k n
  | bool b => exact .bool b
  | str s => exact .str s
  | nilp => exact .nilp
  | nils => exact .nils
  | nilf => exact .nilf
  | nili => exact .nili
  | lel cells off => exact .lel _ _
  | lst cells len => exact .lst _ _

/-! ### memory -/
def BRel (c : Ctx) (w : World) (b : Blk) : Option (Nat × Nat) → Prop
  | none => b.cells = []
  | some (k, sz) => ∃ cs T, w.heap[k]? = some (.cells cs T (0, 0)) ∧ cs.size = sz ∧ b.cells.length ≤ sz ∧ LRel c b.cells (cs.toList.take b.cells.length)

def liveAt (H : Heap) (id : Nat) (b : Blk) : Prop := H[id]? = some (some b)

/-- Variables of the program's own that keep what the text laid: by their blocks. -/
def GLOB : Nat → Option (List Value) := fun b => if b = 0 then some [.iface 172 (.agg #[.pointer (some ⟨3, 30, none⟩)])] else none
structure Sim (c : Ctx) (H : Heap) (w : World) : Prop where
  dom : ∀ id p, c.m id = some p → id < H.length
  blk : ∀ id b, liveAt H id b → ∃ bk, c.m id = some (b.ver, bk) ∧ BRel c w b bk
  inj : ∀ id id' v v' b s s', c.m id = some (v, some (b, s)) → c.m id' = some (v', some (b, s')) → id = id'
  disj : ∀ id v b s, c.m id = some (v, some (b, s)) → c.z b = none
  bnd : ∀ id v b s, c.m id = some (v, some (b, s)) → b < w.heap.size
  froz : ∀ b cs, c.z b = some cs → ∃ T fz, w.heap[b]? = some (.cells cs.toArray T fz)
  glob : ∀ b cs, GLOB b = some cs → c.z b = some cs

def Owned (c : Ctx) (k : Nat) : Prop := ∃ id v s, c.m id = some (v, some (k, s))

/-- Elder blocks name no younger ones: of those below n. -/
def HClosed (n : Nat) (H : Heap) : Prop := ∀ id b, liveAt H id b → id < n → ∀ x ∈ b.cells, Nmd n x

/-- The machine's world is otherwise as it was. -/
def Alike (w w' : World) : Prop := w'.os = w.os ∧ w'.tape = w.tape ∧ w'.output = w.output
theorem Alike.refl (w : World) : Alike w w := ⟨rfl, rfl, rfl⟩
theorem Alike.trans {a b c : World} (h : Alike a b) (k : Alike b c) : Alike a c := ⟨k.1.trans h.1, k.2.1.trans h.2.1, k.2.2.trans h.2.2⟩

structure Trans (base : Nat) (c : Ctx) (H : Heap) (w : World) (c' : Ctx) (H' : Heap) (w' : World) : Prop where
  ext : Ext c c'
  sim : Sim c' H' w'
  grow : w.heap.size ≤ w'.heap.size
  unch : ∀ b, b < w.heap.size → ¬ Owned c b → w'.heap[b]? = w.heap[b]?
  back : ∀ b, Owned c' b → Owned c b ∨ w.heap.size ≤ b
  zback : ∀ b cs, c'.z b = some cs → c.z b = some cs ∨ Owned c b ∨ w.heap.size ≤ b
  len : H.length ≤ H'.length
  closed : ∀ n, n ≤ base → HClosed n H → HClosed n H'
  alike : Alike w w'

theorem Trans.refl {base : Nat} {c : Ctx} {H : Heap} {w : World} (h : Sim c H w) : Trans base c H w c H w :=
  ⟨.refl c, h, Nat.le_refl _, fun _ _ _ => rfl, fun _ h => .inl h, fun _ _ h => .inl h, Nat.le_refl _, fun _ _ h => h, .refl w⟩
theorem Trans.trans {base : Nat} {c0 c1 c2 : Ctx} {H0 H1 H2 : Heap} {w0 w1 w2 : World} (h : Trans base c0 H0 w0 c1 H1 w1) (h' : Trans base c1 H1 w1 c2 H2 w2) : Trans base c0 H0 w0 c2 H2 w2 := by
  refine ⟨h.ext.trans h'.ext, h'.sim, Nat.le_trans h.grow h'.grow, fun b hb hn => ?_, fun b hb => ?_, fun b cs hz => ?_, Nat.le_trans h.len h'.len, fun n hn hc => h'.closed n hn (h.closed n hn hc), h.alike.trans h'.alike⟩
  · rw [h'.unch b (Nat.lt_of_lt_of_le hb h.grow) fun ho => ?_, h.unch b hb hn]
    rcases h.back b ho with h1 | h1
    · exact hn h1
    · omega
  · rcases h'.back b hb with h1 | h1
    · exact h.back b h1
    · exact .inr (Nat.le_trans h.grow h1)
  · rcases h'.zback b cs hz with h1 | h1 | h1
    · exact h.zback b cs h1
    · exact .inr (h.back b h1)
    · exact .inr (.inr (Nat.le_trans h.grow h1))
end Go.Proofs.YtoncolpkpgbfiaaDoor

/- What each operation does on the machine, by what the interpreter says of it: types, frames, memory. -/
set_option linter.unusedVariables false
set_option linter.unusedSimpArgs false
namespace Go.Proofs.YtoncolpkpgbfiaaDoor

/-! ### types -/
def zOk : List AV → List Value → Bool
  | [], [] => true
  | .int k n :: r, .int k' n' :: r' => k == k' && n == n' && zOk r r'
  | .bool b :: r, .bool b' :: r' => b == b' && zOk r r'
  | .str s :: r, .string s' :: r' => s.data.toList == s'.data.toList && zOk r r'
  | .nilp :: r, .pointer none :: r' => zOk r r'
  | .nils :: r, .slice none 0 0 :: r' => zOk r r'
  | .nilf :: r, .nilFunc :: r' => zOk r r'
  | .nili :: r, .nilIface :: r' => zOk r r'
  | _, _ => false
def isAggD : TypeDesc → Bool
  | .struct _ => true
  | .array _ _ => true
  | _ => false
def elemOk (P : Program) (e esz : Nat) : Bool := match P.info? e with
  | some i => i.size == esz
  | none => false
def aggOk (P : Program) (e : Nat) (ag : Bool) : Bool := match P.underlying e with
  | some d => isAggD d == ag
  | none => false
def fieldsOk (P : Program) : List (Nat × Nat × Bool) → List Field → Bool
  | [], [] => true
  | (off, size, ag) :: r, f :: r' => f.offset == off && elemOk P f.type size && aggOk P f.type ag && fieldsOk P r r'
  | _, _ => false
def kindOk (P : Program) : TK → TypeDesc → Bool
  | .bool, .bool => true
  | .int k, .int k' => k == k'
  | .string, .string => true
  | .slice e esz eb ez, .slice e' => e == e' && (match P.info? e with
    | some i => i.size == esz && i.bytes == eb && (match i.zero with | some z => zOk ez z.cells.toList && z.cells.size == esz | none => false)
    | none => false)
  | .array n esz ag, .array n' e => n == n' && elemOk P e esz && aggOk P e ag && (ag || esz == 1)
  | .struct fs, .struct fields => fieldsOk P fs fields.toList
  | .iface, .interface _ => true
  | .ptr, .pointer _ => true
  | .fn, .func _ _ _ => true
  | _, _ => false
def tyOk (P : Program) (t : TypeId) (ti : TI) : Bool :=
  match P.info? t, P.underlying t with
  | some i, some d => i.size == ti.size && (match i.zero with | some z => zOk ti.zero z.cells.toList && z.cells.size == ti.size | none => false) && isAggD d == ti.agg && kindOk P ti.kind d
  | _, _ => false

theorem zOk_rel {c : Ctx} : ∀ (l : List AV) (l' : List Value), zOk l l' = true → LRel c l l'
  | [], [], _ => .nil
  | .int k n :: r, .int k' n' :: r', h => by
    simp only [zOk, Bool.and_eq_true, beq_iff_eq] at h; obtain ⟨⟨rfl, rfl⟩, h⟩ := h; exact .cons (.int _ _) (zOk_rel r r' h)
  | .bool b :: r, .bool b' :: r', h => by
    simp only [zOk, Bool.and_eq_true, beq_iff_eq] at h; obtain ⟨rfl, h⟩ := h; exact .cons (.bool _) (zOk_rel r r' h)
  | .str s :: r, .string s' :: r', h => by
    simp only [zOk, Bool.and_eq_true, beq_iff_eq] at h; obtain ⟨h0, h⟩ := h
    have : s = s' := by cases s; cases s'; simp only [ByteArray.mk.injEq]; exact Array.ext' h0
    subst this
    exact .cons (.str _) (zOk_rel r r' h)
  | .nilp :: r, .pointer none :: r', h => .cons .nilp (zOk_rel r r' (by simpa [zOk] using h))
  | .nils :: r, .slice none 0 0 :: r', h => .cons .nils (zOk_rel r r' (by simpa [zOk] using h))
  | .nilf :: r, .nilFunc :: r', h => .cons .nilf (zOk_rel r r' (by simpa [zOk] using h))
  | .nili :: r, .nilIface :: r', h => .cons .nili (zOk_rel r r' (by simpa [zOk] using h))

theorem tyOk_spec {P : Program} {t : TypeId} {ti : TI} (h : tyOk P t ti = true) :
    ∃ i d z, P.info? t = some i ∧ P.underlying t = some d ∧ i.size = ti.size ∧ i.zero = some z ∧ zOk ti.zero z.cells.toList = true ∧ z.cells.size = ti.size ∧ isAggD d = ti.agg ∧ kindOk P ti.kind d = true := by
  unfold tyOk at h
  split at h
  · rename_i i d hi hd
    cases hz : i.zero with
    | none => simp [hz] at h
    | some z =>
      simp only [hz, Bool.and_eq_true, beq_iff_eq] at h
      exact ⟨i, d, z, hi, hd, h.1.1.1, hz, h.1.1.2.1, h.1.1.2.2, h.1.2, h.2⟩
  · cases h

/-- A type of n cells, of integers alone, that '==' compares one by one. -/
def flatFs (P : Program) (ok : TypeId → Nat → Bool) : List Field → Nat → Nat → Bool
  | [], o, n => o == n
  | f :: fs, o, n => f.name != "_" && f.offset == o && (match P.info? f.type with | some i => ok f.type i.size && flatFs P ok fs (o + i.size) n | none => false)
def flatOk (P : Program) : Nat → TypeId → Nat → Bool
  | 0, _, _ => false
  | d + 1, t, n => match P.underlying t, P.info? t with
    | some (.int _), some i => n == 1 && i.size == 1
    | some (.struct fs), some i => !P.stoodInHeld t && i.size == n && flatFs P (flatOk P d) fs.toList 0 n
    | some (.array len e), some i => i.size == n && (match P.info? e with | some j => flatOk P d e j.size && j.size == P.cellsOf e && len * j.size == n | none => false)
    | _, _ => false
def flatAt (P : Program) (t : TypeId) (n : Nat) : Bool := match P.info? t with
  | some i => i.size == n && flatOk P 20 t i.size && !P.eqGuardType P.depth t && (match P.underlying t with | some (.struct _) | some (.array _ _) => true | _ => false)
  | none => false

/-- The environment tells the truth of the program. -/
structure EnvOk (E : Env) : Prop where
  ty : ∀ t ti, E.T t = some ti → tyOk E.P t ti = true
  ext : ∀ f args v, E.ext f args = some v → ∀ c cargs w, LRel c args cargs → ∃ x, (callFunc f cargs.toArray).run E.P w = .ok (.value x) w ∧ VRel c v x
  mixed : E.P.follows .mixedOrders = true
  flat : ∀ t n, E.flat t = some n → flatAt E.P t n = true

/-! ### frames -/
structure FRel (c : Ctx) (n : Nat) (fr : Fr) (a : Act) : Prop where
  size : a.tmps.size = n
  rel : ∀ t, VRel c (fr.get t) (a.tmps.getD t undef)
  defers : a.defers = []

theorem FRel.mono {c c' : Ctx} (hx : Ext c c') {n : Nat} {fr : Fr} {a : Act} (h : FRel c n fr a) : FRel c' n fr a := ⟨h.size, fun t => (h.rel t).mono hx, h.defers⟩
theorem FRel.put {c : Ctx} {n : Nat} {fr : Fr} {a : Act} (h : FRel c n fr a) {dst : Option Nat} (hd : ∀ d, dst = some d → d < n) {v : AV} {x : Value} (hv : VRel c v x) : FRel c n (fr.put dst v) (a.put dst x) := by
  cases dst with
  | none => exact h
  | some d =>
    refine ⟨by simp [Act.put, h.size], fun t => ?_, by simp [Act.put, h.defers]⟩
    have hd' : d < a.tmps.size := by rw [h.size]; exact hd d rfl
    simp only [Fr.put, Fr.get, Act.put]
    by_cases e : t = d
    · subst e
      simp only [if_true]
      simpa [Array.getD_eq_getD_getElem?, hd'] using hv
    · rw [if_neg e]
      have := h.rel t
      simpa [Array.getD_eq_getD_getElem?, Array.getElem?_setIfInBounds_ne (Ne.symm e)] using this
theorem Fr.get_keep (fr : Fr) (l : List Nat) (t : Nat) : (fr.keep l).get t = .undef ∨ (fr.keep l).get t = fr.get t := by
  unfold Fr.keep
  induction l with
  | nil => exact .inl rfl
  | cons d l ih =>
    simp only [List.map_cons, Fr.get]
    by_cases e : t = d
    · subst e; exact .inr (by simp)
    · rw [if_neg e]; exact ih
theorem FRel.keep {E : Env} {f id : Nat} {c : Ctx} {n : Nat} {fr : Fr} {a : Act} (h : FRel c n fr a) : FRel c n (keepA E f id fr) a := by
  unfold keepA
  split
  · rename_i l _
    refine ⟨h.size, fun t => ?_, h.defers⟩
    rcases Fr.get_keep fr l t with e | e
    · rw [e]; exact .undef _
    · rw [e]; exact h.rel t
  · exact h
theorem ofConst_rel {c : Ctx} (v : Value) : VRel c (ofConst v) v := by
  unfold ofConst
  split <;> first
    | exact .int _ _
    | exact .bool _
    | exact .str _
    | exact .nilp
    | exact .nils
    | exact .nilf
    | exact .nili
    | exact .ifc _ _ _ (.int _ _)
    | exact .undef _
theorem FRel.ev {c : Ctx} {n : Nat} {fr : Fr} {a : Act} (h : FRel c n fr a) (o : Operand) : VRel c (fr.ev o) (a.eval o) := by
  cases o with
  | tmp t => exact h.rel t
  | const v => exact ofConst_rel v
  | global g => exact .undef _
  | func f => exact VRel.fn' (l := []) (l' := []) .nil

/-! ### what a value's shape tells of the machine's -/
theorem VRel.inv_int {c : Ctx} {k : IntKind} {n : Int} {x : Value} (h : VRel c (.int k n) x) : x = .int k n := by cases h; rfl
theorem VRel.inv_bool {c : Ctx} {b : Bool} {x : Value} (h : VRel c (.bool b) x) : x = .bool b := by cases h; rfl
theorem VRel.inv_str {c : Ctx} {s : ByteArray} {x : Value} (h : VRel c (.str s) x) : x = .string s := by cases h; rfl
theorem VRel.inv_agg {c : Ctx} {l : List AV} {x : Value} (h : VRel c (.agg l) x) : ∃ l', x = .agg l'.toArray ∧ LRel c l l' := by cases h with | agg _ cs h1 h2 => exact ⟨cs, rfl, h1, h2⟩
theorem VRel.inv_tup {c : Ctx} {l : List AV} {x : Value} (h : VRel c (.tup l) x) : ∃ l', x = .tuple l'.toArray ∧ LRel c l l' := by cases h with | tup _ cs h1 h2 => exact ⟨cs, rfl, h1, h2⟩
theorem VRel.inv_fn {c : Ctx} {f : FuncId} {l : List AV} {x : Value} (h : VRel c (.fn f l) x) : ∃ l', x = .func (.func f) #[] l'.toArray ∧ LRel c l l' := by cases h with | fn _ _ cs h1 h2 => exact ⟨cs, rfl, h1, h2⟩

/-- The cells of a value. -/
theorem VRel.cells {c : Ctx} {v : AV} {x : Value} (h : VRel c v x) {l : List AV} (hl : v.cells? = some l) : LRel c l x.cells.toList := by
  have one : ∀ {v : AV} {x : Value}, VRel c v x → x.cells = #[x] → LRel c [v] x.cells.toList := fun {v x} h e => by rw [e]; exact .cons h .nil
  cases h <;> simp only [AV.cells?, Option.some.injEq, reduceCtorEq] at hl <;> subst hl
  case agg cs h1 h2 => exact ⟨h1, h2⟩
  all_goals first
    | exact one (.int _ _) rfl
    | exact one (.bool _) rfl
    | exact one (.str _) rfl
    | exact one .nilp rfl
    | exact one .nils rfl
    | exact one .nilf rfl
    | exact one .nili rfl
    | exact one (.ptr _ _ _ _ _ (by assumption)) rfl
    | exact one (.ptrOld _ _ _ _ _ _ (by assumption) (by assumption)) rfl
    | exact one (.lel _ _ _ _ _ (by assumption) (by assumption) (by assumption)) rfl
    | exact one (.sl _ _ _ _ _ _ _ _ _ (by assumption) (by assumption) (by assumption) (by assumption)) rfl
    | exact one (.slNone _ _ _ (by assumption)) rfl
    | exact one (.slOld _ _ _ _ _ _ _ _ _ _ (by assumption) (by assumption) (by assumption) (by assumption)) rfl
    | exact one (.slOldNone _ _ _ _ _ (by assumption) (by assumption)) rfl
    | exact one (.lst _ _ _ _ _ _ (by assumption) (by assumption) (by assumption) (by assumption)) rfl
    | exact one (.lst0 _ _) rfl
    | exact one (.fn _ _ _ (by assumption) (by assumption)) rfl
    | exact one (.ifc _ _ _ (by assumption)) rfl

theorem VRel.one {c : Ctx} {v : AV} {x : Value} (h : VRel c v x) (hv : v.one = true) : x.oneCell' = true := by
  cases h <;> first | rfl | (simp [AV.one] at hv)
theorem LRel.ones {c : Ctx} {l : List AV} {l' : List Value} (h : LRel c l l') (hv : l.all AV.one = true) : ∀ x ∈ l', x.oneCell' = true := by
  induction l generalizing l' with
  | nil => cases l' with
    | nil => simp
    | cons x t => exact absurd h.1 (by simp)
  | cons v l ih =>
    obtain ⟨x, t, rfl, hx, ht⟩ := h.head
    simp only [List.all_cons, Bool.and_eq_true] at hv
    intro y hy
    rcases List.mem_cons.1 hy with rfl | hy
    · exact hx.one hv.1
    · exact ih ht hv.2 y hy

/-! ### blocks -/
theorem blkAt_some {H : Heap} {id ver : Nat} {b : Blk} (h : blkAt H id ver = some b) : liveAt H id b ∧ b.ver = ver := by
  unfold blkAt at h
  split at h
  · rename_i b' hb
    split at h
    · cases h; exact ⟨hb, by assumption⟩
    · cases h
  · cases h
theorem blkAt_of {H : Heap} {id : Nat} {b : Blk} (h : liveAt H id b) : blkAt H id b.ver = some b := by unfold blkAt; rw [h]; simp

/-- A pointer to a block that is as it was then. -/
theorem Sim.ptr {c : Ctx} {H : Heap} {w : World} (s : Sim c H w) {id ver off : Nat} {x : Value} (h : VRel c (.ptr id ver off) x) {b : Blk} (hb : blkAt H id ver = some b) :
    ∃ k sz cs T, x = .pointer (some ⟨k, off, none⟩) ∧ c.m id = some (ver, some (k, sz)) ∧ w.heap[k]? = some (.cells cs T (0, 0)) ∧ cs.size = sz ∧ b.cells.length ≤ sz ∧ LRel c b.cells (cs.toList.take b.cells.length) := by
  obtain ⟨hl, rfl⟩ := blkAt_some hb
  obtain ⟨bk, hm, hbr⟩ := s.blk id b hl
  cases h with
  | ptr _ _ _ k sz hm' =>
    rw [hm] at hm'
    obtain ⟨rfl⟩ : bk = some (k, sz) := by simpa using hm'
    obtain ⟨cs, T, h1, h2, h3, h4⟩ := hbr
    exact ⟨k, sz, cs, T, rfl, hm, h1, h2, h3, h4⟩
  | ptrOld _ _ _ ver' bk' _ hm' hlt =>
    rw [hm] at hm'
    simp only [Option.some.injEq, Prod.mk.injEq] at hm'
    omega
theorem Sim.sl {c : Ctx} {H : Heap} {w : World} (s : Sim c H w) {id ver off len cap esz : Nat} {x : Value} (h : VRel c (.sl id ver off len cap esz) x) {b : Blk} (hb : blkAt H id ver = some b) :
    (∃ k sz cs T cap', x = .slice (some ⟨k, off, none⟩) len cap' ∧ cap ≤ cap' ∧ len ≤ cap ∧ off + cap' * esz ≤ sz ∧ c.m id = some (ver, some (k, sz)) ∧ w.heap[k]? = some (.cells cs T (0, 0)) ∧ cs.size = sz ∧ b.cells.length ≤ sz ∧ LRel c b.cells (cs.toList.take b.cells.length)) ∨
    (x = .slice none 0 0 ∧ off = 0 ∧ len = 0 ∧ cap = 0 ∧ b.cells = [] ∧ c.m id = some (ver, none)) := by
  obtain ⟨hl, rfl⟩ := blkAt_some hb
  obtain ⟨bk, hm, hbr⟩ := s.blk id b hl
  cases h with
  | sl _ _ _ _ _ _ k sz cap' hm' h1 h2 h3 =>
    rw [hm] at hm'
    obtain ⟨rfl⟩ : bk = some (k, sz) := by simpa using hm'
    obtain ⟨cs, T, h4, h5, h6, h7⟩ := hbr
    exact .inl ⟨k, sz, cs, T, cap', rfl, h1, h2, h3, hm, h4, h5, h6, h7⟩
  | slNone _ _ _ hm' =>
    rw [hm] at hm'
    obtain ⟨rfl⟩ : bk = none := by simpa using hm'
    exact .inr ⟨rfl, rfl, rfl, rfl, hbr, hm⟩
  | slOld _ _ _ _ _ _ ver' bk' _ _ hm' hlt _ _ =>
    rw [hm] at hm'
    simp only [Option.some.injEq, Prod.mk.injEq] at hm'
    omega
  | slOldNone _ _ _ ver' bk' hm' hlt =>
    rw [hm] at hm'
    simp only [Option.some.injEq, Prod.mk.injEq] at hm'
    omega

theorem BRel.mono {c c' : Ctx} {w w' : World} {b : Blk} {bk : Option (Nat × Nat)} (hx : Ext c c') (hw : ∀ k sz, bk = some (k, sz) → w'.heap[k]? = w.heap[k]?) (h : BRel c w b bk) : BRel c' w' b bk := by
  match bk, h with
  | none, h => exact h
  | some (k, sz), ⟨cs, T, h1, h2, h3, h4⟩ => exact ⟨cs, T, by rw [hw k sz rfl]; exact h1, h2, h3, h4.mono hx⟩

/-- What is known with one block more. -/
def Ctx.add (c : Ctx) (id ver : Nat) (bk : Option (Nat × Nat)) : Ctx := { c with m := fun i => if i = id then some (ver, bk) else c.m i }
theorem Ctx.ext_add {c : Ctx} {id ver : Nat} {bk : Option (Nat × Nat)} (h : c.m id = none) : Ext c (c.add id ver bk) :=
  ⟨fun _ _ h => h, fun i v b hm => ⟨v, b, by
    have : i ≠ id := fun e => by rw [e, h] at hm; cases hm
    simpa [Ctx.add, this] using hm, .inl ⟨rfl, rfl⟩⟩⟩
theorem Sim.fresh {c : Ctx} {H : Heap} {w : World} (s : Sim c H w) : c.m H.length = none := by
  cases h : c.m H.length with
  | none => rfl
  | some p => exact absurd (s.dom _ _ h) (by omega)

theorem liveAt_append {H : Heap} {b : Option Blk} {id : Nat} {x : Blk} (h : liveAt (H ++ [b]) id x) : liveAt H id x ∨ (id = H.length ∧ b = some x) := by
  unfold liveAt at h ⊢
  rcases Nat.lt_trichotomy id H.length with hl | hl | hl
  · rw [List.getElem?_append_left hl] at h; exact .inl h
  · subst hl; rw [List.getElem?_append_right (by omega)] at h; simp at h; exact .inr ⟨rfl, h⟩
  · rw [List.getElem?_append_right (by omega), List.getElem?_eq_none (by simp; omega)] at h; cases h
theorem liveAt_old {H : Heap} {b : Option Blk} {id : Nat} {x : Blk} (h : liveAt H id x) : liveAt (H ++ [b]) id x := by
  unfold liveAt at h ⊢
  have hl : id < H.length := (List.getElem?_eq_some_iff.1 h).1
  rw [List.getElem?_append_left hl]; exact h
theorem liveAt_lt {H : Heap} {id : Nat} {x : Blk} (h : liveAt H id x) : id < H.length := (List.getElem?_eq_some_iff.1 h).1

theorem HClosed_append {n : Nat} {H : Heap} {b : Option Blk} (hn : n ≤ H.length) (h : HClosed n H) : HClosed n (H ++ [b]) := by
  intro id x hl hid
  rcases liveAt_append hl with h1 | ⟨rfl, _⟩
  · exact h id x h1 hid
  · omega

/-- A new block of the machine's, and one of the interpreter's for it (the machine may have drawn meanwhile). -/
theorem Sim.alloc {base : Nat} {c : Ctx} {H : Heap} {w w' : World} (s : Sim c H w) (hb : base ≤ H.length) (hal : Alike w w') {cs : Array Value} {T : TypeId} (hsz : w'.heap.size = w.heap.size + 1)
    (hnew : w'.heap[w.heap.size]? = some (.cells cs T (0, 0))) (hold : ∀ k, k < w.heap.size → w'.heap[k]? = w.heap[k]?) {cells : List AV} (ver : Nat) (hl : cells.length ≤ cs.size)
    (hr : LRel c cells (cs.toList.take cells.length)) :
    Trans base c H w (c.add H.length ver (some (w.heap.size, cs.size))) (H ++ [some ⟨cells, ver⟩]) w' := by
  have hf := s.fresh
  have hx : Ext c (c.add H.length ver (some (w.heap.size, cs.size))) := Ctx.ext_add hf
  have hm : ∀ i, i ≠ H.length → (c.add H.length ver (some (w.heap.size, cs.size))).m i = c.m i := fun i hi => by simp [Ctx.add, hi]
  have hm0 : (c.add H.length ver (some (w.heap.size, cs.size))).m H.length = some (ver, some (w.heap.size, cs.size)) := by simp [Ctx.add]
  refine ⟨hx, ⟨?_, ?_, ?_, ?_, ?_, ?_, fun b cs h => hx.z _ _ (s.glob b cs h)⟩, by omega, fun b hb _ => hold b hb, ?_, fun _ _ h => .inl h, by simp, fun n hn h => HClosed_append (by omega) h, hal⟩
  · intro id p h
    by_cases e : id = H.length
    · simp [e]
    · rw [hm id e] at h; have := s.dom id p h; simp; omega
  · intro id b hlb
    rcases liveAt_append hlb with h1 | ⟨rfl, h1⟩
    · obtain ⟨bk, h2, h3⟩ := s.blk id b h1
      have hid := liveAt_lt h1
      refine ⟨bk, by rw [hm id (by omega)]; exact h2, h3.mono hx fun k sz e => hold k ?_⟩
      subst e; exact s.bnd _ _ _ _ h2
    · simp only [Option.some.injEq] at h1
      subst h1
      exact ⟨_, hm0, cs, T, hnew, rfl, hl, hr.mono hx⟩
  · intro id id' v v' b sz sz' h h'
    by_cases e : id = H.length <;> by_cases e' : id' = H.length
    · rw [e, e']
    · rw [e, hm0] at h; rw [hm id' e'] at h'
      have := s.bnd _ _ _ _ h'
      simp only [Option.some.injEq, Prod.mk.injEq] at h
      omega
    · rw [hm id e] at h; rw [e', hm0] at h'
      have := s.bnd _ _ _ _ h
      simp only [Option.some.injEq, Prod.mk.injEq] at h'
      omega
    · rw [hm id e] at h; rw [hm id' e'] at h'; exact s.inj _ _ _ _ _ _ _ h h'
  · intro id v b sz h
    by_cases e : id = H.length
    · rw [e, hm0] at h
      simp only [Option.some.injEq, Prod.mk.injEq] at h
      show c.z b = none
      cases hz : c.z b with
      | none => rfl
      | some l =>
        obtain ⟨T', fz, h1⟩ := s.froz b l hz
        have := (Array.getElem?_eq_some_iff.1 h1).1
        omega
    · rw [hm id e] at h; exact s.disj _ _ _ _ h
  · intro id v b sz h
    by_cases e : id = H.length
    · rw [e, hm0] at h; simp only [Option.some.injEq, Prod.mk.injEq] at h; omega
    · rw [hm id e] at h; have := s.bnd _ _ _ _ h; omega
  · intro b l hz
    obtain ⟨T', fz, h1⟩ := s.froz b l hz
    exact ⟨T', fz, by rw [hold b (Array.getElem?_eq_some_iff.1 h1).1]; exact h1⟩
  · intro b ⟨id, v, sz, h2⟩
    by_cases e : id = H.length
    · rw [e, hm0] at h2; simp only [Option.some.injEq, Prod.mk.injEq] at h2; exact .inr (by omega)
    · rw [hm id e] at h2
      exact .inl ⟨id, v, sz, h2⟩

/-- A block that is nothing yet: a nil slice that may grow. -/
theorem Sim.allocNone {base : Nat} {c : Ctx} {H : Heap} {w : World} (s : Sim c H w) (hb : base ≤ H.length) (ver : Nat) :
    Trans base c H w (c.add H.length ver none) (H ++ [some ⟨[], ver⟩]) w := by
  have hf := s.fresh
  have hx : Ext c (c.add H.length ver none) := Ctx.ext_add hf
  have hm : ∀ i, i ≠ H.length → (c.add H.length ver none).m i = c.m i := fun i hi => by simp [Ctx.add, hi]
  have hm0 : (c.add H.length ver none).m H.length = some (ver, none) := by simp [Ctx.add]
  have hn : ∀ id v b sz, (c.add H.length ver none).m id = some (v, some (b, sz)) → c.m id = some (v, some (b, sz)) := by
    intro id v b sz h
    by_cases e : id = H.length
    · rw [e, hm0] at h; simp at h
    · rwa [hm id e] at h
  refine ⟨hx, ⟨?_, ?_, fun id id' v v' b sz sz' h h' => s.inj _ _ _ _ _ _ _ (hn _ _ _ _ h) (hn _ _ _ _ h'), fun id v b sz h => s.disj _ _ _ _ (hn _ _ _ _ h), fun id v b sz h => s.bnd _ _ _ _ (hn _ _ _ _ h), s.froz, s.glob⟩,
    Nat.le_refl _, fun b hb _ => rfl, ?_, fun _ _ h => .inl h, by simp, fun n hn h => HClosed_append (by omega) h, .refl w⟩
  · intro id p h
    by_cases e : id = H.length
    · simp [e]
    · rw [hm id e] at h; have := s.dom id p h; simp; omega
  · intro id b hlb
    rcases liveAt_append hlb with h1 | ⟨rfl, h1⟩
    · obtain ⟨bk, h2, h3⟩ := s.blk id b h1
      have hid := liveAt_lt h1
      exact ⟨bk, by rw [hm id (by omega)]; exact h2, h3.mono hx fun k sz e => rfl⟩
    · simp only [Option.some.injEq] at h1
      subst h1
      exact ⟨none, hm0, rfl⟩
  · intro b ⟨id, v, sz, h2⟩
    exact .inl ⟨id, v, sz, hn _ _ _ _ h2⟩
end Go.Proofs.YtoncolpkpgbfiaaDoor

/- What each operation does on the machine, by what the interpreter says of it: operations without a call. -/
set_option linter.unusedVariables false
set_option linter.unusedSimpArgs false
namespace Go.Proofs.YtoncolpkpgbfiaaDoor

/-- The operation runs to a value, and what is told holds. -/
def Did (E : Env) (base : Nat) (c : Ctx) (H : Heap) (w : World) (s : Sem Value) (v : AV) (H' : Heap) : Prop :=
  ∃ c' x w', s.run E.P w = .ok x w' ∧ VRel c' v x ∧ Trans base c H w c' H' w'

theorem Did.still {E : Env} {base : Nat} {c : Ctx} {H : Heap} {w : World} {s : Sem Value} {v : AV} {x : Value} (sm : Sim c H w) (hr : s.run E.P w = .ok x w) (hv : VRel c v x) : Did E base c H w s v H :=
  ⟨c, x, w, hr, hv, .refl sm⟩

theorem run_isAgg {P : Program} {t : TypeId} {d : TypeDesc} (h : P.underlying t = some d) (w : World) : (isAgg t).run P w = .ok (isAggD d) w := by
  unfold isAgg
  rw [Sem.run_bind, run_underlying h w]
  cases d <;> rfl
theorem run_sizeOf {P : Program} {t : TypeId} {i : TypeInfo} (h : P.info? t = some i) (w : World) : (sizeOf t).run P w = .ok i.size w := by
  simp [sizeOf, typeInfo, h]
theorem run_zeroValue {P : Program} {t : TypeId} {i : TypeInfo} {z : Value} (h : P.info? t = some i) (hz : i.zero = some z) (w : World) : (zeroValue t).run P w = .ok z w := by
  simp [zeroValue, typeInfo, h, hz]

/-! ### reading -/
theorem run_loadVar_at {P : Program} {t : TypeId} {ti : TI} (ht : tyOk P t ti = true) {c : Ctx} {w : World} {k : Nat} {cs : Array Value} {T : TypeId} {fz : Nat × Nat} (hk : w.heap[k]? = some (.cells cs T fz))
    {cells : List AV} {o off : Nat} (hlen : o + cells.length ≤ cs.size) (hr : LRel c cells ((cs.toList.drop o).take cells.length)) {v : AV} (h : readAt ti cells off = some v) :
    ∃ x, (loadVar t ⟨k, o + off, none⟩).run P w = .ok x w ∧ VRel c v x := by
  obtain ⟨i, d, z, hi, hd, hsz, hz, _, _, hag, _⟩ := tyOk_spec ht
  have hcell : ∀ j, w.cell? ⟨k, j, none⟩ = cs[j]? := fun j => cell_of_row w k j cs T fz hk
  unfold readAt at h
  by_cases ha : ti.agg = true
  · simp only [ha, if_true] at h
    split at h
    · rename_i hle
      cases h
      have hw : LRel c ((cells.drop off).take ti.size) ((cs.toList.drop (o + off)).take ti.size) := by
        have h1 := (hr.drop off).take ti.size
        rw [List.drop_take, List.take_take, List.drop_drop] at h1
        rwa [show min ti.size (cells.length - off) = ti.size by omega] at h1
      refine ⟨.agg ((cs.toList.drop (o + off)).take ti.size).toArray, ?_, VRel.agg' hw⟩
      have hl : ((cs.toList.drop (o + off)).take ti.size).length = ti.size := by simp; omega
      have hload := run_loadCells_list (P := P) w ⟨k, o + off, none⟩ ((cs.toList.drop (o + off)).take ti.size) (fun j v hv => by
        rw [Addr.add_lit, hcell]
        have hj : j < ti.size := by have := (List.getElem?_eq_some_iff.1 hv).1; omega
        rw [List.getElem?_take, if_pos hj, List.getElem?_drop] at hv
        simpa using hv)
      rw [hl] at hload
      unfold loadVar
      simp [Sem.run_bind, run_isAgg hd, hag, ha, run_sizeOf hi, hsz, hload]
    · cases h
  · simp only [ha, if_false, Bool.false_eq_true] at h
    obtain ⟨x, hx, hv⟩ := hr.get h
    refine ⟨x, ?_, hv⟩
    have hoff : off < cells.length := (List.getElem?_eq_some_iff.1 h).1
    have hx' : cs[o + off]? = some x := by
      rw [List.getElem?_take, if_pos hoff, List.getElem?_drop] at hx
      simpa using hx
    unfold loadVar
    simp [Sem.run_bind, run_isAgg hd, hag, ha, run_load, hcell, hx']

theorem Sim.load {E : Env} (hE : EnvOk E) {c : Ctx} {H : Heap} {w : World} (s : Sim c H w) {t : TypeId} {ti : TI} (ht : E.T t = some ti) {a v : AV} {x : Value} (hx : VRel c a x) (h : loadA ti H a = some v) :
    ∃ p y, x = .pointer (some p) ∧ (loadVar t p).run E.P w = .ok y w ∧ VRel c v y := by
  cases a <;> simp only [loadA, reduceCtorEq] at h
  case ptr id ver off =>
    cases hb : blkAt H id ver with
    | none => simp [hb] at h
    | some b =>
      simp only [hb, Option.bind_some] at h
      obtain ⟨k, sz, cs, T, rfl, hm, hk, rfl, hle, hr⟩ := s.ptr hx hb
      obtain ⟨y, h1, h2⟩ := run_loadVar_at (hE.ty _ _ ht) (o := 0) hk (by omega) (by simpa using hr) h
      rw [Nat.zero_add] at h1
      exact ⟨_, y, rfl, h1, h2⟩
  case lel cells off =>
    cases hx with
    | lel _ _ b o cs hz hl hr =>
      obtain ⟨T, fz, hk⟩ := s.froz _ _ hz
      have hr' : LRel (c.res 0) cells ((cs.drop o).take cells.length) := LRel.of_window hl hr
      have hext : Ext (c.res 0) c := ⟨fun _ _ h => h, fun id ver bk hm => by simp [Ctx.res] at hm⟩
      obtain ⟨y, h1, h2⟩ := run_loadVar_at (hE.ty _ _ ht) (o := o) hk (by simpa using hl) (by simpa using hr'.mono hext) h
      exact ⟨_, y, rfl, h1, h2⟩

/-! ### composing -/
theorem splice_eq {l : List AV} {off : Nat} {vs : List AV} (h : off + vs.length ≤ l.length) : splice l off vs = l.take off ++ vs ++ l.drop (off + vs.length) := by
  unfold splice
  split
  · rename_i x
    rw [List.set_eq_take_append_cons_drop, if_pos (by simp at h; omega)]
    simp
  · rfl
theorem splice_length {l : List AV} {off : Nat} {vs : List AV} (h : off + vs.length ≤ l.length) : (splice l off vs).length = l.length := by
  rw [splice_eq h]; simp; omega

theorem foldl_sets (off : Nat) : ∀ (vs : List Value) (k : Nat) (cs : Array Value), off + k + vs.length ≤ cs.size →
    ((vs.zipIdx k).foldl (fun cs p => cs.setIfInBounds (off + p.2) p.1) cs).toList = cs.toList.take (off + k) ++ vs ++ cs.toList.drop (off + k + vs.length)
  | [], k, cs, _ => by simp
  | v :: vs, k, cs, h => by
    simp only [List.zipIdx_cons, List.foldl_cons]
    simp only [List.length_cons] at h
    rw [foldl_sets off vs (k + 1) _ (by simp; omega)]
    have hlt : off + k < cs.toList.length := by simp; omega
    simp only [Array.toList_setIfInBounds]
    rw [List.set_eq_take_append_cons_drop, if_pos hlt]
    rw [List.take_append, List.drop_append]
    simp only [List.length_take, Array.length_toList, List.length_cons]
    rw [show min (off + k) cs.size = off + k by omega]
    simp only [List.take_take, List.drop_take]
    rw [show min (off + (k + 1)) (off + k) = off + k by omega, show off + (k + 1) - (off + k) = 1 by omega, show off + k - (off + (k + 1) + vs.length) = 0 by omega, show off + (k + 1) + vs.length - (off + k) = vs.length + 1 by omega]
    simp only [List.take_succ_cons, List.take_zero, List.drop_succ_cons, List.drop_drop, List.append_assoc, List.nil_append]
    rw [show off + k + (vs.length + 1) = off + k + 1 + vs.length by omega]
    simp [Nat.add_comm, Nat.add_left_comm]

theorem LRel.splice {c : Ctx} {l vs : List AV} {l' vs' : List Value} (h : LRel c l l') (hv : LRel c vs vs') {off : Nat} (hle : off + vs.length ≤ l.length) :
    LRel c (splice l off vs) (l'.take off ++ vs' ++ l'.drop (off + vs.length)) := by
  rw [splice_eq hle]
  exact ((h.take off).append hv).append (h.drop _)

/-- The parts of a literal, one by one. -/
inductive PRel (c : Ctx) : List (Nat × AV) → List (Nat × Value) → Prop
  | nil : PRel c [] []
  | cons (i : Nat) (v : AV) (x : Value) (l : List (Nat × AV)) (l' : List (Nat × Value)) : VRel c v x → PRel c l l' → PRel c ((i, v) :: l) ((i, x) :: l')

theorem fill_sound {c : Ctx} (place : Nat → Option (Nat × Nat)) (placeA : Nat → Option (Nat × Nat)) (hp : ∀ i off size, placeA i = some (off, size) → place i = some (off, size)) (fillX : List AV → List (Nat × AV) → Option (List AV))
    (hnil : ∀ l, fillX l [] = some l)
    (hcons : ∀ l i v rest r, fillX l ((i, v) :: rest) = some r → ∃ off size vs, placeA i = some (off, size) ∧ v.cells? = some vs ∧ vs.length = size ∧ off + size ≤ l.length ∧ fillX (splice l off vs) rest = some r) :
    ∀ (parts : List (Nat × AV)) (parts' : List (Nat × Value)) (l : List AV) (l' : Array Value) (r : List AV), PRel c parts parts' → LRel c l l'.toList → fillX l parts = some r →
      ∃ r', Instr.fill place l' parts' = some r' ∧ LRel c r r'.toList
  | _, _, l, l', r, .nil, hl, h => by
    rw [hnil] at h
    cases h
    exact ⟨l', rfl, hl⟩
  | _, _, l, l', r, .cons i v x parts parts' hv hp', hl, h => by
    obtain ⟨off, size, vs, h1, h2, h3, h4, h5⟩ := hcons _ _ _ _ _ h
    have hc := hv.cells h2
    have hcs : x.cells.size = vs.length := by have := hc.1; simp at this; omega
    have hls : l'.size = l.length := by have := hl.1; simp at this; omega
    have hset : LRel c (splice l off vs) ((x.cells.zipIdx.foldl (fun cs p => cs.setIfInBounds (off + p.2) p.1) l').toList) := by
      rw [← Array.foldl_toList, Array.toList_zipIdx]
      have := foldl_sets off x.cells.toList 0 l' (by simp; omega)
      rw [this]
      have h6 := hl.splice hc (off := off) (by omega)
      simpa [hcs] using h6
    obtain ⟨r', h7, h8⟩ := fill_sound place placeA hp fillX hnil hcons parts parts' _ _ r hp' hset h5
    refine ⟨r', ?_, h8⟩
    unfold Instr.fill
    rw [hp _ _ _ h1]
    simp only
    rw [if_neg (by simp; omega)]
    exact h7

theorem run_mapM_places {P : Program} (w : World) : ∀ (fs : List (Nat × Nat × Bool)) (fields : List Field), fieldsOk P fs fields = true →
    (fields.mapM fun f => (do pure (f.offset, ← sizeOf f.type) : Sem (Nat × Nat))).run P w = .ok (fs.map fun p => (p.1, p.2.1)) w
  | [], [], _ => by simp
  | (off, size, ag) :: fs, f :: fields, h => by
    simp only [fieldsOk, Bool.and_eq_true, beq_iff_eq] at h
    obtain ⟨⟨⟨h1, h2⟩, _⟩, h3⟩ := h
    have ih := run_mapM_places w fs fields h3
    unfold elemOk at h2
    cases hi : P.info? f.type with
    | none => simp [hi] at h2
    | some i =>
      simp only [hi, beq_iff_eq] at h2
      simp only [List.mapM_cons, Sem.run_bind, run_sizeOf hi, Result.andThen_ok, Sem.run_pure, ih, List.map_cons, h1, h2]
  | [], _ :: _, h => by simp [fieldsOk] at h
  | _ :: _, [], h => by simp [fieldsOk] at h

theorem fillS_cons {fs : List (Nat × Nat × Bool)} {l : List AV} {i : Nat} {v : AV} {rest : List (Nat × AV)} {r : List AV} (h : fillS fs l ((i, v) :: rest) = some r) :
    ∃ off size vs, (fs[i]?).map (fun p => (p.1, p.2.1)) = some (off, size) ∧ v.cells? = some vs ∧ vs.length = size ∧ off + size ≤ l.length ∧ fillS fs (splice l off vs) rest = some r := by
  simp only [fillS] at h
  cases h1 : fs[i]? with
  | none => simp [h1] at h
  | some p =>
    obtain ⟨off, size, ag⟩ := p
    cases h2 : v.cells? with
    | none => simp [h1, h2] at h
    | some vs =>
      simp only [h1, h2] at h
      split at h
      · rename_i hc
        exact ⟨off, size, vs, rfl, rfl, hc.1, hc.2, h⟩
      · cases h
theorem fillA_cons {esz : Nat} {l : List AV} {i : Nat} {v : AV} {rest : List (Nat × AV)} {r : List AV} (h : fillA esz l ((i, v) :: rest) = some r) :
    ∃ off size vs, (some (i * esz, esz) : Option (Nat × Nat)) = some (off, size) ∧ v.cells? = some vs ∧ vs.length = size ∧ off + size ≤ l.length ∧ fillA esz (splice l off vs) rest = some r := by
  simp only [fillA] at h
  cases h2 : v.cells? with
  | none => simp [h2] at h
  | some vs =>
    simp only [h2] at h
    split at h
    · rename_i hc
      exact ⟨i * esz, esz, vs, rfl, rfl, hc.1, hc.2, h⟩
    · cases h

theorem elemOk_spec {P : Program} {e esz : Nat} (h : elemOk P e esz = true) : ∃ i, P.info? e = some i ∧ i.size = esz := by
  unfold elemOk at h
  split at h
  · rename_i i hi; exact ⟨i, hi, by simpa using h⟩
  · cases h

theorem build_sound {E : Env} (hE : EnvOk E) {c : Ctx} {w : World} {t : TypeId} {ti : TI} (ht : E.T t = some ti) {parts : List (Nat × AV)} {parts' : Array (Nat × Value)} (hp : PRel c parts parts'.toList) {v : AV} (h : buildA ti parts = some v) :
    ∃ x, (Instr.build t parts').run E.P w = .ok x w ∧ VRel c v x := by
  obtain ⟨i, d, z, hi, hd, hsz, hz, hzo, hzs, hag, hk⟩ := tyOk_spec (hE.ty _ _ ht)
  have hz0 : LRel c ti.zero z.cells.toList := zOk_rel _ _ hzo
  unfold buildA at h
  split at h
  · rename_i fs hkind
    cases hf : fillS fs ti.zero parts with
    | none => simp [hf] at h
    | some cs =>
      simp only [hf, Option.map_some, Option.some.injEq] at h
      subst h
      rw [hkind] at hk
      cases d <;> simp only [kindOk, Bool.false_eq_true] at hk
      case struct fields =>
        obtain ⟨r', h1, h2⟩ := fill_sound (c := c) (fun i => ((fs.map fun p => (p.1, p.2.1)).toArray)[i]?) (fun i => (fs[i]?).map (fun p => (p.1, p.2.1))) (fun i off size h => by simpa using h) (fillS fs) (fun l => rfl) (fun l i v rest r h => fillS_cons h) parts parts'.toList ti.zero z.cells cs hp hz0 hf
        refine ⟨.agg r', ?_, ?_⟩
        · unfold Instr.build
          simp only [Sem.run_bind, run_zeroValue hi hz, Result.andThen_ok, run_underlying hd]
          rw [Array.mapM_eq_mapM_toList, Sem.run_map, run_mapM_places w fs fields.toList hk]
          simp only [Result.andThen_ok, h1, Sem.run_pure]
        · exact VRel.agg' (l' := r'.toList) h2
  · rename_i n esz ag hkind
    cases hf : fillA esz ti.zero parts with
    | none => simp [hf] at h
    | some cs =>
      simp only [hf, Option.map_some, Option.some.injEq] at h
      subst h
      rw [hkind] at hk
      cases d <;> simp only [kindOk, Bool.false_eq_true] at hk
      case array n' e =>
        simp only [Bool.and_eq_true] at hk
        obtain ⟨ie, hie, hes⟩ := elemOk_spec hk.1.1.2
        obtain ⟨r', h1, h2⟩ := fill_sound (c := c) (fun i => some (i * ie.size, ie.size)) (fun i => some (i * esz, esz)) (fun i off size h => by rw [hes]; exact h) (fillA esz) (fun l => rfl) (fun l i v rest r h => fillA_cons h) parts parts'.toList ti.zero z.cells cs hp hz0 hf
        refine ⟨.agg r', ?_, ?_⟩
        · unfold Instr.build
          simp only [Sem.run_bind, run_zeroValue hi hz, Result.andThen_ok, run_underlying hd, run_sizeOf hie, h1, Sem.run_pure]
        · exact VRel.agg' (l' := r'.toList) h2
  · cases h
end Go.Proofs.YtoncolpkpgbfiaaDoor

/- What each operation does on the machine, by what the interpreter says of it: the rest without a call. -/
set_option linter.unusedVariables false
set_option linter.unusedSimpArgs false
namespace Go.Proofs.YtoncolpkpgbfiaaDoor

theorem zeros_succ (z : List AV) (n : Nat) : zeros z (n + 1) = z ++ zeros z n := by simp [zeros, List.replicate_succ]
theorem zeros_length (z : List AV) (n : Nat) : (zeros z n).length = n * z.length := by simp [zeros]
theorem zeros_get (z : List AV) : ∀ (n j : Nat), j < n * z.length → (zeros z n)[j]? = z[j % z.length]?
  | 0, j, h => by simp at h
  | n + 1, j, h => by
    rw [zeros_succ]
    by_cases hj : j < z.length
    · rw [List.getElem?_append_left hj, Nat.mod_eq_of_lt hj]
    · have hj' : z.length ≤ j := by omega
      rw [List.getElem?_append_right hj', zeros_get z n (j - z.length) (by rw [Nat.succ_mul] at h; omega), ← Nat.mod_eq_sub_mod hj']
theorem zeros_rel {c : Ctx} {z : List AV} {z' : Array Value} (h : LRel c z z'.toList) (n : Nat) : LRel c (zeros z n) (madeCells z' (n * z'.size)).toList := by
  have hl : z.length = z'.size := by simpa using h.1
  refine ⟨by simp [zeros_length, size_madeCells, hl], fun j hj => ?_⟩
  rw [zeros_length] at hj
  have hz : 0 < z.length := by
    rcases Nat.eq_zero_or_pos z.length with e | e
    · rw [e] at hj; simp at hj
    · exact e
  have hm : j % z.length < z.length := Nat.mod_lt _ hz
  have h1 := h.2 (j % z.length) hm
  have hj2 : j < n * z'.size := by rw [← hl]; exact hj
  have e1 : (zeros z n).getD j .undef = z.getD (j % z.length) .undef := by
    rw [List.getD_eq_getElem?_getD, List.getD_eq_getElem?_getD, zeros_get z n j hj]
  have e2 : (madeCells z' (n * z'.size)).toList.getD j undef = z'.toList.getD (j % z.length) undef := by
    have hm' : j % z'.size < z'.size := by rw [← hl]; exact hm
    rw [hl]
    simp [madeCells, List.getD_eq_getElem?_getD, hj2, hm']
  rw [e1, e2]
  exact h1

theorem heap_alloc_new' (w : World) (o : Obj) : (w.alloc o).heap[w.heap.size]? = some o := heap_alloc_new w o

/-- A variable, a row of new cells. -/
theorem Sim.newRow {base : Nat} {c : Ctx} {H : Heap} {w : World} (s : Sim c H w) (hb : base ≤ H.length) (T : TypeId) {cells : List AV} {cs : Array Value} (h : LRel c cells cs.toList) :
    Trans base c H w (c.add H.length 0 (some (w.heap.size, cs.size))) (H ++ [some ⟨cells, 0⟩]) (w.alloc (.cells cs T)) := by
  have hl : cells.length = cs.size := by simpa using h.1
  exact s.alloc hb (by exact ⟨rfl, rfl, rfl⟩) (by simp) (heap_alloc_new w _) (fun k hk => heap_alloc_old w _ k hk) 0 (by omega) (by rw [List.take_of_length_le (by simp; omega)]; exact h)
theorem Ctx.add_same (c : Ctx) (id ver : Nat) (bk : Option (Nat × Nat)) : (c.add id ver bk).m id = some (ver, bk) := by simp [Ctx.add]

theorem alloc_sound {E : Env} (hE : EnvOk E) {base : Nat} {c : Ctx} {H : Heap} {w : World} (s : Sim c H w) (hb : base ≤ H.length) {t : TypeId} {ti : TI} (ht : E.T t = some ti) (old : Value) :
    Did E base c H w (Instr.alloc t true old) (.ptr H.length 0 0) (H ++ [some ⟨ti.zero, 0⟩]) := by
  obtain ⟨i, d, z, hi, hd, hsz, hz, hzo, hzs, hag, hk⟩ := tyOk_spec (hE.ty _ _ ht)
  refine ⟨_, .pointer (some ⟨w.heap.size, 0, none⟩), w.alloc (.cells z.cells t), ?_, .ptr _ _ _ _ z.cells.size (Ctx.add_same _ _ _ _), s.newRow hb t (zOk_rel _ _ hzo)⟩
  simp [Instr.alloc, Sem.run_bind, run_zeroValue hi hz, newVar, newRow]

theorem box_sound {E : Env} {base : Nat} {c : Ctx} {H : Heap} {w : World} (s : Sim c H w) (hb : base ≤ H.length) {t : TypeId} {v : AV} {x : Value} (hv : VRel c v x) {cs : List AV} (hc : v.cells? = some cs) :
    Did E base c H w (Instr.box t x) (.ptr H.length 0 0) (H ++ [some ⟨cs, 0⟩]) := by
  refine ⟨_, .pointer (some ⟨w.heap.size, 0, none⟩), w.alloc (.cells x.cells t), ?_, .ptr _ _ _ _ x.cells.size (Ctx.add_same _ _ _ _), s.newRow hb t (hv.cells hc)⟩
  simp [Instr.box, newVar, newRow]

theorem AV.plain_below {v : AV} : v.plain = true → Nmd 0 v := by
  induction v using AV.plain.induct <;> intro h <;> first
    | exact .int _ _
    | exact .bool _
    | exact .str _
    | exact .nilp
    | exact .nils
    | exact .nilf
    | exact .nili
    | exact .lst _ _
    | exact .lel _ _
    | (rename_i ih; exact .ifc _ _ (ih (by simpa [AV.plain] using h)))
    | exact .fn _ _ (fun x hx => by simp at hx)
    | simp [AV.plain] at h

/-- Known with one more list that nobody will write. -/
def Ctx.bear (c : Ctx) (k : Nat) (cs : List Value) : Ctx := { c with z := fun b => if b = k then some cs else c.z b }
theorem Sim.bear {base : Nat} {c : Ctx} {H : Heap} {w : World} (s : Sim c H w) (T : TypeId) {cells : List AV} {cs : Array Value} (h : LRel c cells cs.toList) (hp : cells.all AV.plain = true) :
    ∃ c', (∀ len, VRel c' (.lst cells len) (.slice (some ⟨w.heap.size, 0, none⟩) len len)) ∧ Trans base c H w c' H (w.alloc (.cells cs T)) := by
  have hz : c.z w.heap.size = none := by
    cases hz : c.z w.heap.size with
    | none => rfl
    | some l => obtain ⟨T', fz, h1⟩ := s.froz _ _ hz; have := (Array.getElem?_eq_some_iff.1 h1).1; omega
  have hold : ∀ b, b ≠ w.heap.size → (c.bear w.heap.size cs.toList).z b = c.z b := fun b hb => by simp [Ctx.bear, hb]
  have hx : Ext c (c.bear w.heap.size cs.toList) := ⟨fun b l hb => by
    rw [hold b (fun e => by rw [e, hz] at hb; cases hb)]; exact hb, fun id v b hm => ⟨v, b, hm, .inl ⟨rfl, rfl⟩⟩⟩
  refine ⟨c.bear w.heap.size cs.toList, fun len => ?_, hx, ⟨s.dom, ?_, s.inj, ?_, ?_, ?_, fun b cs h => hx.z _ _ (s.glob b cs h)⟩, by simp, fun b hb _ => heap_alloc_old w _ b hb, ?_, fun b l hb => ?_, Nat.le_refl _, fun _ _ h => h, ⟨rfl, rfl, rfl⟩⟩
  · refine .lst _ _ _ _ _ cs.toList (Nat.le_refl _) (by simp [Ctx.bear]) (by have := h.1; omega) fun i hi => ?_
    have h1 := h.2 i hi
    rw [Nat.zero_add]
    refine VRel.res (h1.mono hx) (AV.plain_below ?_)
    exact List.all_eq_true.1 hp _ (getD_mem hi)
  · intro id b hl
    obtain ⟨bk, h1, h2⟩ := s.blk id b hl
    exact ⟨bk, h1, h2.mono hx fun k sz e => by subst e; exact heap_alloc_old w _ k (s.bnd _ _ _ _ h1)⟩
  · intro id v b sz hm
    have := s.bnd _ _ _ _ hm
    rw [hold b (by omega)]
    exact s.disj _ _ _ _ hm
  · intro id v b sz hm
    have := s.bnd _ _ _ _ hm
    simp; omega
  · intro b l hb
    by_cases e : b = w.heap.size
    · subst e
      simp only [Ctx.bear, if_true, Option.some.injEq] at hb
      subst hb
      exact ⟨T, (0, 0), heap_alloc_new w _⟩
    · rw [hold b e] at hb
      obtain ⟨T', fz, h1⟩ := s.froz b l hb
      exact ⟨T', fz, by rw [heap_alloc_old w _ b (Array.getElem?_eq_some_iff.1 h1).1]; exact h1⟩
  · intro b ho
    exact .inl ho
  · by_cases e : b = w.heap.size
    · exact .inr (.inr (by omega))
    · rw [hold b e] at hb; exact .inl hb

theorem kd_spec {E : Env} (hE : EnvOk E) {t : TypeId} {k : TK} (h : E.kd t = some k) : ∃ i d, E.P.info? t = some i ∧ E.P.underlying t = some d ∧ kindOk E.P k d = true := by
  unfold Env.kd at h
  cases ht : E.T t with
  | none => simp [ht] at h
  | some ti =>
    simp only [ht, Option.map_some, Option.some.injEq] at h
    subst h
    obtain ⟨i, d, z, hi, hd, _, _, _, _, _, hk⟩ := tyOk_spec (hE.ty _ _ ht)
    exact ⟨i, d, hi, hd, hk⟩
theorem kd_slice {E : Env} (hE : EnvOk E) {t : TypeId} {e esz eb : Nat} {ez : List AV} (h : E.kd t = some (.slice e esz eb ez)) :
    E.P.underlying t = some (.slice e) ∧ ∃ i z, E.P.info? e = some i ∧ i.size = esz ∧ i.bytes = eb ∧ i.zero = some z ∧ zOk ez z.cells.toList = true ∧ z.cells.size = esz := by
  obtain ⟨i, d, hi, hd, hk⟩ := kd_spec hE h
  cases d <;> simp only [kindOk, Bool.false_eq_true] at hk
  case slice e' =>
    simp only [Bool.and_eq_true, beq_iff_eq] at hk
    obtain ⟨rfl, hk⟩ := hk
    refine ⟨hd, ?_⟩
    split at hk
    · rename_i ie hie
      simp only [Bool.and_eq_true, beq_iff_eq] at hk
      obtain ⟨⟨h1, h2⟩, h3⟩ := hk
      split at h3
      · rename_i z hz
        simp only [Bool.and_eq_true, beq_iff_eq] at h3
        exact ⟨ie, z, hie, h1, h2, hz, h3.1, h3.2⟩
      · cases h3
    · cases hk
theorem kd_array {E : Env} (hE : EnvOk E) {t : TypeId} {n esz : Nat} {ag : Bool} (h : E.kd t = some (.array n esz ag)) :
    ∃ e i d, E.P.underlying t = some (.array n e) ∧ E.P.info? e = some i ∧ i.size = esz ∧ E.P.underlying e = some d ∧ isAggD d = ag ∧ (ag = true ∨ esz = 1) := by
  obtain ⟨i, d, hi, hd, hk⟩ := kd_spec hE h
  cases d <;> simp only [kindOk, Bool.false_eq_true] at hk
  case array n' e =>
    simp only [Bool.and_eq_true, beq_iff_eq, Bool.or_eq_true] at hk
    obtain ⟨⟨⟨rfl, h1⟩, h2⟩, h3⟩ := hk
    obtain ⟨ie, hie, hes⟩ := elemOk_spec h1
    unfold aggOk at h2
    split at h2
    · rename_i de hde
      exact ⟨e, ie, de, hd, hie, hes, hde, by simpa using h2, h3⟩
    · cases h2
theorem fields_get {P : Program} : ∀ {fs : List (Nat × Nat × Bool)} {fields : List Field}, fieldsOk P fs fields = true → ∀ {i : Nat} {p : Nat × Nat × Bool}, fs[i]? = some p →
    ∃ fd ie d, fields[i]? = some fd ∧ fd.offset = p.1 ∧ P.info? fd.type = some ie ∧ ie.size = p.2.1 ∧ P.underlying fd.type = some d ∧ isAggD d = p.2.2
  | [], [], _, i, p, h => by simp at h
  | (off, size, ag) :: fs, f :: fields, h, i, p, hp => by
    simp only [fieldsOk, Bool.and_eq_true, beq_iff_eq] at h
    obtain ⟨⟨⟨h1, h2⟩, h4⟩, h3⟩ := h
    cases i with
    | zero =>
      simp only [List.getElem?_cons_zero, Option.some.injEq] at hp
      subst hp
      obtain ⟨ie, hie, hes⟩ := elemOk_spec h2
      unfold aggOk at h4
      split at h4
      · rename_i de hde
        exact ⟨f, ie, de, rfl, h1, hie, hes, hde, by simpa using h4⟩
      · cases h4
    | succ i => exact fields_get h3 (by simpa using hp)
  | [], _ :: _, h, _, _, _ => by simp [fieldsOk] at h
  | _ :: _, [], h, _, _, _ => by simp [fieldsOk] at h
theorem kd_struct {E : Env} (hE : EnvOk E) {t : TypeId} {fs : List (Nat × Nat × Bool)} (h : E.kd t = some (.struct fs)) : ∃ fields, E.P.underlying t = some (.struct fields) ∧ fieldsOk E.P fs fields.toList = true := by
  obtain ⟨i, d, hi, hd, hk⟩ := kd_spec hE h
  cases d <;> simp only [kindOk, Bool.false_eq_true] at hk
  case struct fields => exact ⟨fields, hd, hk⟩

theorem buildSlice_sound {E : Env} (hE : EnvOk E) {base : Nat} {c : Ctx} {H : Heap} {w : World} (s : Sim c H w) (hb : base ≤ H.length) {t : TypeId} {k : TK} (hk : E.kd t = some k) {own : Bool} {len : Nat}
    {parts : List (Nat × AV)} {parts' : Array (Nat × Value)} (hp : PRel c parts parts'.toList) {v : AV} {H' : Heap} (h : buildSliceA own H k len parts = some (v, H')) : Did E base c H w (Instr.buildSlice t len parts') v H' := by
  unfold buildSliceA at h
  split at h
  · rename_i e esz eb ez
    obtain ⟨hu, ie, z, hie, hes, heb, hz, hzo, hzs⟩ := kd_slice hE hk
    by_cases hsm : len * esz ≤ 16777216
    · rw [if_pos hsm] at h
      cases hf : fillA esz (zeros ez len) parts with
      | none => simp [hf] at h
      | some cs =>
        simp only [hf, Option.bind_some] at h
        have hz0 : LRel c ez z.cells.toList := zOk_rel _ _ hzo
        have hzr := zeros_rel hz0 len
        rw [hzs] at hzr
        obtain ⟨r', h1, h2⟩ := fill_sound (c := c) (fun i => some (i * ie.size, ie.size)) (fun i => some (i * esz, esz)) (fun i off size h => by rw [hes]; exact h) (fillA esz) (fun l => rfl) (fun l i v rest r h => fillA_cons h) parts parts'.toList _ (madeCells z.cells (len * esz)) cs hp hzr hf
        have hrun : (Instr.buildSlice t len parts').run E.P w = .ok (.slice (some ⟨w.heap.size, 0, none⟩) len len) (w.alloc (.cells r' e)) := by
          unfold Instr.buildSlice
          simp only [Sem.run_bind, run_underlying hu, Result.andThen_ok, run_sizeOf hie, hes]
          rw [if_neg (by omega)]
          by_cases h0 : len * esz = 0
          · have h1' : Instr.fill (fun i => some (i * esz, esz)) (#[] : Array Value) parts'.toList = some r' := by
              have e0 : madeCells z.cells (len * esz) = (#[] : Array Value) := by simp [madeCells, h0]
              rw [e0, hes] at h1; exact h1
            simp only [h0, if_true, Sem.run_bind, Sem.run_pure, Result.andThen_ok, newRow]
            have er : Array.range 0 = #[] := rfl
            simp [er, h1']
          · simp only [h0, if_false, Sem.run_bind, run_zeroValue hie hz, Result.andThen_ok, newRow, Sem.run_pure]
            have h1' := h1
            unfold madeCells at h1'
            rw [hes] at h1'
            simp [h1']
        have hlen : cs.length = len * esz := by
          have e1 : ∀ (ps : List (Nat × AV)) (l r : List AV), fillA esz l ps = some r → r.length = l.length := by
            intro ps
            induction ps with
            | nil => intro l r h; simp only [fillA, Option.some.injEq] at h; rw [h]
            | cons p ps ih =>
              intro l r h
              obtain ⟨off, size, vs, h1, h2, h3, h4, h5⟩ := fillA_cons (i := p.1) (v := p.2) h
              rw [ih _ _ h5, splice_length (by omega)]
          rw [e1 _ _ _ hf, zeros_length]
          have h9 : ez.length = esz := by have := hz0.1; simp at this; omega
          rw [h9]
        have hr' : r'.size = len * esz := by have := h2.1; simp at this; omega
        have tr := s.newRow hb e h2
        split at h
        · simp only [Option.some.injEq, Prod.mk.injEq] at h
          obtain ⟨rfl, rfl⟩ := h
          exact ⟨_, _, _, hrun, .sl _ _ _ _ _ _ _ _ _ (Ctx.add_same _ _ _ _) (Nat.le_refl _) (Nat.le_refl _) (by omega), tr⟩
        · split at h
          · rename_i hpl
            simp only [Option.some.injEq, Prod.mk.injEq] at h
            obtain ⟨rfl, rfl⟩ := h
            obtain ⟨c', hc', htr⟩ := s.bear (base := base) e h2 hpl
            exact ⟨c', _, _, hrun, hc' len, htr⟩
          · cases h
    · rw [if_neg hsm] at h
      simp at h
  · cases h

theorem makeSlice_sound {E : Env} (hE : EnvOk E) {base : Nat} {c : Ctx} {H : Heap} {w : World} (s : Sim c H w) (hb : base ≤ H.length) {t : TypeId} {k : TK} (hk : E.kd t = some k) {l m : AV} {l' m' : Value}
    (hl : VRel c l l') (hm : VRel c m m') {v : AV} {H' : Heap} (h : makeSliceA H k l m = some (v, H')) : Did E base c H w (Instr.makeSlice t l' m') v H' := by
  unfold makeSliceA at h
  split at h
  · rename_i e esz eb ez kl n km x
    obtain ⟨hu, ie, z, hie, hes, heb, hz, hzo, hzs⟩ := kd_slice hE hk
    obtain rfl := hl.inv_int
    obtain rfl := hm.inv_int
    split at h
    · rename_i hc
      obtain ⟨h0, h1, h2, h3, h4⟩ := hc
      simp only [Option.some.injEq, Prod.mk.injEq] at h
      obtain ⟨rfl, rfl⟩ := h
      have hbytes : (ie.bytes : Int) * x ≤ 281474976710656 := by
        have e1 : ((x.toNat * eb : Nat) : Int) ≤ 140737488355328 := by unfold maxBytes at h2; omega
        rw [heb]
        have e2 : ((x.toNat : Nat) : Int) = x := Int.toNat_of_nonneg (by omega)
        rw [Int.natCast_mul, e2, Int.mul_comm] at e1
        omega
      have hr := run_make (P := E.P) w t e ie z hu hie hz kl km n x h0 h1 hbytes h3
      have hz0 : LRel c ez z.cells.toList := zOk_rel _ _ hzo
      have hzr := zeros_rel hz0 x.toNat
      rw [hzs] at hzr
      rw [hes] at hr
      have hnx : n.toNat ≤ x.toNat := by omega
      have hzl : ∀ q, (zeros ez q).length = q * ez.length := fun q => by simp [zeros]
      have hpre : (zeros ez x.toNat).take (zeros ez n.toNat).length = zeros ez n.toNat := by
        have : x.toNat = n.toNat + (x.toNat - n.toNat) := by omega
        rw [this]
        unfold zeros
        rw [← List.replicate_append_replicate, List.flatten_append, List.take_left]
      have hle : (zeros ez n.toNat).length ≤ (madeCells z.cells (x.toNat * esz)).size := by
        rw [hzl, size_madeCells, h4]
        exact Nat.mul_le_mul_right _ hnx
      refine ⟨_, _, _, hr, .sl _ _ _ _ _ _ _ _ _ (Ctx.add_same _ _ _ _) (Nat.le_refl _) (by omega) ?_, s.alloc hb (by exact ⟨rfl, rfl, rfl⟩) (by simp) (heap_alloc_new w _) (fun k hk => heap_alloc_old w _ k hk) 0 hle (by
        have := hzr.take (zeros ez n.toNat).length
        rwa [hpre] at this)⟩
      rw [size_madeCells]; omega
    · cases h
  · cases h

theorem run_part {P : Program} {t : TypeId} {i : TypeInfo} {d : TypeDesc} (hi : P.info? t = some i) (hd : P.underlying t = some d) {c : Ctx} {w : World} {l : List AV} {l' : List Value} (hl : LRel c l l') {off : Nat} {v : AV}
    (h : (if isAggD d then (if off + i.size ≤ l.length then some (.agg ((l.drop off).take i.size)) else none) else l[off]?) = some v) :
    ∃ x, (part t l'.toArray off).run P w = .ok x w ∧ VRel c v x := by
  unfold part
  by_cases ha : isAggD d = true
  · simp only [ha, if_true] at h
    split at h
    · cases h
      refine ⟨.agg ((l'.drop off).take i.size).toArray, ?_, VRel.agg' ((hl.drop off).take _)⟩
      simp only [Sem.run_bind, run_isAgg hd, ha, if_true, Result.andThen_ok, run_sizeOf hi, Sem.run_pure]
      simp [List.extract_eq_take_drop]
    · cases h
  · simp only [ha, if_false, Bool.false_eq_true] at h
    obtain ⟨x, hx, hv⟩ := hl.get h
    refine ⟨x, ?_, hv⟩
    simp [Sem.run_bind, run_isAgg hd, ha, hx]

theorem field_sound {E : Env} (hE : EnvOk E) {c : Ctx} {w : World} {t : TypeId} {k : TK} (hk : E.kd t = some k) {x v : AV} {x' : Value} (hx : VRel c x x') {i : Nat} (h : fieldA k x i = some v) :
    ∃ y, (Instr.field t x' i).run E.P w = .ok y w ∧ VRel c v y := by
  unfold fieldA at h
  split at h
  · rename_i fs cs
    obtain ⟨fields, hu, hf⟩ := kd_struct hE hk
    obtain ⟨cs', rfl, hr⟩ := hx.inv_agg
    cases hp : fs[i]? with
    | none => simp [hp] at h
    | some p =>
      simp only [hp, Option.bind_some] at h
      obtain ⟨fd, ie, d, h1, h2, h3, h4, h5, h6⟩ := fields_get hf hp
      obtain ⟨y, h7, h8⟩ := run_part (w := w) h3 h5 hr (off := p.1) (v := v) (by rw [h4, h6]; exact h)
      refine ⟨y, ?_, h8⟩
      unfold Instr.field
      have h1' : fields[i]? = some fd := by simpa using h1
      simp only [Sem.run_bind, run_underlying hu, Result.andThen_ok, h1', asAgg, Sem.run_pure, h2, h7]
  · cases h

theorem fieldAddr_sound {E : Env} (hE : EnvOk E) {c : Ctx} {w : World} {t : TypeId} {k : TK} (hk : E.kd t = some k) {x v : AV} {x' : Value} (hx : VRel c x x') {i : Nat} (h : fieldAddrA k x i = some v) :
    ∃ y, (Instr.fieldAt t x' i).run E.P w = .ok y w ∧ VRel c v y := by
  have key : ∀ fs, k = .struct fs → ∀ p, fs[i]? = some p → p.2.1 ≠ 0 → ∀ b off, x' = .pointer (some ⟨b, off, none⟩) → (Instr.fieldAt t x' i).run E.P w = .ok (.pointer (some ⟨b, off + p.1, none⟩)) w := by
    intro fs hfs p hp hne b off hx'
    subst hfs hx'
    obtain ⟨fields, hu, hf⟩ := kd_struct hE hk
    obtain ⟨fd, ie, d, h1, h2, h3, h4, h5, h6⟩ := fields_get hf hp
    have h1' : fields[i]? = some fd := by simpa using h1
    unfold Instr.fieldAt fieldPlace
    simp only [Sem.run_bind, run_underlying hu, Result.andThen_ok, h1', Instr.sureAddr, Sem.run_pure, run_sizeOf h3, h4, hne, if_false, Addr.add_lit, h2]
  unfold fieldAddrA at h
  split at h
  · rename_i fs id ver off
    cases hp : fs[i]? with
    | none => simp [hp] at h
    | some p =>
      simp only [hp, Option.bind_some] at h
      split at h
      · cases h
      · rename_i hne
        cases h
        cases hx with
        | ptr _ _ _ b sz hm => exact ⟨_, key fs rfl p hp hne b off rfl, .ptr _ _ _ _ _ hm⟩
        | ptrOld _ _ _ ver' bk b hm hlt => exact ⟨_, key fs rfl p hp hne b off rfl, .ptrOld _ _ _ _ _ _ hm hlt⟩
  · rename_i fs cs off
    cases hp : fs[i]? with
    | none => simp [hp] at h
    | some p =>
      simp only [hp, Option.bind_some] at h
      split at h
      · cases h
      · rename_i hne
        cases h
        cases hx with
        | lel _ _ b o l hz hl hr =>
          refine ⟨_, key fs rfl p hp hne b (o + off) rfl, ?_⟩
          rw [Nat.add_assoc]
          exact .lel _ _ _ _ _ hz hl hr
  · cases h
end Go.Proofs.YtoncolpkpgbfiaaDoor

/- What each operation does on the machine, by what the interpreter says of it: places, slices, numbers. -/
set_option linter.unusedVariables false
set_option linter.unusedSimpArgs false
namespace Go.Proofs.YtoncolpkpgbfiaaDoor

theorem run_indexAt_arr {P : Program} {w : World} {t e n : Nat} {i : TypeInfo} (hu : P.underlying t = some (.array n e)) (hi : P.info? e = some i) {k : IntKind} {x : Int} (h0 : 0 ≤ x) (h1 : x < n) (b off : Nat) :
    (Instr.indexAt t (.pointer (some ⟨b, off, none⟩)) (.int k x)).run P w = .ok (.pointer (some ⟨b, off + x.toNat * i.size, none⟩)) w := by
  unfold Instr.indexAt
  simp [asIntOf, Sem.run_bind, run_underlying hu, Instr.sureAddr, h0, h1, run_sizeOf hi, Addr.add_lit]
theorem run_indexAt_sl {P : Program} {w : World} {t e : Nat} {i : TypeInfo} (hu : P.underlying t = some (.slice e)) (hi : P.info? e = some i) {k : IntKind} {x : Int} {len cap : Nat} (h0 : 0 ≤ x) (h1 : x < len) (b off : Nat) :
    (Instr.indexAt t (.slice (some ⟨b, off, none⟩) len cap) (.int k x)).run P w = .ok (.pointer (some ⟨b, off + x.toNat * i.size, none⟩)) w := by
  unfold Instr.indexAt
  simp [asIntOf, Sem.run_bind, run_underlying hu, h0, h1, run_sizeOf hi, Addr.add_lit]

theorem indexAddr_sound {E : Env} (hE : EnvOk E) {c : Ctx} {w : World} {t : TypeId} {k : TK} (hk : E.kd t = some k) {x i v : AV} {x' i' : Value} (hx : VRel c x x') (hi : VRel c i i') (h : indexAddrA k x i = some v) :
    ∃ y, (Instr.indexAt t x' i').run E.P w = .ok y w ∧ VRel c v y := by
  unfold indexAddrA at h
  split at h
  · rename_i n esz ag id ver off ki j
    obtain rfl := hi.inv_int
    obtain ⟨e, ie, d, hu, hie, hes, _⟩ := kd_array hE hk
    split at h
    · rename_i hc
      cases h
      cases hx with
      | ptr _ _ _ b sz hm =>
        refine ⟨_, run_indexAt_arr hu hie hc.1 hc.2 b off, ?_⟩
        rw [hes]; exact .ptr _ _ _ _ _ hm
      | ptrOld _ _ _ ver' bk b hm hlt =>
        refine ⟨_, run_indexAt_arr hu hie hc.1 hc.2 b off, ?_⟩
        rw [hes]; exact .ptrOld _ _ _ _ _ _ hm hlt
    · cases h
  · rename_i n esz ag cs off ki j
    obtain rfl := hi.inv_int
    obtain ⟨e, ie, d, hu, hie, hes, _⟩ := kd_array hE hk
    split at h
    · rename_i hc
      cases h
      cases hx with
      | lel _ _ b o l hz hl hr =>
        refine ⟨_, run_indexAt_arr hu hie hc.1 hc.2 b (o + off), ?_⟩
        rw [hes, Nat.add_assoc]; exact .lel _ _ _ _ _ hz hl hr
    · cases h
  · rename_i e esz eb ez id ver off len cap esz' ki j
    obtain rfl := hi.inv_int
    obtain ⟨hu, ie, z, hie, hes, _⟩ := kd_slice hE hk
    split at h
    · rename_i hc
      cases h
      cases hx with
      | sl _ _ _ _ _ _ b sz cap' hm _ _ _ =>
        refine ⟨_, run_indexAt_sl hu hie hc.1 hc.2.1 b off, ?_⟩
        rw [hes]; exact .ptr _ _ _ _ _ hm
      | slNone _ _ _ hm => exfalso; have := hc.1; have := hc.2.1; omega
      | slOld _ _ _ _ _ _ ver' bk b cap' hm hlt _ _ =>
        refine ⟨_, run_indexAt_sl hu hie hc.1 hc.2.1 b off, ?_⟩
        rw [hes]; exact .ptrOld _ _ _ _ _ _ hm hlt
      | slOldNone _ _ _ _ _ hm hlt => exfalso; have := hc.1; have := hc.2.1; omega
    · cases h
  · rename_i e esz eb ez cs len ki j
    obtain rfl := hi.inv_int
    obtain ⟨hu, ie, z, hie, hes, _⟩ := kd_slice hE hk
    split at h
    · rename_i hc
      cases h
      cases hx with
      | lst _ _ b o cap l hcap hz hl hr =>
        refine ⟨_, run_indexAt_sl hu hie hc.1 hc.2 b o, ?_⟩
        rw [hes]; exact .lel _ _ _ _ _ hz hl hr
      | lst0 a cap => exfalso; have := hc.1; have := hc.2; omega
    · cases h
  · cases h

theorem index_sound {E : Env} (hE : EnvOk E) {c : Ctx} {w : World} {t : TypeId} {k : TK} (hk : E.kd t = some k) {x i v : AV} {x' i' : Value} (hx : VRel c x x') (hi : VRel c i i') (h : indexA k x i = some v) :
    ∃ y, (Instr.index t x' i').run E.P w = .ok y w ∧ VRel c v y := by
  unfold indexA at h
  split at h
  · rename_i n esz ag cs ki j
    obtain rfl := hi.inv_int
    obtain ⟨e, ie, d, hu, hie, hes, hd, hag, _⟩ := kd_array hE hk
    obtain ⟨cs', rfl, hr⟩ := hx.inv_agg
    split at h
    · rename_i hc
      obtain ⟨y, h1, h2⟩ := run_part (w := w) hie hd hr (off := j.toNat * esz) (v := v) (by rw [hes, hag]; exact h)
      refine ⟨y, ?_, h2⟩
      unfold Instr.index
      simp only [asIntOf, Sem.run_bind, Sem.run_pure, Result.andThen_ok, run_underlying hu, hc, and_self, if_true, run_sizeOf hie, hes, h1]
    · cases h
  · rename_i s ki j
    obtain rfl := hi.inv_int
    obtain rfl := hx.inv_str
    obtain ⟨i, d, _, hd, hkd⟩ := kd_spec hE hk
    cases d <;> simp only [kindOk, Bool.false_eq_true] at hkd
    split at h
    · rename_i hc
      cases hs : s[j.toNat]? with
      | none => simp [hs] at h
      | some b =>
        simp only [hs, Option.map_some, Option.some.injEq] at h
        subst h
        refine ⟨_, ?_, .int _ _⟩
        unfold Instr.index
        simp only [asIntOf, Sem.run_bind, Sem.run_pure, Result.andThen_ok, run_underlying hd, hc, if_true, hs]
    · cases h
  · cases h

theorem bound_rel {c : Ctx} {n : Nat} {fr : Fr} {a : Act} (hf : FRel c n fr a) {d l : Int} {o : Option Operand} (h : boundA fr d o = some l) : (o = none ∧ l = d) ∨ ∃ k, o.map a.eval = some (.int k l) := by
  cases o with
  | none => simp only [boundA, Option.some.injEq] at h; exact .inl ⟨rfl, h.symm⟩
  | some o =>
    simp only [boundA] at h
    split at h
    · rename_i k m he
      cases h
      have := hf.ev o
      rw [he] at this
      exact .inr ⟨k, by simp [this.inv_int]⟩
    · cases h

theorem run_bounds {P : Program} {w : World} {sl : Bool} {len cap : Nat} {lo hi : Option Value} {l h : Int} (hl : (lo = none ∧ l = 0) ∨ ∃ k, lo = some (.int k l)) (hh : (hi = none ∧ h = len) ∨ ∃ k, hi = some (.int k h))
    (h0 : 0 ≤ l) (h1 : l ≤ h) (h2 : h ≤ cap) : (Instr.sliceBounds sl len cap lo hi none).run P w = .ok (l.toNat, h.toNat, cap) w := by
  have eh : (h.toNat : Int) = h := Int.toNat_of_nonneg (by omega)
  rcases hl with ⟨rfl, rfl⟩ | ⟨kl, rfl⟩ <;> rcases hh with ⟨rfl, rfl⟩ | ⟨kh, rfl⟩
  · simp [Instr.sliceBounds]
  · simp [Instr.sliceBounds, run_sliceBound _ _ _ _ _ (show 0 ≤ h by omega) h2]
  · simp [Instr.sliceBounds, run_sliceBound _ _ _ _ _ h0 (show l ≤ ((len : Nat) : Int) by omega)]
  · simp [Instr.sliceBounds, run_sliceBound _ _ _ _ _ (show 0 ≤ h by omega) h2, run_sliceBound _ _ _ _ _ h0 (show l ≤ ((h.toNat : Nat) : Int) by omega)]

theorem slice_sound {E : Env} (hE : EnvOk E) {c : Ctx} {H : Heap} {w : World} (sm : Sim c H w) {n : Nat} {fr : Fr} {a : Act} (hf : FRel c n fr a) {t : TypeId} {k : TK} (hk : E.kd t = some k) {x v : AV} {x' : Value} (hx : VRel c x x') {lo hi : Option Operand} (h : sliceA H fr k x lo hi = some v) :
    ∃ y, (Instr.sliceAt t x' (lo.map a.eval) (hi.map a.eval) none).run E.P w = .ok y w ∧ VRel c v y := by
  unfold sliceA at h
  split at h
  · rename_i m esz ag id ver off
    cases hl : boundA fr 0 lo with
    | none => simp [hl] at h
    | some l =>
      cases hh : boundA fr m hi with
      | none => simp [hl, hh] at h
      | some r =>
        simp only [hl, hh, Option.bind_some] at h
        cases hblk : blkAt H id ver with
        | none => simp [hblk] at h
        | some blk =>
        simp only [hblk, Option.bind_some] at h
        split at h
        · rename_i hc
          obtain ⟨h0, h1, h2, h9⟩ := hc
          obtain ⟨e, ie, d, hu, hie, hes, _⟩ := kd_array hE hk
          obtain ⟨bb, sz, cs, T, rfl, hm, hbk, rfl, hle, hr⟩ := sm.ptr hx hblk
          have hlo : (lo.map a.eval = none ∧ l = 0) ∨ ∃ k, lo.map a.eval = some (.int k l) := by
            rcases bound_rel hf hl with ⟨e1, e2⟩ | e1
            · exact .inl ⟨by rw [e1]; rfl, e2⟩
            · exact .inr e1
          have hhi : (hi.map a.eval = none ∧ r = (m : Int)) ∨ ∃ k, hi.map a.eval = some (.int k r) := by
            rcases bound_rel hf hh with ⟨e1, e2⟩ | e1
            · exact .inl ⟨by rw [e1]; rfl, e2⟩
            · exact .inr e1
          have hb := run_bounds (P := E.P) (w := w) (sl := false) (cap := m) hlo hhi h0 h1 h2
          have hrun : ∀ b, (Instr.sliceAt t (.pointer (some ⟨b, off, none⟩)) (lo.map a.eval) (hi.map a.eval) none).run E.P w =
              .ok (.slice (some (if m = l.toNat then ⟨b, off, none⟩ else (⟨b, off, none⟩ : Addr).add (l.toNat * ie.size))) (r.toNat - l.toNat) (m - l.toNat)) w := by
            intro b
            unfold Instr.sliceAt
            simp only [Sem.run_bind, run_underlying hu, Result.andThen_ok, Instr.sureAddr, Sem.run_pure, hb, run_sizeOf hie]
          by_cases hlr : l = r
          · rw [if_pos hlr] at h
            cases h
            subst hlr
            exact ⟨_, hrun bb, by rw [Nat.sub_self]; exact .lst0 _ _⟩
          · rw [if_neg hlr] at h
            cases h
            have hne : m ≠ l.toNat := by omega
            refine ⟨_, hrun bb, ?_⟩
            rw [if_neg hne, Addr.add_lit, hes]
            refine .sl _ _ _ _ _ _ _ _ _ hm (Nat.le_refl _) (by omega) ?_
            have e1 : (m - l.toNat) * esz = m * esz - l.toNat * esz := Nat.sub_mul _ _ _
            have e2 : l.toNat * esz ≤ m * esz := Nat.mul_le_mul_right _ (by omega)
            omega
        · cases h
  · rename_i e esz eb ez id ver off len cap esz'
    cases hl : boundA fr 0 lo with
    | none => simp [hl] at h
    | some l =>
      cases hh : boundA fr len hi with
      | none => simp [hl, hh] at h
      | some r =>
        simp only [hl, hh, Option.bind_some] at h
        split at h
        · rename_i hc
          obtain ⟨h0, h1, h2, rfl⟩ := hc
          obtain ⟨hu, ie, z, hie, hes, _⟩ := kd_slice hE hk
          have hlo : (lo.map a.eval = none ∧ l = 0) ∨ ∃ k, lo.map a.eval = some (.int k l) := by
            rcases bound_rel hf hl with ⟨e1, e2⟩ | e1
            · exact .inl ⟨by rw [e1]; rfl, e2⟩
            · exact .inr e1
          have hhi : (hi.map a.eval = none ∧ r = (len : Int)) ∨ ∃ k, hi.map a.eval = some (.int k r) := by
            rcases bound_rel hf hh with ⟨e1, e2⟩ | e1
            · exact .inl ⟨by rw [e1]; rfl, e2⟩
            · exact .inr e1
          have hrun : ∀ (q : Option Addr) (cap' : Nat), len ≤ cap' → (Instr.sliceAt t (.slice q len cap') (lo.map a.eval) (hi.map a.eval) none).run E.P w =
              .ok (.slice (if cap' = l.toNat then q else q.map (·.add (l.toNat * ie.size))) (r.toNat - l.toNat) (cap' - l.toNat)) w := by
            intro q cap' hle
            have hb := run_bounds (P := E.P) (w := w) (sl := true) (cap := cap') hlo hhi h0 h1 (by omega)
            unfold Instr.sliceAt
            simp only [Sem.run_bind, run_underlying hu, Result.andThen_ok]
            unfold Instr.slice
            simp only [Sem.run_bind, run_underlying hu, Result.andThen_ok, hb, run_sizeOf hie, Sem.run_pure]
          by_cases hlr : l = r
          · rw [if_pos hlr] at h
            cases h
            subst hlr
            cases hx with
            | sl _ _ _ _ _ _ b sz cap' hm g1 g2 g3 => exact ⟨_, hrun _ cap' (by omega), by rw [Nat.sub_self]; exact .lst0 _ _⟩
            | slNone _ _ _ hm => exact ⟨_, hrun _ 0 (by omega), by rw [Nat.sub_self]; exact .lst0 _ _⟩
            | slOld _ _ _ _ _ _ ver' bk b cap' hm hlt g1 g2 => exact ⟨_, hrun _ cap' (by omega), by rw [Nat.sub_self]; exact .lst0 _ _⟩
            | slOldNone _ _ _ ver' bk hm hlt => exact ⟨_, hrun _ 0 (by omega), by rw [Nat.sub_self]; exact .lst0 _ _⟩
          · rw [if_neg hlr] at h
            cases h
            cases hx with
            | sl _ _ _ _ _ _ b sz cap' hm g1 g2 g3 =>
              refine ⟨_, hrun _ cap' (by omega), ?_⟩
              rw [if_neg (by omega)]
              simp only [Option.map_some, Addr.add_lit, hes]
              refine .sl _ _ _ _ _ _ _ _ _ hm (by omega) (by omega) ?_
              have e1 : (cap' - l.toNat) * esz' = cap' * esz' - l.toNat * esz' := Nat.sub_mul _ _ _
              have e2 : l.toNat * esz' ≤ cap' * esz' := Nat.mul_le_mul_right _ (by omega)
              omega
            | slNone _ _ _ hm => exfalso; omega
            | slOld _ _ _ _ _ _ ver' bk b cap' hm hlt g1 g2 =>
              refine ⟨_, hrun _ cap' (by omega), ?_⟩
              rw [if_neg (by omega)]
              simp only [Option.map_some, Addr.add_lit, hes]
              exact .slOld _ _ _ _ _ _ _ _ _ _ hm hlt (by omega) (by omega)
            | slOldNone _ _ _ ver' bk hm hlt => exfalso; omega
        · cases h
  · rename_i e esz eb ez cells len
    cases hl : boundA fr 0 lo with
    | none => simp [hl] at h
    | some l =>
      cases hh : boundA fr len hi with
      | none => simp [hl, hh] at h
      | some r =>
        simp only [hl, hh, Option.bind_some] at h
        split at h
        · rename_i hc
          obtain ⟨h0, h1, h2, h3⟩ := hc
          obtain ⟨hu, ie, z, hie, hes, _⟩ := kd_slice hE hk
          have hlo : (lo.map a.eval = none ∧ l = 0) ∨ ∃ k, lo.map a.eval = some (.int k l) := by
            rcases bound_rel hf hl with ⟨e1, e2⟩ | e1
            · exact .inl ⟨by rw [e1]; rfl, e2⟩
            · exact .inr e1
          have hhi : (hi.map a.eval = none ∧ r = (len : Int)) ∨ ∃ k, hi.map a.eval = some (.int k r) := by
            rcases bound_rel hf hh with ⟨e1, e2⟩ | e1
            · exact .inl ⟨by rw [e1]; rfl, e2⟩
            · exact .inr e1
          have hrun : ∀ (q : Option Addr) (cap' : Nat), len ≤ cap' → (Instr.sliceAt t (.slice q len cap') (lo.map a.eval) (hi.map a.eval) none).run E.P w =
              .ok (.slice (if cap' = l.toNat then q else q.map (·.add (l.toNat * ie.size))) (r.toNat - l.toNat) (cap' - l.toNat)) w := by
            intro q cap' hle
            have hb := run_bounds (P := E.P) (w := w) (sl := true) (cap := cap') hlo hhi h0 h1 (by omega)
            unfold Instr.sliceAt
            simp only [Sem.run_bind, run_underlying hu, Result.andThen_ok]
            unfold Instr.slice
            simp only [Sem.run_bind, run_underlying hu, Result.andThen_ok, hb, run_sizeOf hie, Sem.run_pure]
          by_cases hlr : l = r
          · rw [if_pos hlr] at h
            cases h
            subst hlr
            cases hx with
            | lst _ _ b o cap' cs hcap hz hll hr => exact ⟨_, hrun _ cap' hcap, by rw [Nat.sub_self]; exact .lst0 _ _⟩
            | lst0 q cap' => exact ⟨_, hrun q cap' (by omega), by rw [Nat.sub_self]; exact .lst0 _ _⟩
          · rw [if_neg hlr] at h
            cases h
            cases hx with
            | lst _ _ b o cap' cs hcap hz hll hr =>
              refine ⟨_, hrun _ cap' hcap, ?_⟩
              rw [if_neg (by omega)]
              simp only [Option.map_some, Addr.add_lit, hes]
              have e1 : (r.toNat - l.toNat) * esz = r.toNat * esz - l.toNat * esz := Nat.sub_mul _ _ _
              have e2 : l.toNat * esz ≤ r.toNat * esz := Nat.mul_le_mul_right _ (by omega)
              have hlen : ((cells.drop (l.toNat * esz)).take ((r.toNat - l.toNat) * esz)).length = (r.toNat - l.toNat) * esz := by simp; omega
              refine .lst _ _ _ _ _ cs (by omega) hz (by rw [hlen]; omega) fun i hi => ?_
              rw [hlen] at hi
              have h9 := hr (l.toNat * esz + i) (by omega)
              rw [List.getD_eq_getElem?_getD, List.getElem?_take, if_pos hi, List.getElem?_drop, Nat.add_assoc, ← List.getD_eq_getElem?_getD]
              exact h9
            | lst0 q cap' => exfalso; omega
        · cases h
  · cases hl : boundA fr 0 lo with
    | none => simp [hl] at h
    | some l =>
      cases hh : boundA fr 0 hi with
      | none => simp [hl, hh] at h
      | some r =>
        simp only [hl, hh, Option.bind_some] at h
        split at h
        · rename_i e esz eb ez hc
          obtain ⟨rfl, rfl⟩ := hc
          cases h
          obtain ⟨hu, ie, z, hie, hes, _⟩ := kd_slice hE hk
          cases hx
          have hlo : (lo.map a.eval = none ∧ (0 : Int) = 0) ∨ ∃ k, lo.map a.eval = some (.int k 0) := by
            rcases bound_rel hf hl with ⟨e1, e2⟩ | e1
            · exact .inl ⟨by rw [e1]; rfl, e2⟩
            · exact .inr e1
          have hhi : (hi.map a.eval = none ∧ (0 : Int) = ((0 : Nat) : Int)) ∨ ∃ k, hi.map a.eval = some (.int k 0) := by
            rcases bound_rel hf hh with ⟨e1, e2⟩ | e1
            · exact .inl ⟨by rw [e1]; rfl, rfl⟩
            · exact .inr e1
          have hb := run_bounds (P := E.P) (w := w) (sl := true) (cap := 0) hlo hhi (by omega) (by omega) (by omega)
          refine ⟨.slice none 0 0, ?_, .nils⟩
          unfold Instr.sliceAt
          simp only [Sem.run_bind, run_underlying hu, Result.andThen_ok]
          unfold Instr.slice
          simp only [Sem.run_bind, run_underlying hu, Result.andThen_ok, hb, run_sizeOf hie, Sem.run_pure]
          simp
        · cases h
  · cases h
end Go.Proofs.YtoncolpkpgbfiaaDoor
