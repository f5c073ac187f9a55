/- The abstract interpreter in wp form: values, heap, operations, code, calls. Definitions alone; its soundness against the machine is proved in EvB and after. -/
import Derived.Orders
import Derived.LoopN
set_option linter.unusedVariables false
set_option linter.unusedSimpArgs false
namespace Go.Proofs.YtimdnnlfkkkpbaaDoor

/-- Abstract values: a block is named by a number of its own; a list that nobody writes any more stands as itself. -/
inductive AV where
  | undef
  | int (k : IntKind) (n : Int)
  | bool (b : Bool)
  | str (s : ByteArray)
  | nilp
  | ptr (id ver off : Nat)
  | lel (cells : List AV) (off : Nat)
  | nils
  | sl (id ver off len cap esz : Nat)
  | lst (cells : List AV) (len : Nat)
  | nilf
  | fn (f : FuncId) (captured : List AV)
  | nili
  | ifc (t : TypeId) (v : AV)
  | agg (cells : List AV)
  | tup (vs : List AV)
  deriving Inhabited

structure Blk where
  cells : List AV
  ver : Nat

abbrev Heap := List (Option Blk)
abbrev Fr := List (Nat × AV)

def Fr.get : Fr → Nat → AV
  | [], _ => .undef
  | (d, v) :: r, t => if t = d then v else Fr.get r t
def Fr.put (fr : Fr) : Option Nat → AV → Fr
  | some d, v => (d, v) :: fr
  | none, _ => fr
def Fr.keep (fr : Fr) (l : List Nat) : Fr := l.map fun t => (t, fr.get t)

/-! ### types -/
inductive TK where
  | bool | int (k : IntKind) | string | slice (e esz ebytes : Nat) (ezero : List AV) | array (n esz : Nat) (eagg : Bool) | struct (fs : List (Nat × Nat × Bool)) | iface | ptr | fn | other
structure TI where
  agg : Bool
  size : Nat
  zero : List AV
  kind : TK

/-- What the interpreter is told: the types; which variables' empty slices and literals are owned; which temporaries live on behind a region; which functions hand out memory; at which regions which slices grow no more; which structs and arrays are of integers alone. -/
structure Env where
  P : Program
  T : TypeId → Option TI
  own : FuncId → Nat → Bool
  keep : FuncId → Nat → Option (List Nat)
  escapes : FuncId → Bool
  ext : FuncId → List AV → Option AV
  given : FuncId → List AV → AV → Prop
  frz : FuncId → Nat → List Nat
  flat : TypeId → Option Nat

def ofConst : Value → AV
  | .int k n => .int k n
  | .bool b => .bool b
  | .string s => .str s
  | .pointer none => .nilp
  | .slice none 0 0 => .nils
  | .nilFunc => .nilf
  | .nilIface => .nili
  | .iface t (.int k n) => .ifc t (.int k n)
  | _ => .undef

def Fr.ev (fr : Fr) : Operand → AV
  | .tmp t => fr.get t
  | .const v => ofConst v
  | .global _ => .undef
  | .func f => .fn f []

/-- The cells of a value that may lie in memory. -/
def AV.cells? : AV → Option (List AV)
  | .undef => none
  | .tup _ => none
  | .agg cs => some cs
  | v => some [v]

/-- Surely a value of one cell. -/
def AV.one : AV → Bool
  | .undef => false
  | .tup _ => false
  | .agg _ => false
  | _ => true

/-- Surely names no block. -/
def AV.plain : AV → Bool
  | .int _ _ => true
  | .bool _ => true
  | .str _ => true
  | .nilp => true
  | .nils => true
  | .nilf => true
  | .nili => true
  | .lst _ _ => true
  | .lel _ _ => true
  | .ifc _ v => v.plain
  | .fn _ [] => true
  | _ => false

def readAt (ti : TI) (cells : List AV) (off : Nat) : Option AV :=
  if ti.agg then (if off + ti.size ≤ cells.length then some (.agg ((cells.drop off).take ti.size)) else none) else cells[off]?

def blkAt (H : Heap) (id ver : Nat) : Option Blk :=
  match H[id]? with
  | some (some b) => if b.ver = ver then some b else none
  | _ => none

def loadA (ti : TI) (H : Heap) : AV → Option AV
  | .ptr id ver off => (blkAt H id ver).bind fun b => readAt ti b.cells off
  | .lel cells off => readAt ti cells off
  | _ => none

/-- All names in it are below n. -/
inductive Nmd (n : Nat) : AV → Prop
  | undef : Nmd n .undef
  | int (k : IntKind) (x : Int) : Nmd n (.int k x)
  | bool (b : Bool) : Nmd n (.bool b)
  | str (s : ByteArray) : Nmd n (.str s)
  | nilp : Nmd n .nilp
  | ptr (id ver off : Nat) : id < n → Nmd n (.ptr id ver off)
  | lel (cells : List AV) (off : Nat) : Nmd n (.lel cells off)
  | nils : Nmd n .nils
  | sl (id ver off len cap esz : Nat) : id < n → Nmd n (.sl id ver off len cap esz)
  | lst (cells : List AV) (len : Nat) : Nmd n (.lst cells len)
  | nilf : Nmd n .nilf
  | fn (f : FuncId) (caps : List AV) : (∀ x ∈ caps, Nmd n x) → Nmd n (.fn f caps)
  | nili : Nmd n .nili
  | ifc (t : TypeId) (v : AV) : Nmd n v → Nmd n (.ifc t v)
  | agg (cells : List AV) : (∀ x ∈ cells, Nmd n x) → Nmd n (.agg cells)
  | tup (vs : List AV) : (∀ x ∈ vs, Nmd n x) → Nmd n (.tup vs)

def splice (l : List AV) (off : Nat) (vs : List AV) : List AV :=
  match vs with
  | [c] => l.set off c
  | _ => l.take off ++ vs ++ l.drop (off + vs.length)

/-- A store's effect: what may be written into block 'id' by an activation that began at 'base': into its own blocks anything, into elder ones what names no younger block. -/
def mayStore (base id : Nat) (vs : List AV) : Prop := base ≤ id ∨ ∀ x ∈ vs, Nmd (id + 1) x

def cmpI (op : BinOp) (a b : Int) : Option AV :=
  match op with
  | .eql => some (.bool (a == b))
  | .neq => some (.bool (a != b))
  | .lss => some (.bool (decide (a < b)))
  | .leq => some (.bool (decide (a ≤ b)))
  | .gtr => some (.bool (decide (a > b)))
  | .geq => some (.bool (decide (a ≥ b)))
  | _ => none

def bitsI (op : BinOp) (k : IntKind) (x y : Int) : Option AV :=
  match op with
  | .and => some (.int k (k.wrap (BitVec.ofInt k.bits x &&& BitVec.ofInt k.bits y).toNat))
  | .or => some (.int k (k.wrap (BitVec.ofInt k.bits x ||| BitVec.ofInt k.bits y).toNat))
  | .xor => some (.int k (k.wrap (BitVec.ofInt k.bits x ^^^ BitVec.ofInt k.bits y).toNat))
  | .andNot => some (.int k (k.wrap (BitVec.ofInt k.bits x &&& ~~~(BitVec.ofInt k.bits y)).toNat))
  | _ => none

def intI (op : BinOp) (k : IntKind) (a b : Int) : Option AV :=
  match op with
  | .add => some (.int k (k.wrap (a + b)))
  | .sub => some (.int k (k.wrap (a - b)))
  | .mul => some (.int k (k.wrap (a * b)))
  | .quo => if b = 0 then none else some (.int k (k.wrap (a.tdiv b)))
  | .rem => if b = 0 then none else some (.int k (a.tmod b))
  | .and | .or | .xor | .andNot => bitsI op k a b
  | .shl | .shr => none
  | _ => cmpI op a b

def shiftI (op : BinOp) (k : IntKind) (a b : Int) : Option AV :=
  if b < 0 then none else
  match op with
  | .shl => some (.int k (k.wrap (a * 2 ^ (min b.toNat k.bits))))
  | .shr => some (.int k (a.fdiv (2 ^ (min b.toNat k.bits))))
  | _ => none

/-- Is it nil? (of what may be held against nil) -/
def isNil : AV → Option Bool
  | .nilp | .nils | .nilf | .nili => some true
  | .ptr _ _ _ | .lel _ _ | .fn _ _ | .ifc _ _ => some false
  | _ => none

def allInts : List AV → List AV → Option Bool
  | [], [] => some true
  | .int k a :: r, .int k' b :: r' => if k = k' then (allInts r r').map fun t => (a == b) && t else none
  | _, _ => none

def isConst : Operand → Bool
  | .const _ => true
  | _ => false

/-- '==' of two values of a kind: bools, or one of them a nil (of two nil interface values one stands in the text). -/
def eqA (k : Option TK) (cst : Bool) : AV → AV → Option Bool
  | .bool a, .bool b => match k with | some .bool => some (a == b) | _ => none
  | .nili, .nili => match k with | some .iface => if cst then some true else none | _ => none
  | .nili, .ifc _ _ => match k with | some .iface => some false | _ => none
  | .ifc _ _, .nili => match k with | some .iface => some false | _ => none
  | .nilp, .nilp => match k with | some .ptr => some true | _ => none
  | .nilp, .ptr _ _ _ => match k with | some .ptr => some false | _ => none
  | .ptr _ _ _, .nilp => match k with | some .ptr => some false | _ => none
  | .nilf, .fn _ _ => match k with | some .fn => some false | _ => none
  | .fn _ _, .nilf => match k with | some .fn => some false | _ => none
  | .nilf, .nilf => match k with | some .fn => some true | _ => none
  | .nils, .nils => match k with | some (.slice _ _ _ _) => some true | _ => none
  | _, _ => none

def binA (k : Option TK) (cst : Bool) (op : BinOp) (x y : AV) : Option AV :=
  match op, x, y with
  | .shl, .int k a, .int _ b => shiftI .shl k a b
  | .shr, .int k a, .int _ b => shiftI .shr k a b
  | op, .int k a, .int k' b => if k = k' then intI op k a b else none
  | .eql, x, y => (eqA k cst x y).map .bool
  | .neq, x, y => (eqA k cst x y).map fun b => .bool (!b)
  | _, _, _ => none

/-- Of structs and arrays of integers alone, cell by cell. -/
def binB (E : Env) (t : TypeId) (cst : Bool) (op : BinOp) (x y : AV) : Option AV :=
  match op, x, y with
  | .eql, .agg a, .agg b => if E.flat t = some a.length then (allInts a b).map .bool else none
  | .neq, .agg a, .agg b => if E.flat t = some a.length then (allInts a b).map fun r => .bool (!r) else none
  | op, x, y => binA ((E.T t).map TI.kind) cst op x y

def unA (op : UnOp) (x : AV) : Option AV :=
  match op, x with
  | .neg, .int k n => some (.int k (k.wrap (0 - n)))
  | .xor, .int k n => bitsI .xor k (if k.signed then -1 else k.max) n
  | .not, .bool b => some (.bool !b)
  | _, _ => none

def fillA (esz : Nat) (cells : List AV) : List (Nat × AV) → Option (List AV)
  | [] => some cells
  | (i, v) :: rest =>
    match v.cells? with
    | none => none
    | some vs => if vs.length = esz ∧ i * esz + esz ≤ cells.length then fillA esz (splice cells (i * esz) vs) rest else none

def fillS (fs : List (Nat × Nat × Bool)) (cells : List AV) : List (Nat × AV) → Option (List AV)
  | [] => some cells
  | (i, v) :: rest =>
    match fs[i]?, v.cells? with
    | some (off, size, _), some vs => if vs.length = size ∧ off + size ≤ cells.length then fillS fs (splice cells off vs) rest else none
    | _, _ => none

def zeros (z : List AV) (n : Nat) : List AV := (List.replicate n z).flatten

/-- The cells of a slice's first n elements. -/
def sliceCells (H : Heap) (n esz : Nat) : AV → Option (List AV)
  | .nils => if n = 0 then some [] else none
  | .lst cells len => if n ≤ len ∧ n * esz ≤ cells.length then some (cells.take (n * esz)) else none
  | .sl id ver off len _ e => (blkAt H id ver).bind fun b => if n ≤ len ∧ e = esz ∧ off + n * esz ≤ b.cells.length then some ((b.cells.drop off).take (n * esz)) else none
  | _ => none

def mayAppend (base : Nat) (b : Builtin) (args : List AV) (H : Heap) : Prop :=
  match b, args with
  | .append, [.sl id _ _ _ _ _, x] | .copy, [.sl id _ _ _ _ _, x] => base ≤ id ∨ ∀ n esz cs, sliceCells H n esz x = some cs → ∀ y ∈ cs, Nmd (id + 1) y
  | _, _ => True

def lenA : AV → Option Nat
  | .nils => some 0
  | .lst _ len => some len
  | .sl _ _ _ len _ _ => some len
  | .str s => some s.size
  | _ => none

def maxBytes : Nat := 140737488355328

def Env.kd (E : Env) (t : TypeId) : Option TK := (E.T t).map TI.kind
def ownDst (E : Env) (f : Nat) (dst : Option Nat) : Bool := match dst with | some d => E.own f d | none => false
/-- A bound of a slice expression: what stands there, or the default. -/
def boundA (fr : Fr) (d : Int) : Option Operand → Option Int
  | none => some d
  | some o => match fr.ev o with | .int _ n => some n | _ => none

def moveA (own : Bool) (k : Option TK) (H : Heap) (v : AV) : Option (AV × Heap) :=
  match v with
  | .nils => if own then (match k with | some (.slice _ esz _ _) => some (.sl H.length 0 0 0 0 esz, H ++ [some ⟨[], 0⟩]) | _ => none) else some (.nils, H)
  | v => some (v, H)
def pickA (c a b : AV) (H : Heap) : Option (AV × Heap) :=
  match c, a, b with
  | .bool t, .bool x, .bool y => some (.bool (bif t then x else y), H)
  | .bool t, a, b => some (if t then a else b, H)
  | _, _, _ => none
def buildA (ti : TI) (parts : List (Nat × AV)) : Option AV :=
  match ti.kind with
  | .struct fs => (fillS fs ti.zero parts).map .agg
  | .array _ esz _ => (fillA esz ti.zero parts).map .agg
  | _ => none
def buildSliceA (own : Bool) (H : Heap) (k : TK) (len : Nat) (parts : List (Nat × AV)) : Option (AV × Heap) :=
  match k with
  | .slice _ esz _ ez => (if len * esz ≤ 16777216 then fillA esz (zeros ez len) parts else none).bind fun cs => if own then some (.sl H.length 0 0 len len esz, H ++ [some ⟨cs, 0⟩]) else if cs.all AV.plain then some (.lst cs len, H) else none
  | _ => none
def nilCheckA : AV → Option AV
  | .ptr id ver off => some (.ptr id ver off)
  | .lel cs off => some (.lel cs off)
  | .fn g cs => some (.fn g cs)
  | _ => none
def convertA (s d : TK) (v : AV) : Option AV :=
  match s, d, v with
  | .int _, .int k, .int _ n => some (.int k (k.wrap n))
  | _, _, _ => none
def makeInterfaceA (k : TK) (t : TypeId) (v : AV) : Option AV :=
  match k, v with
  | .iface, _ => none
  | .other, _ => none
  | _, .undef => none
  | _, v => some (.ifc t v)
def makeSliceA (H : Heap) (k : TK) (l c : AV) : Option (AV × Heap) :=
  match k, l, c with
  | .slice _ esz bytes ez, .int _ n, .int _ m => if 0 ≤ n ∧ n ≤ m ∧ m.toNat * bytes ≤ maxBytes ∧ m ≤ 9223372036854775807 ∧ ez.length = esz then some (.sl H.length 0 0 n.toNat m.toNat esz, H ++ [some ⟨zeros ez n.toNat, 0⟩]) else none
  | _, _, _ => none
def sliceLenA : AV → Int
  | .sl _ _ _ len _ _ => len
  | .lst _ len => len
  | _ => 0
def sliceA (H : Heap) (fr : Fr) (k : TK) (x : AV) (lo hi : Option Operand) : Option AV :=
  match k, x with
  | .array n esz _, .ptr id ver off => (boundA fr 0 lo).bind fun l => (boundA fr n hi).bind fun h =>
      (blkAt H id ver).bind fun b => if 0 ≤ l ∧ l ≤ h ∧ h ≤ n ∧ off + n * esz ≤ b.cells.length then (if l = h then some (.lst [] 0) else some (.sl id ver (off + l.toNat * esz) (h.toNat - l.toNat) (n - l.toNat) esz)) else none
  | .slice _ esz _ _, .sl id ver off len cap e => (boundA fr 0 lo).bind fun l => (boundA fr len hi).bind fun h =>
      if 0 ≤ l ∧ l ≤ h ∧ h ≤ len ∧ e = esz then (if l = h then some (.lst [] 0) else some (.sl id ver (off + l.toNat * esz) (h.toNat - l.toNat) (cap - l.toNat) esz)) else none
  | .slice _ esz _ _, .lst cells len => (boundA fr 0 lo).bind fun l => (boundA fr len hi).bind fun h =>
      if 0 ≤ l ∧ l ≤ h ∧ h ≤ len ∧ h.toNat * esz ≤ cells.length then (if l = h then some (.lst [] 0) else some (.lst ((cells.drop (l.toNat * esz)).take ((h.toNat - l.toNat) * esz)) (h.toNat - l.toNat))) else none
  | .slice _ _ _ _, .nils => (boundA fr 0 lo).bind fun l => (boundA fr 0 hi).bind fun h => if l = 0 ∧ h = 0 then some .nils else none
  | _, _ => none
def fieldAddrA (k : TK) (x : AV) (i : Nat) : Option AV :=
  match k, x with
  | .struct fs, .ptr id ver off => (fs[i]?).bind fun p => if p.2.1 = 0 then none else some (.ptr id ver (off + p.1))
  | .struct fs, .lel cs off => (fs[i]?).bind fun p => if p.2.1 = 0 then none else some (.lel cs (off + p.1))
  | _, _ => none
def fieldA (k : TK) (x : AV) (i : Nat) : Option AV :=
  match k, x with
  | .struct fs, .agg cs => (fs[i]?).bind fun p => if p.2.2 then (if p.1 + p.2.1 ≤ cs.length then some (.agg ((cs.drop p.1).take p.2.1)) else none) else cs[p.1]?
  | _, _ => none
def indexAddrA (k : TK) (x i : AV) : Option AV :=
  match k, x, i with
  | .array n esz _, .ptr id ver off, .int _ i => if 0 ≤ i ∧ i < n then some (.ptr id ver (off + i.toNat * esz)) else none
  | .array n esz _, .lel cs off, .int _ i => if 0 ≤ i ∧ i < n then some (.lel cs (off + i.toNat * esz)) else none
  | .slice _ esz _ _, .sl id ver off len _ e, .int _ i => if 0 ≤ i ∧ i < len ∧ e = esz then some (.ptr id ver (off + i.toNat * esz)) else none
  | .slice _ esz _ _, .lst cs len, .int _ i => if 0 ≤ i ∧ i < len then some (.lel cs (i.toNat * esz)) else none
  | _, _, _ => none
def indexA (k : TK) (x i : AV) : Option AV :=
  match k, x, i with
  | .array n esz agg, .agg cs, .int _ i => if 0 ≤ i ∧ i < n then (if agg then (if i.toNat * esz + esz ≤ cs.length then some (.agg ((cs.drop (i.toNat * esz)).take esz)) else none) else cs[i.toNat * esz]?) else none
  | .string, .str s, .int _ i => if 0 ≤ i then (s[i.toNat]?).map fun b => .int .u8 b.toNat else none
  | _, _, _ => none
def arrayAtA (k : TK) (x : AV) : Option AV :=
  match k, x with
  | .array n _ _, .lst cells len => if 0 < n ∧ n ≤ len then some (.lel cells 0) else none
  | .array n esz _, .sl id ver off len _ e => if 0 < n ∧ n ≤ len ∧ e = esz then some (.ptr id ver off) else none
  | _, _ => none
def extractA (x : AV) (i : Nat) : Option AV :=
  match x with
  | .tup vs => vs[i]?
  | _ => none

/-- Operations that carry no call. -/
def opA (E : Env) (f : Nat) (dst : Option Nat) (ty : TypeId) (fr : Fr) (H : Heap) : Op → Option (AV × Heap)
  | .move x | .assign x => moveA (ownDst E f dst) (E.kd ty) H (fr.ev x)
  | .pick c a b => pickA (fr.ev c) (fr.ev a) (fr.ev b) H
  | .alloc t => (E.T t).map fun ti => (.ptr H.length 0 0, H ++ [some ⟨ti.zero, 0⟩])
  | .box _ x => (fr.ev x).cells?.map fun cs => (.ptr H.length 0 0, H ++ [some ⟨cs, 0⟩])
  | .build t parts => (E.T t).bind fun ti => (buildA ti (parts.toList.map fun p => (p.1, fr.ev p.2))).map fun v => (v, H)
  | .buildSlice t len parts => (E.kd t).bind fun k => buildSliceA (ownDst E f dst) H k len (parts.toList.map fun p => (p.1, fr.ev p.2))
  | .load t a => (E.T t).bind fun ti => (loadA ti H (fr.ev a)).map fun v => (v, H)
  | .nilCheck x => (nilCheckA (fr.ev x)).map fun v => (v, H)
  | .binOp op t x y _ => (binB E t (isConst x || isConst y) op (fr.ev x) (fr.ev y)).map fun v => (v, H)
  | .unOp op _ x => (unA op (fr.ev x)).map fun v => (v, H)
  | .convert s d x => (E.kd s).bind fun s => (E.kd d).bind fun d => (convertA s d (fr.ev x)).map fun v => (v, H)
  | .makeInterface t x => (E.kd t).bind fun k => (makeInterfaceA k t (fr.ev x)).map fun v => (v, H)
  | .makeFunc (.func g) first captured => if first.size = 0 then some (.fn g (captured.toList.map fr.ev), H) else none
  | .makeSlice t l c => (E.kd t).bind fun k => makeSliceA H k (fr.ev l) (fr.ev c)
  | .slice t x lo hi none => (E.kd t).bind fun k => (sliceA H fr k (fr.ev x) lo hi).map fun v => (v, H)
  | .fieldAddr t x i => (E.kd t).bind fun k => (fieldAddrA k (fr.ev x) i).map fun v => (v, H)
  | .field t x i => (E.kd t).bind fun k => (fieldA k (fr.ev x) i).map fun v => (v, H)
  | .indexAddr t x i => (E.kd t).bind fun k => (indexAddrA k (fr.ev x) (fr.ev i)).map fun v => (v, H)
  | .index t x i => (E.kd t).bind fun k => (indexA k (fr.ev x) (fr.ev i)).map fun v => (v, H)
  | .sliceToArrayPointer t x => (E.kd t).bind fun k => (arrayAtA k (fr.ev x)).map fun v => (v, H)
  | .extract x i => (extractA (fr.ev x) i).map fun v => (v, H)
  | _ => none

def lenOfA (k : TK) (x : AV) : Option Nat :=
  match k, x with
  | .array n _ _, _ => some n
  | .slice _ _ _ _, .nils => some 0
  | .slice _ _ _ _, .lst _ len => some len
  | .slice _ _ _ _, .sl _ _ _ len _ _ => some len
  | .string, .str s => some s.size
  | _, _ => none
def isSliceK : TK → Bool
  | .slice _ _ _ _ => true
  | _ => false
def appendA (H : Heap) (k : TK) (s x : AV) : Option (AV × Heap) :=
  match k with
  | .slice _ esz bytes _ => (lenA x).bind fun n => (sliceCells H n esz x).bind fun cs => match s with
    | .nils => if n * bytes ≤ maxBytes ∧ n ≤ 9223372036854775807 then some (.sl H.length n 0 n n esz, H ++ [some ⟨cs, n⟩]) else none
    | .sl id ver off len _ e => (blkAt H id ver).bind fun b =>
      if off = 0 ∧ e = esz ∧ len * esz = b.cells.length ∧ (len + n) * bytes ≤ maxBytes ∧ len + n ≤ 9223372036854775807 ∧ cs.all AV.one = true then
        some (.sl id (ver + n) 0 (len + n) (len + n) esz, H.set id (some ⟨b.cells ++ cs, ver + n⟩))
      else none
    | _ => none
  | _ => none

def copyA (H : Heap) (k : TK) (d s : AV) : Option (AV × Heap) :=
  match k, d with
  | .slice _ esz _ _, .sl id ver off len _ e => (lenA s).bind fun n => (sliceCells H n esz s).bind fun cs => (blkAt H id ver).bind fun b =>
      if n ≤ len ∧ e = esz ∧ off + n * esz ≤ b.cells.length ∧ cs.all AV.one = true then some (.int .i64 n, H.set id (some ⟨b.cells.take off ++ cs ++ b.cells.drop (off + cs.length), b.ver⟩)) else none
  | _, _ => none

/-- Stores, and the builtins that are calls of the text: they may change the heap. -/
def builtinA (E : Env) (b : Builtin) (argTypes : List TypeId) (args : List AV) (H : Heap) : Option (AV × Heap) :=
  match b, args with
  | .len, [x] => ((argTypes[0]?).bind E.kd).bind fun k => (lenOfA k x).map fun n => (.int .i64 n, H)
  | .max, [.int k a, .int k' b] => if k = k' then some (.int k (max a b), H) else none
  | .min, [.int k a, .int k' b] => if k = k' then some (.int k (min a b), H) else none
  | .max, [.int k a, .int k' b, .int k'' c] => if k = k' ∧ k = k'' then some (.int k (max (max a b) c), H) else none
  | .min, [.int k a, .int k' b, .int k'' c] => if k = k' ∧ k = k'' then some (.int k (min (min a b) c), H) else none
  | .copy, [d, s] => ((argTypes[0]?).bind E.kd).bind fun k => copyA H k d s
  | .append, [s, x] => ((argTypes[0]?).bind E.kd).bind fun k => ((argTypes[1]?).bind E.kd).bind fun k2 => if isSliceK k2 then appendA H k s x else none
  | _, _ => none

/-! ### the heap changes of a store -/
def storeA (ti : TI) (H : Heap) (a v : AV) : Option (Nat × List AV × Heap) :=
  match a, v.cells? with
  | .ptr id ver off, some vs => (blkAt H id ver).bind fun b =>
    if vs.length = ti.size ∧ off + vs.length ≤ b.cells.length ∧ vs.all AV.one = true then some (id, vs, H.set id (some ⟨splice b.cells off vs, b.ver⟩)) else none
  | _, _ => none

abbrev CallRel := FuncId → List AV → Heap → AV → Heap → Prop

/-- A call, then what follows. -/
def callThen (C : CallRel) (f : FuncId) (args : List AV) (H : Heap) (K : AV → Heap → Prop) : Prop := ∃ v H', C f args H v H' ∧ K v H'

def someThen (r : Option (AV × Heap)) (K : AV → Heap → Prop) : Prop :=
  match r with
  | some (v, H) => K v H
  | none => False

def storeThen (base : Nat) (r : Option (Nat × List AV × Heap)) (K : AV → Heap → Prop) : Prop :=
  match r with
  | some (id, vs, H) => mayStore base id vs ∧ K (.tup []) H
  | none => False

def fnThen (E : Env) (C : CallRel) (g : AV) (args : List AV) (H : Heap) (K : AV → Heap → Prop) : Prop :=
  match g with
  | .fn h caps => match E.ext h (args ++ caps) with
    | some v => K v H
    | none => callThen C h (args ++ caps) H K
  | _ => False

/-- One operation that is carried out. -/
def stepA (E : Env) (C : CallRel) (f base : Nat) (o : Oper) (fr : Fr) (H : Heap) (K : AV → Heap → Prop) : Prop :=
  match o.op with
  | .call c => match c.callee with
    | .value g => fnThen E C (fr.ev g) (c.args.toList.map fr.ev) H K
    | .builtin b => mayAppend base b (c.args.toList.map fr.ev) H ∧ someThen (builtinA E b c.argTypes.toList (c.args.toList.map fr.ev) H) K
    | .invoke _ _ => False
  | .store t a x => match E.T t with
    | some ti => storeThen base (storeA ti H (fr.ev a) (fr.ev x)) K
    | none => False
  | op => someThen (opA E f o.dst o.type fr H op) K

def guardA (all : Array Oper) (fr : Fr) (g : Option (Nat × Bool)) : Option Bool :=
  match g with
  | none => some true
  | some (j, want) => match (all[j]?).bind (·.dst) with
    | some d => match fr.get d with
      | .bool b => some (b == want)
      | .tup [] => some false
      | _ => none
    | none => none

/-- An operation that carries no call of a Go function: as it is done with a heap. -/
def stepO (E : Env) (f : Nat) (o : Oper) (fr : Fr) (H : Heap) : Option (AV × Heap) :=
  match o.op with
  | .call c => match c.callee with
    | .value g => match fr.ev g with
      | .fn h caps => (E.ext h (c.args.toList.map fr.ev ++ caps)).map fun v => (v, H)
      | _ => none
    | .builtin b => builtinA E b c.argTypes.toList (c.args.toList.map fr.ev) H
    | .invoke _ _ => none
  | op => opA E f o.dst o.type fr H op
/-- What hangs on no heap: done with none. -/
def pureA (E : Env) (f : Nat) (o : Oper) (fr : Fr) : Option AV :=
  match stepO E f o fr [] with
  | some (v, []) => some v
  | _ => none
/-- A new block, the n-th. -/
def freshA (E : Env) (fr : Fr) (n : Nat) : Op → Option (AV × Blk)
  | .alloc t => (E.T t).map fun ti => (.ptr n 0 0, ⟨ti.zero, 0⟩)
  | .box _ x => (fr.ev x).cells?.map fun cs => (.ptr n 0 0, ⟨cs, 0⟩)
  | _ => none
def quietOp : Op → Bool
  | .load _ _ => true
  | .slice _ _ _ _ _ => true
  | .call c => match c.callee with | .value _ => true | _ => false
  | _ => false

/-- How an operation stands in a region: in its order; or, where the machine draws: hanging on no heap; reading it; making a block; growing a slice of its own by a list. -/
inductive Tag where
  | seq | pure | quiet | fresh | grow
  deriving DecidableEq

def growV : List AV → Bool
  | [.sl _ _ _ _ _ _, .lst _ n] => decide (0 < n)
  | _ => false
def growO (o : Op) (fr : Fr) : Bool :=
  match o with
  | .call c => match c.callee with
    | .builtin .append => growV (c.args.toList.map fr.ev)
    | _ => false
  | _ => false
def tagThen (E : Env) (C : CallRel) (f base : Nat) (o : Oper) (tag : Tag) (fr : Fr) (H : Heap) (K : AV → Heap → Prop) : Prop :=
  match tag with
  | .seq => stepA E C f base o fr H K
  | .pure => match pureA E f o fr with
    | some v => K v H
    | none => False
  | .quiet => quietOp o.op = true ∧ stepA E C f base o fr H fun v H' => H' = H ∧ K v H'
  | .fresh => match freshA E fr H.length o.op with
    | some (v, b) => K v (H ++ [some b])
    | none => False
  | .grow => growO o.op fr = true ∧ stepA E C f base o fr H K

def wpOpsA (E : Env) (C : CallRel) (f base : Nat) (all : Array Oper) : List (Oper × Tag) → Fr → Heap → (Fr → Heap → Prop) → Prop
  | [], fr, H, K => K fr H
  | (o, tag) :: rest, fr, H, K =>
    match guardA all fr o.guard with
    | some true => tagThen E C f base o tag fr H fun v H' => wpOpsA E C f base all rest (fr.put o.dst v) H' K
    | some false => wpOpsA E C f base all rest (fr.put o.dst (.tup [])) H K
    | none => False

inductive Ex where
  | normal | exit (id : Nat) | ret

def keepA (E : Env) (f id : Nat) (fr : Fr) : Fr :=
  match E.keep f id with
  | some l => fr.keep l
  | none => fr

/-- Slices that grow no more: from here on they stand as lists, and nobody writes them. -/
def frzThen (base : Nat) : List Nat → Fr → Heap → (Fr → Heap → Prop) → Prop
  | [], fr, H, K => K fr H
  | t :: ts, fr, H, K => match fr.get t with
    | .sl id ver off len _ esz => match blkAt H id ver with
      | some b => base ≤ id ∧ off + len * esz ≤ b.cells.length ∧ (∀ x ∈ b.cells, Nmd 0 x) ∧ frzThen base ts (fr.put (some t) (.lst ((b.cells.drop off).take (len * esz)) len)) (H.set id none) K
      | none => False
    | .lst _ _ => frzThen base ts fr H K
    | .nils => frzThen base ts fr H K
    | _ => False

/-- An order in which operations may be taken, each with its tag; and for each operation (by its place in the text) those that it waits for. -/
structure Cert where
  ord : List (Nat × Tag)
  waits : List (List Nat)

def directs (o : Oper) : List Nat := (o.after.toList.filter fun e => Region.binds .any e).map (·.on)
def waitsFor (D : Cert) (i j : Nat) : Bool := ((D.waits[i]?).getD []).contains j
def waitsOk (ops : Array Oper) (D : Cert) : Bool :=
  (List.range ops.size).all fun i => match ops[i]? with
    | some o => ((D.waits[i]?).getD []).all fun j => (directs o).contains j || (directs o).any fun k => decide (k < i) && waitsFor D k j
    | none => true
def tagsApart : Tag → Tag → Bool
  | .pure, _ => true
  | _, .pure => true
  | .quiet, .quiet => true
  | .quiet, .fresh => true
  | .grow, .grow => true
  | _, _ => false
def pairOk (ops : Array Oper) (D : Cert) (p q : Nat × Tag) : Bool :=
  match ops[p.1]?, ops[q.1]? with
  | some x, some y => !(directs x).contains q.1 && p.1 != q.1 && (waitsFor D q.1 p.1 || (Oper.apart ops x y && Oper.apart ops y x && tagsApart p.2 q.2))
  | _, _ => false
def pairsOk (ops : Array Oper) (D : Cert) : List (Nat × Tag) → Bool
  | [] => true
  | p :: l => l.all (pairOk ops D p) && pairsOk ops D l
def drawOk (ops : Array Oper) (D : Cert) : Bool :=
  waitsOk ops D && pairsOk ops D D.ord && ((D.ord.map (·.1)).length == ops.size) && ((List.range ops.size).all fun i => (D.ord.map (·.1)).contains i) && (D.ord.all fun p => decide (p.1 < ops.size)) &&
  ((List.range ops.size).all fun i => match ops[i]? with | some o => (directs o).all fun j => decide (j < ops.size) && j != i | none => true)

def wpA (E : Env) (C : CallRel) (f base : Nat) : Code → Fr → Heap → (Ex → Fr → Heap → Prop) → Prop
  | .skip, fr, H, K => K .normal fr H
  | .region id ops false, fr, H, K => frzThen base (E.frz f id) fr H fun fr H => wpOpsA E C f base ops (ops.toList.map fun o => (o, Tag.seq)) fr H fun fr' H' => K .normal (keepA E f id fr') H'
  | .region id ops true, fr, H, K => frzThen base (E.frz f id) fr H fun fr H => ∃ D : Cert, drawOk ops D = true ∧ wpOpsA E C f base ops (D.ord.filterMap fun p => (ops[p.1]?).map fun o => (o, p.2)) fr H fun fr' H' => K .normal (keepA E f id fr') H'
  | .seq a b, fr, H, K => wpA E C f base a fr H fun e fr' H' => match e with
    | .normal => wpA E C f base b fr' H' K
    | e => K e fr' H'
  | .cond c x y, fr, H, K => match fr.ev c with
    | .bool b => (b = true → wpA E C f base x fr H K) ∧ (b = false → wpA E C f base y fr H K)
    | _ => False
  | .block id b, fr, H, K => wpA E C f base b fr H fun e fr' H' => match e with
    | .exit id' => if id' = id then K .normal fr' H' else K (.exit id') fr' H'
    | e => K e fr' H'
  | .loop b, fr, H, K => ∀ X : Fr → Heap → Prop, (∀ fr H, wpA E C f base b fr H (fun e fr' H' => match e with
    | .normal => X fr' H'
    | e => K e fr' H') → X fr H) → X fr H
  | .exit id, fr, H, K => K (.exit id) fr H
  | .ret, fr, H, K => K .ret fr H
  | _, _, _, _ => False

/-! ### calls -/
def resA (E : Env) (fr : Fr) (H : Heap) : ResultVar → Option AV
  | .tmp t => some (fr.get t)
  | .cell a t => (E.T t).bind fun ti => loadA ti H (fr.get a)

def resultsA (E : Env) (fr : Fr) (H : Heap) (rs : List ResultVar) : Option (List AV) := rs.mapM (resA E fr H)

mutual
/-- A result leaves its call: it names no block of the call's own; or it is a slice of one, of which none is left; or it is made of such. -/
inductive Fin1 (base : Nat) (H : Heap) : AV → AV → Prop
  | same (v : AV) : Nmd base v → Fin1 base H v v
  | sl (id ver off len cap esz : Nat) (b : Blk) : base ≤ id → blkAt H id ver = some b → (∀ x ∈ b.cells, Nmd 0 x) → off + len * esz ≤ b.cells.length →
      Fin1 base H (.sl id ver off len cap esz) (.lst ((b.cells.drop off).take (len * esz)) len)
  | agg (l l' : List AV) : FinL base H l l' → Fin1 base H (.agg l) (.agg l')
inductive FinL (base : Nat) (H : Heap) : List AV → List AV → Prop
  | nil : FinL base H [] []
  | cons (v v' : AV) (l l' : List AV) : Fin1 base H v v' → FinL base H l l' → FinL base H (v :: l) (v' :: l')
end

def packA : List AV → AV
  | [v] => v
  | l => .tup l

def dstsOk (n : Nat) : Code → Bool
  | .region _ ops _ => ops.toList.all fun o => match o.dst with | some d => decide (d < n) | none => true
  | .seq a b => dstsOk n a && dstsOk n b
  | .cond _ a b => dstsOk n a && dstsOk n b
  | .block _ b => dstsOk n b
  | .loop b => dstsOk n b
  | _ => true

def fnOk (fn : Func) (c : Code) : Bool := dstsOk fn.ntmps c && !(fn.name == "runtime.NumGoroutine")

def initFr (args : List AV) : Fr := (List.range args.length).zip args

def retA (E : Env) (f base : Nat) (rs : List ResultVar) (v' : AV) (H' : Heap) (e : Ex) (fr : Fr) (H1 : Heap) : Prop :=
  (match e with | .exit _ => False | _ => True) ∧ ∃ vs, resultsA E fr H1 rs = some vs ∧
    (if E.escapes f then v' = packA vs ∧ H' = H1 else ∃ vs', FinL base H1 vs vs' ∧ v' = packA vs' ∧ H' = H1.take base)

def Step (E : Env) (C : CallRel) : CallRel := fun f args H v' H' =>
  ∃ fn c, E.P.funcs[f]? = some fn ∧ fn.body = some c ∧ fnOk fn c = true ∧ args.length ≤ fn.ntmps ∧
    wpA E C f H.length c (initFr args) H (retA E f H.length fn.results.toList v' H')

/-- The least relation that is closed under Step and holds what is given. -/
def Call (E : Env) : CallRel := fun f args H v H' => ∀ C : CallRel, (∀ f args H v H', Step E C f args H v H' → C f args H v H') → (∀ f args H v, E.given f args v → C f args H v H) → C f args H v H'

end Go.Proofs.YtimdnnlfkkkpbaaDoor
