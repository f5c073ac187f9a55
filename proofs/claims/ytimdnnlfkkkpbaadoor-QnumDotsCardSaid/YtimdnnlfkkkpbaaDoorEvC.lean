/- How the interpreter's values and heap stand for the machine's: the relation, and how it is kept. -/
import Derived.Test.YtimdnnlfkkkpbaaDoorEvB
set_option linter.unusedVariables false
set_option linter.unusedSimpArgs false
namespace Go.Proofs.YtimdnnlfkkkpbaaDoor

/-- What stands behind names: lists that nobody writes any more, by the machine's blocks; of each of the interpreter's blocks its version, and the machine's block with its number of cells. -/
structure Ctx where
  z : Nat → Option (List Value)
  m : Nat → Option (Nat × Option (Nat × Nat))

/-- What names no block of n or above is known without those. -/
def Ctx.res (c : Ctx) (n : Nat) : Ctx := { c with m := fun id => if id < n then c.m id else none }

inductive VRel : Ctx → AV → Value → Prop
  | undef {c : Ctx} (v : Value) : VRel c .undef v
  | int {c : Ctx} (k : IntKind) (n : Int) : VRel c (.int k n) (.int k n)
  | bool {c : Ctx} (b : Bool) : VRel c (.bool b) (.bool b)
  | str {c : Ctx} (s : ByteArray) : VRel c (.str s) (.string s)
  | nilp {c : Ctx} : VRel c .nilp (.pointer none)
  | nils {c : Ctx} : VRel c .nils (.slice none 0 0)
  | nilf {c : Ctx} : VRel c .nilf .nilFunc
  | nili {c : Ctx} : VRel c .nili .nilIface
  | ptr {c : Ctx} (id ver off b sz : Nat) : c.m id = some (ver, some (b, sz)) → VRel c (.ptr id ver off) (.pointer (some ⟨b, off, none⟩))
  | ptrOld {c : Ctx} (id ver off ver' : Nat) (bk : Option (Nat × Nat)) (b : Nat) : c.m id = some (ver', bk) → ver < ver' → VRel c (.ptr id ver off) (.pointer (some ⟨b, off, none⟩))
  | lel {c : Ctx} (cells : List AV) (off b o : Nat) (cs : List Value) : c.z b = some cs → o + cells.length ≤ cs.length →
      (∀ i, i < cells.length → VRel (c.res 0) (cells.getD i .undef) (cs.getD (o + i) undef)) → VRel c (.lel cells off) (.pointer (some ⟨b, o + off, none⟩))
  | sl {c : Ctx} (id ver off len cap esz b sz cap' : Nat) : c.m id = some (ver, some (b, sz)) → cap ≤ cap' → len ≤ cap → off + cap' * esz ≤ sz → VRel c (.sl id ver off len cap esz) (.slice (some ⟨b, off, none⟩) len cap')
  | slNone {c : Ctx} (id ver esz : Nat) : c.m id = some (ver, none) → VRel c (.sl id ver 0 0 0 esz) (.slice none 0 0)
  | slOld {c : Ctx} (id ver off len cap esz ver' : Nat) (bk : Option (Nat × Nat)) (b cap' : Nat) : c.m id = some (ver', bk) → ver < ver' → cap ≤ cap' → len ≤ cap → VRel c (.sl id ver off len cap esz) (.slice (some ⟨b, off, none⟩) len cap')
  | slOldNone {c : Ctx} (id ver esz ver' : Nat) (bk : Option (Nat × Nat)) : c.m id = some (ver', bk) → ver < ver' → VRel c (.sl id ver 0 0 0 esz) (.slice none 0 0)
  | lst {c : Ctx} (cells : List AV) (len b o cap : Nat) (cs : List Value) : len ≤ cap → c.z b = some cs → o + cells.length ≤ cs.length →
      (∀ i, i < cells.length → VRel (c.res 0) (cells.getD i .undef) (cs.getD (o + i) undef)) → VRel c (.lst cells len) (.slice (some ⟨b, o, none⟩) len cap)
  | lst0 {c : Ctx} (a : Option Addr) (cap : Nat) : VRel c (.lst [] 0) (.slice a 0 cap)
  | fn {c : Ctx} (f : FuncId) (caps : List AV) (caps' : List Value) : caps.length = caps'.length → (∀ i, i < caps.length → VRel c (caps.getD i .undef) (caps'.getD i undef)) → VRel c (.fn f caps) (.func (.func f) #[] caps'.toArray)
  | ifc {c : Ctx} (t : TypeId) (v : AV) (x : Value) : VRel c v x → VRel c (.ifc t v) (.iface t x)
  | agg {c : Ctx} (cells : List AV) (cs : List Value) : cells.length = cs.length → (∀ i, i < cells.length → VRel c (cells.getD i .undef) (cs.getD i undef)) → VRel c (.agg cells) (.agg cs.toArray)
  | tup {c : Ctx} (vs : List AV) (xs : List Value) : vs.length = xs.length → (∀ i, i < vs.length → VRel c (vs.getD i .undef) (xs.getD i undef)) → VRel c (.tup vs) (.tuple xs.toArray)

/-- Lists, one by one. -/
def LRel (c : Ctx) (l : List AV) (l' : List Value) : Prop := l.length = l'.length ∧ ∀ i, i < l.length → VRel c (l.getD i .undef) (l'.getD i undef)

theorem LRel.nil {c : Ctx} : LRel c [] [] := ⟨rfl, fun i h => by simp at h⟩
theorem LRel.cons {c : Ctx} {v : AV} {x : Value} {l : List AV} {l' : List Value} (h : VRel c v x) (hl : LRel c l l') : LRel c (v :: l) (x :: l') := by
  refine ⟨by simp [hl.1], fun i hi => ?_⟩
  cases i with
  | zero => simpa using h
  | succ i => simpa using hl.2 i (by simpa using hi)
theorem LRel.head {c : Ctx} {v : AV} {l : List AV} {l' : List Value} (h : LRel c (v :: l) l') : ∃ x r, l' = x :: r ∧ VRel c v x ∧ LRel c l r := by
  cases l' with
  | nil => exact absurd h.1 (by simp)
  | cons x r =>
    refine ⟨x, r, rfl, by simpa using h.2 0 (by simp), by simpa using h.1, fun i hi => ?_⟩
    simpa using h.2 (i + 1) (by simpa using hi)
theorem LRel.get {c : Ctx} {l : List AV} {l' : List Value} (h : LRel c l l') {i : Nat} {v : AV} (hi : l[i]? = some v) : ∃ x, l'[i]? = some x ∧ VRel c v x := by
  have hlt : i < l.length := (List.getElem?_eq_some_iff.1 hi).1
  have hlt' : i < l'.length := h.1 ▸ hlt
  refine ⟨l'[i], List.getElem?_eq_getElem hlt', ?_⟩
  have := h.2 i hlt
  simp only [List.getD_eq_getElem?_getD, hi, List.getElem?_eq_getElem hlt', Option.getD_some] at this
  exact this
theorem LRel.append {c : Ctx} {l r : List AV} {l' r' : List Value} (h : LRel c l l') (hr : LRel c r r') : LRel c (l ++ r) (l' ++ r') := by
  induction l generalizing l' with
  | nil => cases l' with
    | nil => simpa using hr
    | cons x t => exact absurd h.1 (by simp)
  | cons v l ih =>
    obtain ⟨x, t, rfl, hx, ht⟩ := h.head
    exact LRel.cons hx (ih ht)
theorem LRel.take {c : Ctx} {l : List AV} {l' : List Value} (h : LRel c l l') (n : Nat) : LRel c (l.take n) (l'.take n) := by
  refine ⟨by simp [h.1], fun i hi => ?_⟩
  have hi' : i < n ∧ i < l.length := by simp at hi; omega
  have := h.2 i hi'.2
  simpa [List.getD_eq_getElem?_getD, List.getElem?_take, hi'.1] using this
theorem LRel.drop {c : Ctx} {l : List AV} {l' : List Value} (h : LRel c l l') (n : Nat) : LRel c (l.drop n) (l'.drop n) := by
  refine ⟨by simp [h.1], fun i hi => ?_⟩
  have hi' : n + i < l.length := by have : i < l.length - n := by simpa using hi
                                    omega
  have := h.2 (n + i) hi'
  simpa [List.getD_eq_getElem?_getD] using this
theorem LRel.set {c : Ctx} {l : List AV} {l' : List Value} (h : LRel c l l') {v : AV} {x : Value} (hv : VRel c v x) (n : Nat) : LRel c (l.set n v) (l'.set n x) := by
  refine ⟨by simp [h.1], fun i hi => ?_⟩
  have hi' : i < l.length := by simpa using hi
  have hi2 : i < l'.length := h.1 ▸ hi'
  by_cases e : n = i
  · subst e; simpa [List.getD_eq_getElem?_getD, hi', hi2] using hv
  · simpa [List.getD_eq_getElem?_getD, e] using h.2 i hi'
theorem LRel.map {c : Ctx} {α : Type} (l : List α) {g : α → AV} {g' : α → Value} (h : ∀ a ∈ l, VRel c (g a) (g' a)) : LRel c (l.map g) (l.map g') := by
  induction l with
  | nil => exact .nil
  | cons a l ih => exact .cons (h a (by simp)) (ih fun b hb => h b (by simp [hb]))
theorem LRel.replicate {c : Ctx} {v : AV} {x : Value} (h : VRel c v x) (n : Nat) : LRel c (List.replicate n v) (List.replicate n x) := by
  refine ⟨by simp, fun i hi => ?_⟩
  have : i < n := by simpa using hi
  simpa [List.getD_eq_getElem?_getD, this] using h
/-- A part of the machine's longer list, read as one. -/
theorem LRel.of_window {c : Ctx} {cells : List AV} {cs : List Value} {o : Nat} (h : o + cells.length ≤ cs.length) (hr : ∀ i, i < cells.length → VRel c (cells.getD i .undef) (cs.getD (o + i) undef)) :
    LRel c cells ((cs.drop o).take cells.length) := by
  refine ⟨by simp; omega, fun i hi => ?_⟩
  have := hr i hi
  simpa [List.getD_eq_getElem?_getD, List.getElem?_take, hi] using this
theorem LRel.window {c : Ctx} {cells : List AV} {cs : List Value} {o : Nat} (hr : LRel c cells ((cs.drop o).take cells.length)) :
    ∀ i, i < cells.length → VRel c (cells.getD i .undef) (cs.getD (o + i) undef) := by
  intro i hi
  have := hr.2 i hi
  simpa [List.getD_eq_getElem?_getD, List.getElem?_take, hi] using this

theorem VRel.agg' {c : Ctx} {l : List AV} {l' : List Value} (h : LRel c l l') : VRel c (.agg l) (.agg l'.toArray) := .agg l l' h.1 h.2
theorem VRel.tup' {c : Ctx} {l : List AV} {l' : List Value} (h : LRel c l l') : VRel c (.tup l) (.tuple l'.toArray) := .tup l l' h.1 h.2
theorem VRel.fn' {c : Ctx} {f : FuncId} {l : List AV} {l' : List Value} (h : LRel c l l') : VRel c (.fn f l) (.func (.func f) #[] l'.toArray) := .fn f l l' h.1 h.2

/-- What is known later of what was known. -/
structure Ext (c c' : Ctx) : Prop where
  z : ∀ b cs, c.z b = some cs → c'.z b = some cs
  m : ∀ id ver bk, c.m id = some (ver, bk) → ∃ ver' bk', c'.m id = some (ver', bk') ∧ ((ver' = ver ∧ bk' = bk) ∨ ver < ver')
theorem Ext.refl (c : Ctx) : Ext c c := ⟨fun _ _ h => h, fun _ ver bk h => ⟨ver, bk, h, .inl ⟨rfl, rfl⟩⟩⟩
theorem Ext.trans {a b c : Ctx} (h : Ext a b) (h' : Ext b c) : Ext a c := by
  refine ⟨fun x cs hx => h'.z _ _ (h.z _ _ hx), fun id ver bk hm => ?_⟩
  obtain ⟨v1, b1, h1, h2⟩ := h.m _ _ _ hm
  obtain ⟨v2, b2, h3, h4⟩ := h'.m _ _ _ h1
  refine ⟨v2, b2, h3, ?_⟩
  rcases h2 with ⟨rfl, rfl⟩ | h2 <;> rcases h4 with ⟨rfl, rfl⟩ | h4
  · exact .inl ⟨rfl, rfl⟩
  · exact .inr h4
  · exact .inr h2
  · exact .inr (by omega)

theorem Ctx.res_res (c : Ctx) (n k : Nat) (h : k ≤ n) : (c.res n).res k = c.res k := by
  unfold Ctx.res
  congr 1
  funext id
  by_cases h1 : id < k
  · simp [h1, show id < n by omega]
  · simp [h1]
theorem Ext.res0 {c c' : Ctx} (h : ∀ b cs, c.z b = some cs → c'.z b = some cs) : Ext (c.res 0) (c'.res 0) := ⟨h, fun id ver bk hm => by simp [Ctx.res] at hm⟩

theorem VRel.mono {c c' : Ctx} (hx : Ext c c') {v : AV} {x : Value} (h : VRel c v x) : VRel c' v x := by
  induction h generalizing c' with
  | undef v => exact .undef v
  | int k n => exact .int k n
  | bool b => exact .bool b
  | str s => exact .str s
  | nilp => exact .nilp
  | nils => exact .nils
  | nilf => exact .nilf
  | nili => exact .nili
  | ptr id ver off b sz h =>
    obtain ⟨v', b', h1, ⟨rfl, rfl⟩ | h2⟩ := hx.m _ _ _ h
    · exact .ptr _ _ _ _ _ h1
    · exact .ptrOld _ _ _ _ _ _ h1 h2
  | ptrOld id ver off ver' bk v h hl =>
    obtain ⟨v', b', h1, ⟨rfl, rfl⟩ | h2⟩ := hx.m _ _ _ h
    · exact .ptrOld _ _ _ _ _ _ h1 hl
    · exact .ptrOld _ _ _ _ _ _ h1 (by omega)
  | lel cells off b o cs h hl _ ih => exact .lel _ _ _ _ _ (hx.z _ _ h) hl fun i hi => ih i hi (.res0 hx.z)
  | sl id ver off len cap esz b sz cap' h hc hl ho =>
    obtain ⟨v', b', h1, ⟨rfl, rfl⟩ | h2⟩ := hx.m _ _ _ h
    · exact .sl _ _ _ _ _ _ _ _ _ h1 hc hl ho
    · exact .slOld _ _ _ _ _ _ _ _ _ _ h1 h2 hc hl
  | slNone id ver esz h =>
    obtain ⟨v', b', h1, ⟨rfl, rfl⟩ | h2⟩ := hx.m _ _ _ h
    · exact .slNone _ _ _ h1
    · exact .slOldNone _ _ _ _ _ h1 h2
  | slOld id ver off len cap esz ver' bk p k h hl hc hle =>
    obtain ⟨v', b', h1, ⟨rfl, rfl⟩ | h2⟩ := hx.m _ _ _ h
    · exact .slOld _ _ _ _ _ _ _ _ _ _ h1 hl hc hle
    · exact .slOld _ _ _ _ _ _ _ _ _ _ h1 (by omega) hc hle
  | slOldNone id ver esz ver' bk h hl =>
    obtain ⟨v', b', h1, ⟨rfl, rfl⟩ | h2⟩ := hx.m _ _ _ h
    · exact .slOldNone _ _ _ _ _ h1 hl
    · exact .slOldNone _ _ _ _ _ h1 (by omega)
  | lst cells len b o cap cs hcap h hl _ ih => exact .lst _ _ _ _ _ _ hcap (hx.z _ _ h) hl fun i hi => ih i hi (.res0 hx.z)
  | lst0 a cap => exact .lst0 a cap
  | fn f caps caps' hl _ ih => exact .fn _ _ _ hl fun i hi => ih i hi hx
  | ifc t v x _ ih => exact .ifc _ _ _ (ih hx)
  | agg cells cs hl _ ih => exact .agg _ _ hl fun i hi => ih i hi hx
  | tup vs xs hl _ ih => exact .tup _ _ hl fun i hi => ih i hi hx
theorem LRel.mono {c c' : Ctx} (hx : Ext c c') {l : List AV} {l' : List Value} (h : LRel c l l') : LRel c' l l' := ⟨h.1, fun i hi => (h.2 i hi).mono hx⟩

theorem getD_mem {α : Type} {l : List α} {i : Nat} {d : α} (h : i < l.length) : l.getD i d ∈ l := by
  rw [List.getD_eq_getElem?_getD, List.getElem?_eq_getElem h]; exact List.getElem_mem h

/-- What names no block of n or above is known by the others alone. -/
theorem VRel.res {c : Ctx} {n : Nat} {v : AV} {x : Value} (h : VRel c v x) (hb : Nmd n v) : VRel (c.res n) v x := by
  induction h with
  | undef v => exact .undef v
  | int k n => exact .int k n
  | bool b => exact .bool b
  | str s => exact .str s
  | nilp => exact .nilp
  | nils => exact .nils
  | nilf => exact .nilf
  | nili => exact .nili
  | ptr id ver off b sz h =>
    cases hb with | ptr _ _ _ hlt => exact .ptr _ _ _ _ _ (by simpa [Ctx.res, hlt] using h)
  | ptrOld id ver off ver' bk v h hl =>
    cases hb with | ptr _ _ _ hlt => exact .ptrOld _ _ _ _ _ _ (by simpa [Ctx.res, hlt] using h) hl
  | @lel c cells off b o cs h hl hr ih => exact .lel _ _ _ _ _ h hl fun i hi => by rw [Ctx.res_res _ _ _ (by omega)]; exact hr i hi
  | sl id ver off len cap esz b sz cap' h hc hl ho =>
    cases hb with | sl _ _ _ _ _ _ hlt => exact .sl _ _ _ _ _ _ _ _ _ (by simpa [Ctx.res, hlt] using h) hc hl ho
  | slNone id ver esz h =>
    cases hb with | sl _ _ _ _ _ _ hlt => exact .slNone _ _ _ (by simpa [Ctx.res, hlt] using h)
  | slOld id ver off len cap esz ver' bk p k h hl hc hle =>
    cases hb with | sl _ _ _ _ _ _ hlt => exact .slOld _ _ _ _ _ _ _ _ _ _ (by simpa [Ctx.res, hlt] using h) hl hc hle
  | slOldNone id ver esz ver' bk h hl =>
    cases hb with | sl _ _ _ _ _ _ hlt => exact .slOldNone _ _ _ _ _ (by simpa [Ctx.res, hlt] using h) hl
  | @lst c cells len b o cap cs hcap h hl hr ih => exact .lst _ _ _ _ _ _ hcap h hl fun i hi => by rw [Ctx.res_res _ _ _ (by omega)]; exact hr i hi
  | lst0 a cap => exact .lst0 a cap
  | fn f caps caps' hl _ ih =>
    cases hb with | fn _ _ hx => exact .fn _ _ _ hl fun i hi => ih i hi (hx _ (getD_mem hi))
  | ifc t v x _ ih =>
    cases hb with | ifc _ _ hx => exact .ifc _ _ _ (ih hx)
  | agg cells cs hl _ ih =>
    cases hb with | agg _ hx => exact .agg _ _ hl fun i hi => ih i hi (hx _ (getD_mem hi))
  | tup vs xs hl _ ih =>
    cases hb with | tup _ hx => exact .tup _ _ hl fun i hi => ih i hi (hx _ (getD_mem hi))

theorem mem_getD {α : Type} {l : List α} {x : α} (h : x ∈ l) (d : α) : ∃ i, i < l.length ∧ l.getD i d = x := by
  obtain ⟨i, hi, e⟩ := List.getElem_of_mem h
  exact ⟨i, hi, by rw [List.getD_eq_getElem?_getD, List.getElem?_eq_getElem hi]; exact e⟩

/-- What is known names known blocks alone. -/
theorem VRel.names {c : Ctx} {n : Nat} (hn : ∀ id p, c.m id = some p → id < n) {v : AV} {x : Value} (h : VRel c v x) : Nmd n v := by
  induction h with
  | undef v => exact .undef
  | int k n => exact .int k n
  | bool b => exact .bool b
  | str s => exact .str s
  | nilp => exact .nilp
  | nils => exact .nils
  | nilf => exact .nilf
  | nili => exact .nili
  | ptr id ver off b sz h => exact .ptr _ _ _ (hn _ _ h)
  | ptrOld id ver off ver' bk v h hl => exact .ptr _ _ _ (hn _ _ h)
  | lel cells off b o cs h hl _ ih => exact .lel _ _
  | sl id ver off len cap esz b sz cap' h hc hl ho => exact .sl _ _ _ _ _ _ (hn _ _ h)
  | slNone id ver esz h => exact .sl _ _ _ _ _ _ (hn _ _ h)
  | slOld id ver off len cap esz ver' bk p k h hl hc hle => exact .sl _ _ _ _ _ _ (hn _ _ h)
  | slOldNone id ver esz ver' bk h hl => exact .sl _ _ _ _ _ _ (hn _ _ h)
  | lst cells len b o cap cs hcap h hl _ ih => exact .lst _ _
  | lst0 a cap => exact .lst _ _
  | fn f caps caps' hl _ ih => exact .fn _ _ fun x hx => by obtain ⟨i, hi, e⟩ := mem_getD hx .undef; exact e ▸ ih i hi hn
  | ifc t v x _ ih => exact .ifc _ _ (ih hn)
  | agg cells cs hl _ ih => exact .agg _ fun x hx => by obtain ⟨i, hi, e⟩ := mem_getD hx .undef; exact e ▸ ih i hi hn
  | tup vs xs hl _ ih => exact .tup _ fun x hx => by obtain ⟨i, hi, e⟩ := mem_getD hx .undef; exact e ▸ ih i hi hn
theorem Nmd.mono {n k : Nat} (h : n ≤ k) {v : AV} (hb : Nmd n v) : Nmd k v := by
  induction hb with
  | ptr id ver off hl => exact .ptr _ _ _ (by omega)
  | sl id ver off len cap esz hl => exact .sl _ _ _ _ _ _ (by omega)
  | fn f caps _ ih => exact .fn _ _ ih
  | ifc t v _ ih => exact .ifc _ _ ih
  | agg cells _ ih => exact .agg _ ih
  | tup vs _ ih => exact .tup _ ih
  | undef => exact .undef
  | int k n => exact .int k n
  | bool b => exact .bool b
  | str s => exact .str s
  | nilp => exact .nilp
  | nils => exact .nils
  | nilf => exact .nilf
  | nili => exact .nili
  | lel cells off => exact .lel _ _
  | lst cells len => exact .lst _ _

/-! ### memory -/
def BRel (c : Ctx) (w : World) (b : Blk) : Option (Nat × Nat) → Prop
  | none => b.cells = []
  | some (k, sz) => ∃ cs T, w.heap[k]? = some (.cells cs T (0, 0)) ∧ cs.size = sz ∧ b.cells.length ≤ sz ∧ LRel c b.cells (cs.toList.take b.cells.length)

def liveAt (H : Heap) (id : Nat) (b : Blk) : Prop := H[id]? = some (some b)

/-- Variables of the program's own that keep what the text laid: by their blocks. -/
def GLOB : Nat → Option (List Value) := fun b => if b = 0 then some [.iface 146 (.agg #[.pointer (some ⟨3, 25, none⟩)])] else none
structure Sim (c : Ctx) (H : Heap) (w : World) : Prop where
  dom : ∀ id p, c.m id = some p → id < H.length
  blk : ∀ id b, liveAt H id b → ∃ bk, c.m id = some (b.ver, bk) ∧ BRel c w b bk
  inj : ∀ id id' v v' b s s', c.m id = some (v, some (b, s)) → c.m id' = some (v', some (b, s')) → id = id'
  disj : ∀ id v b s, c.m id = some (v, some (b, s)) → c.z b = none
  bnd : ∀ id v b s, c.m id = some (v, some (b, s)) → b < w.heap.size
  froz : ∀ b cs, c.z b = some cs → ∃ T fz, w.heap[b]? = some (.cells cs.toArray T fz)
  glob : ∀ b cs, GLOB b = some cs → c.z b = some cs

def Owned (c : Ctx) (k : Nat) : Prop := ∃ id v s, c.m id = some (v, some (k, s))

/-- Elder blocks name no younger ones: of those below n. -/
def HClosed (n : Nat) (H : Heap) : Prop := ∀ id b, liveAt H id b → id < n → ∀ x ∈ b.cells, Nmd n x

/-- The machine's world is otherwise as it was. -/
def Alike (w w' : World) : Prop := w'.os = w.os ∧ w'.tape = w.tape ∧ w'.output = w.output
theorem Alike.refl (w : World) : Alike w w := ⟨rfl, rfl, rfl⟩
theorem Alike.trans {a b c : World} (h : Alike a b) (k : Alike b c) : Alike a c := ⟨k.1.trans h.1, k.2.1.trans h.2.1, k.2.2.trans h.2.2⟩

structure Trans (base : Nat) (c : Ctx) (H : Heap) (w : World) (c' : Ctx) (H' : Heap) (w' : World) : Prop where
  ext : Ext c c'
  sim : Sim c' H' w'
  grow : w.heap.size ≤ w'.heap.size
  unch : ∀ b, b < w.heap.size → ¬ Owned c b → w'.heap[b]? = w.heap[b]?
  back : ∀ b, Owned c' b → Owned c b ∨ w.heap.size ≤ b
  zback : ∀ b cs, c'.z b = some cs → c.z b = some cs ∨ Owned c b ∨ w.heap.size ≤ b
  len : H.length ≤ H'.length
  closed : ∀ n, n ≤ base → HClosed n H → HClosed n H'
  alike : Alike w w'

theorem Trans.refl {base : Nat} {c : Ctx} {H : Heap} {w : World} (h : Sim c H w) : Trans base c H w c H w :=
  ⟨.refl c, h, Nat.le_refl _, fun _ _ _ => rfl, fun _ h => .inl h, fun _ _ h => .inl h, Nat.le_refl _, fun _ _ h => h, .refl w⟩
theorem Trans.trans {base : Nat} {c0 c1 c2 : Ctx} {H0 H1 H2 : Heap} {w0 w1 w2 : World} (h : Trans base c0 H0 w0 c1 H1 w1) (h' : Trans base c1 H1 w1 c2 H2 w2) : Trans base c0 H0 w0 c2 H2 w2 := by
  refine ⟨h.ext.trans h'.ext, h'.sim, Nat.le_trans h.grow h'.grow, fun b hb hn => ?_, fun b hb => ?_, fun b cs hz => ?_, Nat.le_trans h.len h'.len, fun n hn hc => h'.closed n hn (h.closed n hn hc), h.alike.trans h'.alike⟩
  · rw [h'.unch b (Nat.lt_of_lt_of_le hb h.grow) fun ho => ?_, h.unch b hb hn]
    rcases h.back b ho with h1 | h1
    · exact hn h1
    · omega
  · rcases h'.back b hb with h1 | h1
    · exact h.back b h1
    · exact .inr (Nat.le_trans h.grow h1)
  · rcases h'.zback b cs hz with h1 | h1 | h1
    · exact h.zback b cs h1
    · exact .inr (h.back b h1)
    · exact .inr (.inr (Nat.le_trans h.grow h1))
end Go.Proofs.YtimdnnlfkkkpbaaDoor
