/- What each operation does on the machine, by what the interpreter says of it: types, frames, memory. -/
import Derived.Test.YtimdnnlfkkkpbaaDoorEvC
import Derived.Laws.Rows
import Derived.Laws.CopyRow
import Derived.Laws.Append
import Derived.Laws.AppendOwn
import Derived.Laws.MakeOwn
import Derived.Laws.Slices
import Derived.Laws.Small
set_option linter.unusedVariables false
set_option linter.unusedSimpArgs false
namespace Go.Proofs.YtimdnnlfkkkpbaaDoor

/-! ### types -/
def zOk : List AV → List Value → Bool
  | [], [] => true
  | .int k n :: r, .int k' n' :: r' => k == k' && n == n' && zOk r r'
  | .bool b :: r, .bool b' :: r' => b == b' && zOk r r'
  | .str s :: r, .string s' :: r' => s.data.toList == s'.data.toList && zOk r r'
  | .nilp :: r, .pointer none :: r' => zOk r r'
  | .nils :: r, .slice none 0 0 :: r' => zOk r r'
  | .nilf :: r, .nilFunc :: r' => zOk r r'
  | .nili :: r, .nilIface :: r' => zOk r r'
  | _, _ => false
def isAggD : TypeDesc → Bool
  | .struct _ => true
  | .array _ _ => true
  | _ => false
def elemOk (P : Program) (e esz : Nat) : Bool := match P.info? e with
  | some i => i.size == esz
  | none => false
def aggOk (P : Program) (e : Nat) (ag : Bool) : Bool := match P.underlying e with
  | some d => isAggD d == ag
  | none => false
def fieldsOk (P : Program) : List (Nat × Nat × Bool) → List Field → Bool
  | [], [] => true
  | (off, size, ag) :: r, f :: r' => f.offset == off && elemOk P f.type size && aggOk P f.type ag && fieldsOk P r r'
  | _, _ => false
def kindOk (P : Program) : TK → TypeDesc → Bool
  | .bool, .bool => true
  | .int k, .int k' => k == k'
  | .string, .string => true
  | .slice e esz eb ez, .slice e' => e == e' && (match P.info? e with
    | some i => i.size == esz && i.bytes == eb && (match i.zero with | some z => zOk ez z.cells.toList && z.cells.size == esz | none => false)
    | none => false)
  | .array n esz ag, .array n' e => n == n' && elemOk P e esz && aggOk P e ag && (ag || esz == 1)
  | .struct fs, .struct fields => fieldsOk P fs fields.toList
  | .iface, .interface _ => true
  | .ptr, .pointer _ => true
  | .fn, .func _ _ _ => true
  | _, _ => false
def tyOk (P : Program) (t : TypeId) (ti : TI) : Bool :=
  match P.info? t, P.underlying t with
  | some i, some d => i.size == ti.size && (match i.zero with | some z => zOk ti.zero z.cells.toList && z.cells.size == ti.size | none => false) && isAggD d == ti.agg && kindOk P ti.kind d
  | _, _ => false

theorem zOk_rel {c : Ctx} : ∀ (l : List AV) (l' : List Value), zOk l l' = true → LRel c l l'
  | [], [], _ => .nil
  | .int k n :: r, .int k' n' :: r', h => by
    simp only [zOk, Bool.and_eq_true, beq_iff_eq] at h; obtain ⟨⟨rfl, rfl⟩, h⟩ := h; exact .cons (.int _ _) (zOk_rel r r' h)
  | .bool b :: r, .bool b' :: r', h => by
    simp only [zOk, Bool.and_eq_true, beq_iff_eq] at h; obtain ⟨rfl, h⟩ := h; exact .cons (.bool _) (zOk_rel r r' h)
  | .str s :: r, .string s' :: r', h => by
    simp only [zOk, Bool.and_eq_true, beq_iff_eq] at h; obtain ⟨h0, h⟩ := h
    have : s = s' := by cases s; cases s'; simp only [ByteArray.mk.injEq]; exact Array.ext' h0
    subst this
    exact .cons (.str _) (zOk_rel r r' h)
  | .nilp :: r, .pointer none :: r', h => .cons .nilp (zOk_rel r r' (by simpa [zOk] using h))
  | .nils :: r, .slice none 0 0 :: r', h => .cons .nils (zOk_rel r r' (by simpa [zOk] using h))
  | .nilf :: r, .nilFunc :: r', h => .cons .nilf (zOk_rel r r' (by simpa [zOk] using h))
  | .nili :: r, .nilIface :: r', h => .cons .nili (zOk_rel r r' (by simpa [zOk] using h))

theorem tyOk_spec {P : Program} {t : TypeId} {ti : TI} (h : tyOk P t ti = true) :
    ∃ i d z, P.info? t = some i ∧ P.underlying t = some d ∧ i.size = ti.size ∧ i.zero = some z ∧ zOk ti.zero z.cells.toList = true ∧ z.cells.size = ti.size ∧ isAggD d = ti.agg ∧ kindOk P ti.kind d = true := by
  unfold tyOk at h
  split at h
  · rename_i i d hi hd
    cases hz : i.zero with
    | none => simp [hz] at h
    | some z =>
      simp only [hz, Bool.and_eq_true, beq_iff_eq] at h
      exact ⟨i, d, z, hi, hd, h.1.1.1, hz, h.1.1.2.1, h.1.1.2.2, h.1.2, h.2⟩
  · cases h

/-- A type of n cells, of integers alone, that '==' compares one by one. -/
def flatFs (P : Program) (ok : TypeId → Nat → Bool) : List Field → Nat → Nat → Bool
  | [], o, n => o == n
  | f :: fs, o, n => f.name != "_" && f.offset == o && (match P.info? f.type with | some i => ok f.type i.size && flatFs P ok fs (o + i.size) n | none => false)
def flatOk (P : Program) : Nat → TypeId → Nat → Bool
  | 0, _, _ => false
  | d + 1, t, n => match P.underlying t, P.info? t with
    | some (.int _), some i => n == 1 && i.size == 1
    | some (.struct fs), some i => !P.stoodInHeld t && i.size == n && flatFs P (flatOk P d) fs.toList 0 n
    | some (.array len e), some i => i.size == n && (match P.info? e with | some j => flatOk P d e j.size && j.size == P.cellsOf e && len * j.size == n | none => false)
    | _, _ => false
def flatAt (P : Program) (t : TypeId) (n : Nat) : Bool := match P.info? t with
  | some i => i.size == n && flatOk P 20 t i.size && !P.eqGuardType P.depth t && (match P.underlying t with | some (.struct _) | some (.array _ _) => true | _ => false)
  | none => false

/-- The environment tells the truth of the program. -/
structure EnvOk (E : Env) : Prop where
  ty : ∀ t ti, E.T t = some ti → tyOk E.P t ti = true
  ext : ∀ f args v, E.ext f args = some v → ∀ c cargs w, LRel c args cargs → ∃ x, (callFunc f cargs.toArray).run E.P w = .ok (.value x) w ∧ VRel c v x
  mixed : E.P.follows .mixedOrders = true
  flat : ∀ t n, E.flat t = some n → flatAt E.P t n = true

/-! ### frames -/
structure FRel (c : Ctx) (n : Nat) (fr : Fr) (a : Act) : Prop where
  size : a.tmps.size = n
  rel : ∀ t, VRel c (fr.get t) (a.tmps.getD t undef)
  defers : a.defers = []

theorem FRel.mono {c c' : Ctx} (hx : Ext c c') {n : Nat} {fr : Fr} {a : Act} (h : FRel c n fr a) : FRel c' n fr a := ⟨h.size, fun t => (h.rel t).mono hx, h.defers⟩
theorem FRel.put {c : Ctx} {n : Nat} {fr : Fr} {a : Act} (h : FRel c n fr a) {dst : Option Nat} (hd : ∀ d, dst = some d → d < n) {v : AV} {x : Value} (hv : VRel c v x) : FRel c n (fr.put dst v) (a.put dst x) := by
  cases dst with
  | none => exact h
  | some d =>
    refine ⟨by simp [Act.put, h.size], fun t => ?_, by simp [Act.put, h.defers]⟩
    have hd' : d < a.tmps.size := by rw [h.size]; exact hd d rfl
    simp only [Fr.put, Fr.get, Act.put]
    by_cases e : t = d
    · subst e
      simp only [if_true]
      simpa [Array.getD_eq_getD_getElem?, hd'] using hv
    · rw [if_neg e]
      have := h.rel t
      simpa [Array.getD_eq_getD_getElem?, Array.getElem?_setIfInBounds_ne (Ne.symm e)] using this
theorem Fr.get_keep (fr : Fr) (l : List Nat) (t : Nat) : (fr.keep l).get t = .undef ∨ (fr.keep l).get t = fr.get t := by
  unfold Fr.keep
  induction l with
  | nil => exact .inl rfl
  | cons d l ih =>
    simp only [List.map_cons, Fr.get]
    by_cases e : t = d
    · subst e; exact .inr (by simp)
    · rw [if_neg e]; exact ih
theorem FRel.keep {E : Env} {f id : Nat} {c : Ctx} {n : Nat} {fr : Fr} {a : Act} (h : FRel c n fr a) : FRel c n (keepA E f id fr) a := by
  unfold keepA
  split
  · rename_i l _
    refine ⟨h.size, fun t => ?_, h.defers⟩
    rcases Fr.get_keep fr l t with e | e
    · rw [e]; exact .undef _
    · rw [e]; exact h.rel t
  · exact h
theorem ofConst_rel {c : Ctx} (v : Value) : VRel c (ofConst v) v := by
  unfold ofConst
  split <;> first
    | exact .int _ _
    | exact .bool _
    | exact .str _
    | exact .nilp
    | exact .nils
    | exact .nilf
    | exact .nili
    | exact .ifc _ _ _ (.int _ _)
    | exact .undef _
theorem FRel.ev {c : Ctx} {n : Nat} {fr : Fr} {a : Act} (h : FRel c n fr a) (o : Operand) : VRel c (fr.ev o) (a.eval o) := by
  cases o with
  | tmp t => exact h.rel t
  | const v => exact ofConst_rel v
  | global g => exact .undef _
  | func f => exact VRel.fn' (l := []) (l' := []) .nil

/-! ### what a value's shape tells of the machine's -/
theorem VRel.inv_int {c : Ctx} {k : IntKind} {n : Int} {x : Value} (h : VRel c (.int k n) x) : x = .int k n := by cases h; rfl
theorem VRel.inv_bool {c : Ctx} {b : Bool} {x : Value} (h : VRel c (.bool b) x) : x = .bool b := by cases h; rfl
theorem VRel.inv_str {c : Ctx} {s : ByteArray} {x : Value} (h : VRel c (.str s) x) : x = .string s := by cases h; rfl
theorem VRel.inv_agg {c : Ctx} {l : List AV} {x : Value} (h : VRel c (.agg l) x) : ∃ l', x = .agg l'.toArray ∧ LRel c l l' := by cases h with | agg _ cs h1 h2 => exact ⟨cs, rfl, h1, h2⟩
theorem VRel.inv_tup {c : Ctx} {l : List AV} {x : Value} (h : VRel c (.tup l) x) : ∃ l', x = .tuple l'.toArray ∧ LRel c l l' := by cases h with | tup _ cs h1 h2 => exact ⟨cs, rfl, h1, h2⟩
theorem VRel.inv_fn {c : Ctx} {f : FuncId} {l : List AV} {x : Value} (h : VRel c (.fn f l) x) : ∃ l', x = .func (.func f) #[] l'.toArray ∧ LRel c l l' := by cases h with | fn _ _ cs h1 h2 => exact ⟨cs, rfl, h1, h2⟩

/-- The cells of a value. -/
theorem VRel.cells {c : Ctx} {v : AV} {x : Value} (h : VRel c v x) {l : List AV} (hl : v.cells? = some l) : LRel c l x.cells.toList := by
  have one : ∀ {v : AV} {x : Value}, VRel c v x → x.cells = #[x] → LRel c [v] x.cells.toList := fun {v x} h e => by rw [e]; exact .cons h .nil
  cases h <;> simp only [AV.cells?, Option.some.injEq, reduceCtorEq] at hl <;> subst hl
  case agg cs h1 h2 => exact ⟨h1, h2⟩
  all_goals first
    | exact one (.int _ _) rfl
    | exact one (.bool _) rfl
    | exact one (.str _) rfl
    | exact one .nilp rfl
    | exact one .nils rfl
    | exact one .nilf rfl
    | exact one .nili rfl
    | exact one (.ptr _ _ _ _ _ (by assumption)) rfl
    | exact one (.ptrOld _ _ _ _ _ _ (by assumption) (by assumption)) rfl
    | exact one (.lel _ _ _ _ _ (by assumption) (by assumption) (by assumption)) rfl
    | exact one (.sl _ _ _ _ _ _ _ _ _ (by assumption) (by assumption) (by assumption) (by assumption)) rfl
    | exact one (.slNone _ _ _ (by assumption)) rfl
    | exact one (.slOld _ _ _ _ _ _ _ _ _ _ (by assumption) (by assumption) (by assumption) (by assumption)) rfl
    | exact one (.slOldNone _ _ _ _ _ (by assumption) (by assumption)) rfl
    | exact one (.lst _ _ _ _ _ _ (by assumption) (by assumption) (by assumption) (by assumption)) rfl
    | exact one (.lst0 _ _) rfl
    | exact one (.fn _ _ _ (by assumption) (by assumption)) rfl
    | exact one (.ifc _ _ _ (by assumption)) rfl

theorem VRel.one {c : Ctx} {v : AV} {x : Value} (h : VRel c v x) (hv : v.one = true) : x.oneCell' = true := by
  cases h <;> first | rfl | (simp [AV.one] at hv)
theorem LRel.ones {c : Ctx} {l : List AV} {l' : List Value} (h : LRel c l l') (hv : l.all AV.one = true) : ∀ x ∈ l', x.oneCell' = true := by
  induction l generalizing l' with
  | nil => cases l' with
    | nil => simp
    | cons x t => exact absurd h.1 (by simp)
  | cons v l ih =>
    obtain ⟨x, t, rfl, hx, ht⟩ := h.head
    simp only [List.all_cons, Bool.and_eq_true] at hv
    intro y hy
    rcases List.mem_cons.1 hy with rfl | hy
    · exact hx.one hv.1
    · exact ih ht hv.2 y hy

/-! ### blocks -/
theorem blkAt_some {H : Heap} {id ver : Nat} {b : Blk} (h : blkAt H id ver = some b) : liveAt H id b ∧ b.ver = ver := by
  unfold blkAt at h
  split at h
  · rename_i b' hb
    split at h
    · cases h; exact ⟨hb, by assumption⟩
    · cases h
  · cases h
theorem blkAt_of {H : Heap} {id : Nat} {b : Blk} (h : liveAt H id b) : blkAt H id b.ver = some b := by unfold blkAt; rw [h]; simp

/-- A pointer to a block that is as it was then. -/
theorem Sim.ptr {c : Ctx} {H : Heap} {w : World} (s : Sim c H w) {id ver off : Nat} {x : Value} (h : VRel c (.ptr id ver off) x) {b : Blk} (hb : blkAt H id ver = some b) :
    ∃ k sz cs T, x = .pointer (some ⟨k, off, none⟩) ∧ c.m id = some (ver, some (k, sz)) ∧ w.heap[k]? = some (.cells cs T (0, 0)) ∧ cs.size = sz ∧ b.cells.length ≤ sz ∧ LRel c b.cells (cs.toList.take b.cells.length) := by
  obtain ⟨hl, rfl⟩ := blkAt_some hb
  obtain ⟨bk, hm, hbr⟩ := s.blk id b hl
  cases h with
  | ptr _ _ _ k sz hm' =>
    rw [hm] at hm'
    obtain ⟨rfl⟩ : bk = some (k, sz) := by simpa using hm'
    obtain ⟨cs, T, h1, h2, h3, h4⟩ := hbr
    exact ⟨k, sz, cs, T, rfl, hm, h1, h2, h3, h4⟩
  | ptrOld _ _ _ ver' bk' _ hm' hlt =>
    rw [hm] at hm'
    simp only [Option.some.injEq, Prod.mk.injEq] at hm'
    omega
theorem Sim.sl {c : Ctx} {H : Heap} {w : World} (s : Sim c H w) {id ver off len cap esz : Nat} {x : Value} (h : VRel c (.sl id ver off len cap esz) x) {b : Blk} (hb : blkAt H id ver = some b) :
    (∃ k sz cs T cap', x = .slice (some ⟨k, off, none⟩) len cap' ∧ cap ≤ cap' ∧ len ≤ cap ∧ off + cap' * esz ≤ sz ∧ c.m id = some (ver, some (k, sz)) ∧ w.heap[k]? = some (.cells cs T (0, 0)) ∧ cs.size = sz ∧ b.cells.length ≤ sz ∧ LRel c b.cells (cs.toList.take b.cells.length)) ∨
    (x = .slice none 0 0 ∧ off = 0 ∧ len = 0 ∧ cap = 0 ∧ b.cells = [] ∧ c.m id = some (ver, none)) := by
  obtain ⟨hl, rfl⟩ := blkAt_some hb
  obtain ⟨bk, hm, hbr⟩ := s.blk id b hl
  cases h with
  | sl _ _ _ _ _ _ k sz cap' hm' h1 h2 h3 =>
    rw [hm] at hm'
    obtain ⟨rfl⟩ : bk = some (k, sz) := by simpa using hm'
    obtain ⟨cs, T, h4, h5, h6, h7⟩ := hbr
    exact .inl ⟨k, sz, cs, T, cap', rfl, h1, h2, h3, hm, h4, h5, h6, h7⟩
  | slNone _ _ _ hm' =>
    rw [hm] at hm'
    obtain ⟨rfl⟩ : bk = none := by simpa using hm'
    exact .inr ⟨rfl, rfl, rfl, rfl, hbr, hm⟩
  | slOld _ _ _ _ _ _ ver' bk' _ _ hm' hlt _ _ =>
    rw [hm] at hm'
    simp only [Option.some.injEq, Prod.mk.injEq] at hm'
    omega
  | slOldNone _ _ _ ver' bk' hm' hlt =>
    rw [hm] at hm'
    simp only [Option.some.injEq, Prod.mk.injEq] at hm'
    omega

theorem BRel.mono {c c' : Ctx} {w w' : World} {b : Blk} {bk : Option (Nat × Nat)} (hx : Ext c c') (hw : ∀ k sz, bk = some (k, sz) → w'.heap[k]? = w.heap[k]?) (h : BRel c w b bk) : BRel c' w' b bk := by
  match bk, h with
  | none, h => exact h
  | some (k, sz), ⟨cs, T, h1, h2, h3, h4⟩ => exact ⟨cs, T, by rw [hw k sz rfl]; exact h1, h2, h3, h4.mono hx⟩

/-- What is known with one block more. -/
def Ctx.add (c : Ctx) (id ver : Nat) (bk : Option (Nat × Nat)) : Ctx := { c with m := fun i => if i = id then some (ver, bk) else c.m i }
theorem Ctx.ext_add {c : Ctx} {id ver : Nat} {bk : Option (Nat × Nat)} (h : c.m id = none) : Ext c (c.add id ver bk) :=
  ⟨fun _ _ h => h, fun i v b hm => ⟨v, b, by
    have : i ≠ id := fun e => by rw [e, h] at hm; cases hm
    simpa [Ctx.add, this] using hm, .inl ⟨rfl, rfl⟩⟩⟩
theorem Sim.fresh {c : Ctx} {H : Heap} {w : World} (s : Sim c H w) : c.m H.length = none := by
  cases h : c.m H.length with
  | none => rfl
  | some p => exact absurd (s.dom _ _ h) (by omega)

theorem liveAt_append {H : Heap} {b : Option Blk} {id : Nat} {x : Blk} (h : liveAt (H ++ [b]) id x) : liveAt H id x ∨ (id = H.length ∧ b = some x) := by
  unfold liveAt at h ⊢
  rcases Nat.lt_trichotomy id H.length with hl | hl | hl
  · rw [List.getElem?_append_left hl] at h; exact .inl h
  · subst hl; rw [List.getElem?_append_right (by omega)] at h; simp at h; exact .inr ⟨rfl, h⟩
  · rw [List.getElem?_append_right (by omega), List.getElem?_eq_none (by simp; omega)] at h; cases h
theorem liveAt_old {H : Heap} {b : Option Blk} {id : Nat} {x : Blk} (h : liveAt H id x) : liveAt (H ++ [b]) id x := by
  unfold liveAt at h ⊢
  have hl : id < H.length := (List.getElem?_eq_some_iff.1 h).1
  rw [List.getElem?_append_left hl]; exact h
theorem liveAt_lt {H : Heap} {id : Nat} {x : Blk} (h : liveAt H id x) : id < H.length := (List.getElem?_eq_some_iff.1 h).1

theorem HClosed_append {n : Nat} {H : Heap} {b : Option Blk} (hn : n ≤ H.length) (h : HClosed n H) : HClosed n (H ++ [b]) := by
  intro id x hl hid
  rcases liveAt_append hl with h1 | ⟨rfl, _⟩
  · exact h id x h1 hid
  · omega

/-- A new block of the machine's, and one of the interpreter's for it (the machine may have drawn meanwhile). -/
theorem Sim.alloc {base : Nat} {c : Ctx} {H : Heap} {w w' : World} (s : Sim c H w) (hb : base ≤ H.length) (hal : Alike w w') {cs : Array Value} {T : TypeId} (hsz : w'.heap.size = w.heap.size + 1)
    (hnew : w'.heap[w.heap.size]? = some (.cells cs T (0, 0))) (hold : ∀ k, k < w.heap.size → w'.heap[k]? = w.heap[k]?) {cells : List AV} (ver : Nat) (hl : cells.length ≤ cs.size)
    (hr : LRel c cells (cs.toList.take cells.length)) :
    Trans base c H w (c.add H.length ver (some (w.heap.size, cs.size))) (H ++ [some ⟨cells, ver⟩]) w' := by
  have hf := s.fresh
  have hx : Ext c (c.add H.length ver (some (w.heap.size, cs.size))) := Ctx.ext_add hf
  have hm : ∀ i, i ≠ H.length → (c.add H.length ver (some (w.heap.size, cs.size))).m i = c.m i := fun i hi => by simp [Ctx.add, hi]
  have hm0 : (c.add H.length ver (some (w.heap.size, cs.size))).m H.length = some (ver, some (w.heap.size, cs.size)) := by simp [Ctx.add]
  refine ⟨hx, ⟨?_, ?_, ?_, ?_, ?_, ?_, fun b cs h => hx.z _ _ (s.glob b cs h)⟩, by omega, fun b hb _ => hold b hb, ?_, fun _ _ h => .inl h, by simp, fun n hn h => HClosed_append (by omega) h, hal⟩
  · intro id p h
    by_cases e : id = H.length
    · simp [e]
    · rw [hm id e] at h; have := s.dom id p h; simp; omega
  · intro id b hlb
    rcases liveAt_append hlb with h1 | ⟨rfl, h1⟩
    · obtain ⟨bk, h2, h3⟩ := s.blk id b h1
      have hid := liveAt_lt h1
      refine ⟨bk, by rw [hm id (by omega)]; exact h2, h3.mono hx fun k sz e => hold k ?_⟩
      subst e; exact s.bnd _ _ _ _ h2
    · simp only [Option.some.injEq] at h1
      subst h1
      exact ⟨_, hm0, cs, T, hnew, rfl, hl, hr.mono hx⟩
  · intro id id' v v' b sz sz' h h'
    by_cases e : id = H.length <;> by_cases e' : id' = H.length
    · rw [e, e']
    · rw [e, hm0] at h; rw [hm id' e'] at h'
      have := s.bnd _ _ _ _ h'
      simp only [Option.some.injEq, Prod.mk.injEq] at h
      omega
    · rw [hm id e] at h; rw [e', hm0] at h'
      have := s.bnd _ _ _ _ h
      simp only [Option.some.injEq, Prod.mk.injEq] at h'
      omega
    · rw [hm id e] at h; rw [hm id' e'] at h'; exact s.inj _ _ _ _ _ _ _ h h'
  · intro id v b sz h
    by_cases e : id = H.length
    · rw [e, hm0] at h
      simp only [Option.some.injEq, Prod.mk.injEq] at h
      show c.z b = none
      cases hz : c.z b with
      | none => rfl
      | some l =>
        obtain ⟨T', fz, h1⟩ := s.froz b l hz
        have := (Array.getElem?_eq_some_iff.1 h1).1
        omega
    · rw [hm id e] at h; exact s.disj _ _ _ _ h
  · intro id v b sz h
    by_cases e : id = H.length
    · rw [e, hm0] at h; simp only [Option.some.injEq, Prod.mk.injEq] at h; omega
    · rw [hm id e] at h; have := s.bnd _ _ _ _ h; omega
  · intro b l hz
    obtain ⟨T', fz, h1⟩ := s.froz b l hz
    exact ⟨T', fz, by rw [hold b (Array.getElem?_eq_some_iff.1 h1).1]; exact h1⟩
  · intro b ⟨id, v, sz, h2⟩
    by_cases e : id = H.length
    · rw [e, hm0] at h2; simp only [Option.some.injEq, Prod.mk.injEq] at h2; exact .inr (by omega)
    · rw [hm id e] at h2
      exact .inl ⟨id, v, sz, h2⟩

/-- A block that is nothing yet: a nil slice that may grow. -/
theorem Sim.allocNone {base : Nat} {c : Ctx} {H : Heap} {w : World} (s : Sim c H w) (hb : base ≤ H.length) (ver : Nat) :
    Trans base c H w (c.add H.length ver none) (H ++ [some ⟨[], ver⟩]) w := by
  have hf := s.fresh
  have hx : Ext c (c.add H.length ver none) := Ctx.ext_add hf
  have hm : ∀ i, i ≠ H.length → (c.add H.length ver none).m i = c.m i := fun i hi => by simp [Ctx.add, hi]
  have hm0 : (c.add H.length ver none).m H.length = some (ver, none) := by simp [Ctx.add]
  have hn : ∀ id v b sz, (c.add H.length ver none).m id = some (v, some (b, sz)) → c.m id = some (v, some (b, sz)) := by
    intro id v b sz h
    by_cases e : id = H.length
    · rw [e, hm0] at h; simp at h
    · rwa [hm id e] at h
  refine ⟨hx, ⟨?_, ?_, fun id id' v v' b sz sz' h h' => s.inj _ _ _ _ _ _ _ (hn _ _ _ _ h) (hn _ _ _ _ h'), fun id v b sz h => s.disj _ _ _ _ (hn _ _ _ _ h), fun id v b sz h => s.bnd _ _ _ _ (hn _ _ _ _ h), s.froz, s.glob⟩,
    Nat.le_refl _, fun b hb _ => rfl, ?_, fun _ _ h => .inl h, by simp, fun n hn h => HClosed_append (by omega) h, .refl w⟩
  · intro id p h
    by_cases e : id = H.length
    · simp [e]
    · rw [hm id e] at h; have := s.dom id p h; simp; omega
  · intro id b hlb
    rcases liveAt_append hlb with h1 | ⟨rfl, h1⟩
    · obtain ⟨bk, h2, h3⟩ := s.blk id b h1
      have hid := liveAt_lt h1
      exact ⟨bk, by rw [hm id (by omega)]; exact h2, h3.mono hx fun k sz e => rfl⟩
    · simp only [Option.some.injEq] at h1
      subst h1
      exact ⟨none, hm0, rfl⟩
  · intro b ⟨id, v, sz, h2⟩
    exact .inl ⟨id, v, sz, hn _ _ _ _ h2⟩
end Go.Proofs.YtimdnnlfkkkpbaaDoor
