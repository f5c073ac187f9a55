/- What each operation does on the machine, by what the interpreter says of it: operations without a call. -/
import Derived.Test.YtimdnnlfkkkpbaaDoorEvD
set_option linter.unusedVariables false
set_option linter.unusedSimpArgs false
namespace Go.Proofs.YtimdnnlfkkkpbaaDoor

/-- The operation runs to a value, and what is told holds. -/
def Did (E : Env) (base : Nat) (c : Ctx) (H : Heap) (w : World) (s : Sem Value) (v : AV) (H' : Heap) : Prop :=
  ∃ c' x w', s.run E.P w = .ok x w' ∧ VRel c' v x ∧ Trans base c H w c' H' w'

theorem Did.still {E : Env} {base : Nat} {c : Ctx} {H : Heap} {w : World} {s : Sem Value} {v : AV} {x : Value} (sm : Sim c H w) (hr : s.run E.P w = .ok x w) (hv : VRel c v x) : Did E base c H w s v H :=
  ⟨c, x, w, hr, hv, .refl sm⟩

theorem run_isAgg {P : Program} {t : TypeId} {d : TypeDesc} (h : P.underlying t = some d) (w : World) : (isAgg t).run P w = .ok (isAggD d) w := by
  unfold isAgg
  rw [Sem.run_bind, run_underlying h w]
  cases d <;> rfl
theorem run_sizeOf {P : Program} {t : TypeId} {i : TypeInfo} (h : P.info? t = some i) (w : World) : (sizeOf t).run P w = .ok i.size w := by
  simp [sizeOf, typeInfo, h]
theorem run_zeroValue {P : Program} {t : TypeId} {i : TypeInfo} {z : Value} (h : P.info? t = some i) (hz : i.zero = some z) (w : World) : (zeroValue t).run P w = .ok z w := by
  simp [zeroValue, typeInfo, h, hz]

/-! ### reading -/
theorem run_loadVar_at {P : Program} {t : TypeId} {ti : TI} (ht : tyOk P t ti = true) {c : Ctx} {w : World} {k : Nat} {cs : Array Value} {T : TypeId} {fz : Nat × Nat} (hk : w.heap[k]? = some (.cells cs T fz))
    {cells : List AV} {o off : Nat} (hlen : o + cells.length ≤ cs.size) (hr : LRel c cells ((cs.toList.drop o).take cells.length)) {v : AV} (h : readAt ti cells off = some v) :
    ∃ x, (loadVar t ⟨k, o + off, none⟩).run P w = .ok x w ∧ VRel c v x := by
  obtain ⟨i, d, z, hi, hd, hsz, hz, _, _, hag, _⟩ := tyOk_spec ht
  have hcell : ∀ j, w.cell? ⟨k, j, none⟩ = cs[j]? := fun j => cell_of_row w k j cs T fz hk
  unfold readAt at h
  by_cases ha : ti.agg = true
  · simp only [ha, if_true] at h
    split at h
    · rename_i hle
      cases h
      have hw : LRel c ((cells.drop off).take ti.size) ((cs.toList.drop (o + off)).take ti.size) := by
        have h1 := (hr.drop off).take ti.size
        rw [List.drop_take, List.take_take, List.drop_drop] at h1
        rwa [show min ti.size (cells.length - off) = ti.size by omega] at h1
      refine ⟨.agg ((cs.toList.drop (o + off)).take ti.size).toArray, ?_, VRel.agg' hw⟩
      have hl : ((cs.toList.drop (o + off)).take ti.size).length = ti.size := by simp; omega
      have hload := run_loadCells_list (P := P) w ⟨k, o + off, none⟩ ((cs.toList.drop (o + off)).take ti.size) (fun j v hv => by
        rw [Addr.add_lit, hcell]
        have hj : j < ti.size := by have := (List.getElem?_eq_some_iff.1 hv).1; omega
        rw [List.getElem?_take, if_pos hj, List.getElem?_drop] at hv
        simpa using hv)
      rw [hl] at hload
      unfold loadVar
      simp [Sem.run_bind, run_isAgg hd, hag, ha, run_sizeOf hi, hsz, hload]
    · cases h
  · simp only [ha, if_false, Bool.false_eq_true] at h
    obtain ⟨x, hx, hv⟩ := hr.get h
    refine ⟨x, ?_, hv⟩
    have hoff : off < cells.length := (List.getElem?_eq_some_iff.1 h).1
    have hx' : cs[o + off]? = some x := by
      rw [List.getElem?_take, if_pos hoff, List.getElem?_drop] at hx
      simpa using hx
    unfold loadVar
    simp [Sem.run_bind, run_isAgg hd, hag, ha, run_load, hcell, hx']

theorem Sim.load {E : Env} (hE : EnvOk E) {c : Ctx} {H : Heap} {w : World} (s : Sim c H w) {t : TypeId} {ti : TI} (ht : E.T t = some ti) {a v : AV} {x : Value} (hx : VRel c a x) (h : loadA ti H a = some v) :
    ∃ p y, x = .pointer (some p) ∧ (loadVar t p).run E.P w = .ok y w ∧ VRel c v y := by
  cases a <;> simp only [loadA, reduceCtorEq] at h
  case ptr id ver off =>
    cases hb : blkAt H id ver with
    | none => simp [hb] at h
    | some b =>
      simp only [hb, Option.bind_some] at h
      obtain ⟨k, sz, cs, T, rfl, hm, hk, rfl, hle, hr⟩ := s.ptr hx hb
      obtain ⟨y, h1, h2⟩ := run_loadVar_at (hE.ty _ _ ht) (o := 0) hk (by omega) (by simpa using hr) h
      rw [Nat.zero_add] at h1
      exact ⟨_, y, rfl, h1, h2⟩
  case lel cells off =>
    cases hx with
    | lel _ _ b o cs hz hl hr =>
      obtain ⟨T, fz, hk⟩ := s.froz _ _ hz
      have hr' : LRel (c.res 0) cells ((cs.drop o).take cells.length) := LRel.of_window hl hr
      have hext : Ext (c.res 0) c := ⟨fun _ _ h => h, fun id ver bk hm => by simp [Ctx.res] at hm⟩
      obtain ⟨y, h1, h2⟩ := run_loadVar_at (hE.ty _ _ ht) (o := o) hk (by simpa using hl) (by simpa using hr'.mono hext) h
      exact ⟨_, y, rfl, h1, h2⟩

/-! ### composing -/
theorem splice_eq {l : List AV} {off : Nat} {vs : List AV} (h : off + vs.length ≤ l.length) : splice l off vs = l.take off ++ vs ++ l.drop (off + vs.length) := by
  unfold splice
  split
  · rename_i x
    rw [List.set_eq_take_append_cons_drop, if_pos (by simp at h; omega)]
    simp
  · rfl
theorem splice_length {l : List AV} {off : Nat} {vs : List AV} (h : off + vs.length ≤ l.length) : (splice l off vs).length = l.length := by
  rw [splice_eq h]; simp; omega

theorem foldl_sets (off : Nat) : ∀ (vs : List Value) (k : Nat) (cs : Array Value), off + k + vs.length ≤ cs.size →
    ((vs.zipIdx k).foldl (fun cs p => cs.setIfInBounds (off + p.2) p.1) cs).toList = cs.toList.take (off + k) ++ vs ++ cs.toList.drop (off + k + vs.length)
  | [], k, cs, _ => by simp
  | v :: vs, k, cs, h => by
    simp only [List.zipIdx_cons, List.foldl_cons]
    simp only [List.length_cons] at h
    rw [foldl_sets off vs (k + 1) _ (by simp; omega)]
    have hlt : off + k < cs.toList.length := by simp; omega
    simp only [Array.toList_setIfInBounds]
    rw [List.set_eq_take_append_cons_drop, if_pos hlt]
    rw [List.take_append, List.drop_append]
    simp only [List.length_take, Array.length_toList, List.length_cons]
    rw [show min (off + k) cs.size = off + k by omega]
    simp only [List.take_take, List.drop_take]
    rw [show min (off + (k + 1)) (off + k) = off + k by omega, show off + (k + 1) - (off + k) = 1 by omega, show off + k - (off + (k + 1) + vs.length) = 0 by omega, show off + (k + 1) + vs.length - (off + k) = vs.length + 1 by omega]
    simp only [List.take_succ_cons, List.take_zero, List.drop_succ_cons, List.drop_drop, List.append_assoc, List.nil_append]
    rw [show off + k + (vs.length + 1) = off + k + 1 + vs.length by omega]
    simp [Nat.add_comm, Nat.add_left_comm]

theorem LRel.splice {c : Ctx} {l vs : List AV} {l' vs' : List Value} (h : LRel c l l') (hv : LRel c vs vs') {off : Nat} (hle : off + vs.length ≤ l.length) :
    LRel c (splice l off vs) (l'.take off ++ vs' ++ l'.drop (off + vs.length)) := by
  rw [splice_eq hle]
  exact ((h.take off).append hv).append (h.drop _)

/-- The parts of a literal, one by one. -/
inductive PRel (c : Ctx) : List (Nat × AV) → List (Nat × Value) → Prop
  | nil : PRel c [] []
  | cons (i : Nat) (v : AV) (x : Value) (l : List (Nat × AV)) (l' : List (Nat × Value)) : VRel c v x → PRel c l l' → PRel c ((i, v) :: l) ((i, x) :: l')

theorem fill_sound {c : Ctx} (place : Nat → Option (Nat × Nat)) (placeA : Nat → Option (Nat × Nat)) (hp : ∀ i off size, placeA i = some (off, size) → place i = some (off, size)) (fillX : List AV → List (Nat × AV) → Option (List AV))
    (hnil : ∀ l, fillX l [] = some l)
    (hcons : ∀ l i v rest r, fillX l ((i, v) :: rest) = some r → ∃ off size vs, placeA i = some (off, size) ∧ v.cells? = some vs ∧ vs.length = size ∧ off + size ≤ l.length ∧ fillX (splice l off vs) rest = some r) :
    ∀ (parts : List (Nat × AV)) (parts' : List (Nat × Value)) (l : List AV) (l' : Array Value) (r : List AV), PRel c parts parts' → LRel c l l'.toList → fillX l parts = some r →
      ∃ r', Instr.fill place l' parts' = some r' ∧ LRel c r r'.toList
  | _, _, l, l', r, .nil, hl, h => by
    rw [hnil] at h
    cases h
    exact ⟨l', rfl, hl⟩
  | _, _, l, l', r, .cons i v x parts parts' hv hp', hl, h => by
    obtain ⟨off, size, vs, h1, h2, h3, h4, h5⟩ := hcons _ _ _ _ _ h
    have hc := hv.cells h2
    have hcs : x.cells.size = vs.length := by have := hc.1; simp at this; omega
    have hls : l'.size = l.length := by have := hl.1; simp at this; omega
    have hset : LRel c (splice l off vs) ((x.cells.zipIdx.foldl (fun cs p => cs.setIfInBounds (off + p.2) p.1) l').toList) := by
      rw [← Array.foldl_toList, Array.toList_zipIdx]
      have := foldl_sets off x.cells.toList 0 l' (by simp; omega)
      rw [this]
      have h6 := hl.splice hc (off := off) (by omega)
      simpa [hcs] using h6
    obtain ⟨r', h7, h8⟩ := fill_sound place placeA hp fillX hnil hcons parts parts' _ _ r hp' hset h5
    refine ⟨r', ?_, h8⟩
    unfold Instr.fill
    rw [hp _ _ _ h1]
    simp only
    rw [if_neg (by simp; omega)]
    exact h7

theorem run_mapM_places {P : Program} (w : World) : ∀ (fs : List (Nat × Nat × Bool)) (fields : List Field), fieldsOk P fs fields = true →
    (fields.mapM fun f => (do pure (f.offset, ← sizeOf f.type) : Sem (Nat × Nat))).run P w = .ok (fs.map fun p => (p.1, p.2.1)) w
  | [], [], _ => by simp
  | (off, size, ag) :: fs, f :: fields, h => by
    simp only [fieldsOk, Bool.and_eq_true, beq_iff_eq] at h
    obtain ⟨⟨⟨h1, h2⟩, _⟩, h3⟩ := h
    have ih := run_mapM_places w fs fields h3
    unfold elemOk at h2
    cases hi : P.info? f.type with
    | none => simp [hi] at h2
    | some i =>
      simp only [hi, beq_iff_eq] at h2
      simp only [List.mapM_cons, Sem.run_bind, run_sizeOf hi, Result.andThen_ok, Sem.run_pure, ih, List.map_cons, h1, h2]
  | [], _ :: _, h => by simp [fieldsOk] at h
  | _ :: _, [], h => by simp [fieldsOk] at h

theorem fillS_cons {fs : List (Nat × Nat × Bool)} {l : List AV} {i : Nat} {v : AV} {rest : List (Nat × AV)} {r : List AV} (h : fillS fs l ((i, v) :: rest) = some r) :
    ∃ off size vs, (fs[i]?).map (fun p => (p.1, p.2.1)) = some (off, size) ∧ v.cells? = some vs ∧ vs.length = size ∧ off + size ≤ l.length ∧ fillS fs (splice l off vs) rest = some r := by
  simp only [fillS] at h
  cases h1 : fs[i]? with
  | none => simp [h1] at h
  | some p =>
    obtain ⟨off, size, ag⟩ := p
    cases h2 : v.cells? with
    | none => simp [h1, h2] at h
    | some vs =>
      simp only [h1, h2] at h
      split at h
      · rename_i hc
        exact ⟨off, size, vs, rfl, rfl, hc.1, hc.2, h⟩
      · cases h
theorem fillA_cons {esz : Nat} {l : List AV} {i : Nat} {v : AV} {rest : List (Nat × AV)} {r : List AV} (h : fillA esz l ((i, v) :: rest) = some r) :
    ∃ off size vs, (some (i * esz, esz) : Option (Nat × Nat)) = some (off, size) ∧ v.cells? = some vs ∧ vs.length = size ∧ off + size ≤ l.length ∧ fillA esz (splice l off vs) rest = some r := by
  simp only [fillA] at h
  cases h2 : v.cells? with
  | none => simp [h2] at h
  | some vs =>
    simp only [h2] at h
    split at h
    · rename_i hc
      exact ⟨i * esz, esz, vs, rfl, rfl, hc.1, hc.2, h⟩
    · cases h

theorem elemOk_spec {P : Program} {e esz : Nat} (h : elemOk P e esz = true) : ∃ i, P.info? e = some i ∧ i.size = esz := by
  unfold elemOk at h
  split at h
  · rename_i i hi; exact ⟨i, hi, by simpa using h⟩
  · cases h

theorem build_sound {E : Env} (hE : EnvOk E) {c : Ctx} {w : World} {t : TypeId} {ti : TI} (ht : E.T t = some ti) {parts : List (Nat × AV)} {parts' : Array (Nat × Value)} (hp : PRel c parts parts'.toList) {v : AV} (h : buildA ti parts = some v) :
    ∃ x, (Instr.build t parts').run E.P w = .ok x w ∧ VRel c v x := by
  obtain ⟨i, d, z, hi, hd, hsz, hz, hzo, hzs, hag, hk⟩ := tyOk_spec (hE.ty _ _ ht)
  have hz0 : LRel c ti.zero z.cells.toList := zOk_rel _ _ hzo
  unfold buildA at h
  split at h
  · rename_i fs hkind
    cases hf : fillS fs ti.zero parts with
    | none => simp [hf] at h
    | some cs =>
      simp only [hf, Option.map_some, Option.some.injEq] at h
      subst h
      rw [hkind] at hk
      cases d <;> simp only [kindOk, Bool.false_eq_true] at hk
      case struct fields =>
        obtain ⟨r', h1, h2⟩ := fill_sound (c := c) (fun i => ((fs.map fun p => (p.1, p.2.1)).toArray)[i]?) (fun i => (fs[i]?).map (fun p => (p.1, p.2.1))) (fun i off size h => by simpa using h) (fillS fs) (fun l => rfl) (fun l i v rest r h => fillS_cons h) parts parts'.toList ti.zero z.cells cs hp hz0 hf
        refine ⟨.agg r', ?_, ?_⟩
        · unfold Instr.build
          simp only [Sem.run_bind, run_zeroValue hi hz, Result.andThen_ok, run_underlying hd]
          rw [Array.mapM_eq_mapM_toList, Sem.run_map, run_mapM_places w fs fields.toList hk]
          simp only [Result.andThen_ok, h1, Sem.run_pure]
        · exact VRel.agg' (l' := r'.toList) h2
  · rename_i n esz ag hkind
    cases hf : fillA esz ti.zero parts with
    | none => simp [hf] at h
    | some cs =>
      simp only [hf, Option.map_some, Option.some.injEq] at h
      subst h
      rw [hkind] at hk
      cases d <;> simp only [kindOk, Bool.false_eq_true] at hk
      case array n' e =>
        simp only [Bool.and_eq_true] at hk
        obtain ⟨ie, hie, hes⟩ := elemOk_spec hk.1.1.2
        obtain ⟨r', h1, h2⟩ := fill_sound (c := c) (fun i => some (i * ie.size, ie.size)) (fun i => some (i * esz, esz)) (fun i off size h => by rw [hes]; exact h) (fillA esz) (fun l => rfl) (fun l i v rest r h => fillA_cons h) parts parts'.toList ti.zero z.cells cs hp hz0 hf
        refine ⟨.agg r', ?_, ?_⟩
        · unfold Instr.build
          simp only [Sem.run_bind, run_zeroValue hi hz, Result.andThen_ok, run_underlying hd, run_sizeOf hie, h1, Sem.run_pure]
        · exact VRel.agg' (l' := r'.toList) h2
  · cases h
end Go.Proofs.YtimdnnlfkkkpbaaDoor
