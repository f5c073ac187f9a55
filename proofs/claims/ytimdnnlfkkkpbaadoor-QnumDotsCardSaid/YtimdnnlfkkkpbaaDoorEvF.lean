/- What each operation does on the machine, by what the interpreter says of it: the rest without a call. -/
import Derived.Test.YtimdnnlfkkkpbaaDoorEvE
set_option linter.unusedVariables false
set_option linter.unusedSimpArgs false
namespace Go.Proofs.YtimdnnlfkkkpbaaDoor

theorem zeros_succ (z : List AV) (n : Nat) : zeros z (n + 1) = z ++ zeros z n := by simp [zeros, List.replicate_succ]
theorem zeros_length (z : List AV) (n : Nat) : (zeros z n).length = n * z.length := by simp [zeros]
theorem zeros_get (z : List AV) : ∀ (n j : Nat), j < n * z.length → (zeros z n)[j]? = z[j % z.length]?
  | 0, j, h => by simp at h
  | n + 1, j, h => by
    rw [zeros_succ]
    by_cases hj : j < z.length
    · rw [List.getElem?_append_left hj, Nat.mod_eq_of_lt hj]
    · have hj' : z.length ≤ j := by omega
      rw [List.getElem?_append_right hj', zeros_get z n (j - z.length) (by rw [Nat.succ_mul] at h; omega), ← Nat.mod_eq_sub_mod hj']
theorem zeros_rel {c : Ctx} {z : List AV} {z' : Array Value} (h : LRel c z z'.toList) (n : Nat) : LRel c (zeros z n) (madeCells z' (n * z'.size)).toList := by
  have hl : z.length = z'.size := by simpa using h.1
  refine ⟨by simp [zeros_length, size_madeCells, hl], fun j hj => ?_⟩
  rw [zeros_length] at hj
  have hz : 0 < z.length := by
    rcases Nat.eq_zero_or_pos z.length with e | e
    · rw [e] at hj; simp at hj
    · exact e
  have hm : j % z.length < z.length := Nat.mod_lt _ hz
  have h1 := h.2 (j % z.length) hm
  have hj2 : j < n * z'.size := by rw [← hl]; exact hj
  have e1 : (zeros z n).getD j .undef = z.getD (j % z.length) .undef := by
    rw [List.getD_eq_getElem?_getD, List.getD_eq_getElem?_getD, zeros_get z n j hj]
  have e2 : (madeCells z' (n * z'.size)).toList.getD j undef = z'.toList.getD (j % z.length) undef := by
    have hm' : j % z'.size < z'.size := by rw [← hl]; exact hm
    rw [hl]
    simp [madeCells, List.getD_eq_getElem?_getD, hj2, hm']
  rw [e1, e2]
  exact h1

theorem heap_alloc_new' (w : World) (o : Obj) : (w.alloc o).heap[w.heap.size]? = some o := heap_alloc_new w o

/-- A variable, a row of new cells. -/
theorem Sim.newRow {base : Nat} {c : Ctx} {H : Heap} {w : World} (s : Sim c H w) (hb : base ≤ H.length) (T : TypeId) {cells : List AV} {cs : Array Value} (h : LRel c cells cs.toList) :
    Trans base c H w (c.add H.length 0 (some (w.heap.size, cs.size))) (H ++ [some ⟨cells, 0⟩]) (w.alloc (.cells cs T)) := by
  have hl : cells.length = cs.size := by simpa using h.1
  exact s.alloc hb (by exact ⟨rfl, rfl, rfl⟩) (by simp) (heap_alloc_new w _) (fun k hk => heap_alloc_old w _ k hk) 0 (by omega) (by rw [List.take_of_length_le (by simp; omega)]; exact h)
theorem Ctx.add_same (c : Ctx) (id ver : Nat) (bk : Option (Nat × Nat)) : (c.add id ver bk).m id = some (ver, bk) := by simp [Ctx.add]

theorem alloc_sound {E : Env} (hE : EnvOk E) {base : Nat} {c : Ctx} {H : Heap} {w : World} (s : Sim c H w) (hb : base ≤ H.length) {t : TypeId} {ti : TI} (ht : E.T t = some ti) (old : Value) :
    Did E base c H w (Instr.alloc t true old) (.ptr H.length 0 0) (H ++ [some ⟨ti.zero, 0⟩]) := by
  obtain ⟨i, d, z, hi, hd, hsz, hz, hzo, hzs, hag, hk⟩ := tyOk_spec (hE.ty _ _ ht)
  refine ⟨_, .pointer (some ⟨w.heap.size, 0, none⟩), w.alloc (.cells z.cells t), ?_, .ptr _ _ _ _ z.cells.size (Ctx.add_same _ _ _ _), s.newRow hb t (zOk_rel _ _ hzo)⟩
  simp [Instr.alloc, Sem.run_bind, run_zeroValue hi hz, newVar, newRow]

theorem box_sound {E : Env} {base : Nat} {c : Ctx} {H : Heap} {w : World} (s : Sim c H w) (hb : base ≤ H.length) {t : TypeId} {v : AV} {x : Value} (hv : VRel c v x) {cs : List AV} (hc : v.cells? = some cs) :
    Did E base c H w (Instr.box t x) (.ptr H.length 0 0) (H ++ [some ⟨cs, 0⟩]) := by
  refine ⟨_, .pointer (some ⟨w.heap.size, 0, none⟩), w.alloc (.cells x.cells t), ?_, .ptr _ _ _ _ x.cells.size (Ctx.add_same _ _ _ _), s.newRow hb t (hv.cells hc)⟩
  simp [Instr.box, newVar, newRow]

theorem AV.plain_below {v : AV} : v.plain = true → Nmd 0 v := by
  induction v using AV.plain.induct <;> intro h <;> first
    | exact .int _ _
    | exact .bool _
    | exact .str _
    | exact .nilp
    | exact .nils
    | exact .nilf
    | exact .nili
    | exact .lst _ _
    | exact .lel _ _
    | (rename_i ih; exact .ifc _ _ (ih (by simpa [AV.plain] using h)))
    | exact .fn _ _ (fun x hx => by simp at hx)
    | simp [AV.plain] at h

/-- Known with one more list that nobody will write. -/
def Ctx.bear (c : Ctx) (k : Nat) (cs : List Value) : Ctx := { c with z := fun b => if b = k then some cs else c.z b }
theorem Sim.bear {base : Nat} {c : Ctx} {H : Heap} {w : World} (s : Sim c H w) (T : TypeId) {cells : List AV} {cs : Array Value} (h : LRel c cells cs.toList) (hp : cells.all AV.plain = true) :
    ∃ c', (∀ len, VRel c' (.lst cells len) (.slice (some ⟨w.heap.size, 0, none⟩) len len)) ∧ Trans base c H w c' H (w.alloc (.cells cs T)) := by
  have hz : c.z w.heap.size = none := by
    cases hz : c.z w.heap.size with
    | none => rfl
    | some l => obtain ⟨T', fz, h1⟩ := s.froz _ _ hz; have := (Array.getElem?_eq_some_iff.1 h1).1; omega
  have hold : ∀ b, b ≠ w.heap.size → (c.bear w.heap.size cs.toList).z b = c.z b := fun b hb => by simp [Ctx.bear, hb]
  have hx : Ext c (c.bear w.heap.size cs.toList) := ⟨fun b l hb => by
    rw [hold b (fun e => by rw [e, hz] at hb; cases hb)]; exact hb, fun id v b hm => ⟨v, b, hm, .inl ⟨rfl, rfl⟩⟩⟩
  refine ⟨c.bear w.heap.size cs.toList, fun len => ?_, hx, ⟨s.dom, ?_, s.inj, ?_, ?_, ?_, fun b cs h => hx.z _ _ (s.glob b cs h)⟩, by simp, fun b hb _ => heap_alloc_old w _ b hb, ?_, fun b l hb => ?_, Nat.le_refl _, fun _ _ h => h, ⟨rfl, rfl, rfl⟩⟩
  · refine .lst _ _ _ _ _ cs.toList (Nat.le_refl _) (by simp [Ctx.bear]) (by have := h.1; omega) fun i hi => ?_
    have h1 := h.2 i hi
    rw [Nat.zero_add]
    refine VRel.res (h1.mono hx) (AV.plain_below ?_)
    exact List.all_eq_true.1 hp _ (getD_mem hi)
  · intro id b hl
    obtain ⟨bk, h1, h2⟩ := s.blk id b hl
    exact ⟨bk, h1, h2.mono hx fun k sz e => by subst e; exact heap_alloc_old w _ k (s.bnd _ _ _ _ h1)⟩
  · intro id v b sz hm
    have := s.bnd _ _ _ _ hm
    rw [hold b (by omega)]
    exact s.disj _ _ _ _ hm
  · intro id v b sz hm
    have := s.bnd _ _ _ _ hm
    simp; omega
  · intro b l hb
    by_cases e : b = w.heap.size
    · subst e
      simp only [Ctx.bear, if_true, Option.some.injEq] at hb
      subst hb
      exact ⟨T, (0, 0), heap_alloc_new w _⟩
    · rw [hold b e] at hb
      obtain ⟨T', fz, h1⟩ := s.froz b l hb
      exact ⟨T', fz, by rw [heap_alloc_old w _ b (Array.getElem?_eq_some_iff.1 h1).1]; exact h1⟩
  · intro b ho
    exact .inl ho
  · by_cases e : b = w.heap.size
    · exact .inr (.inr (by omega))
    · rw [hold b e] at hb; exact .inl hb

theorem kd_spec {E : Env} (hE : EnvOk E) {t : TypeId} {k : TK} (h : E.kd t = some k) : ∃ i d, E.P.info? t = some i ∧ E.P.underlying t = some d ∧ kindOk E.P k d = true := by
  unfold Env.kd at h
  cases ht : E.T t with
  | none => simp [ht] at h
  | some ti =>
    simp only [ht, Option.map_some, Option.some.injEq] at h
    subst h
    obtain ⟨i, d, z, hi, hd, _, _, _, _, _, hk⟩ := tyOk_spec (hE.ty _ _ ht)
    exact ⟨i, d, hi, hd, hk⟩
theorem kd_slice {E : Env} (hE : EnvOk E) {t : TypeId} {e esz eb : Nat} {ez : List AV} (h : E.kd t = some (.slice e esz eb ez)) :
    E.P.underlying t = some (.slice e) ∧ ∃ i z, E.P.info? e = some i ∧ i.size = esz ∧ i.bytes = eb ∧ i.zero = some z ∧ zOk ez z.cells.toList = true ∧ z.cells.size = esz := by
  obtain ⟨i, d, hi, hd, hk⟩ := kd_spec hE h
  cases d <;> simp only [kindOk, Bool.false_eq_true] at hk
  case slice e' =>
    simp only [Bool.and_eq_true, beq_iff_eq] at hk
    obtain ⟨rfl, hk⟩ := hk
    refine ⟨hd, ?_⟩
    split at hk
    · rename_i ie hie
      simp only [Bool.and_eq_true, beq_iff_eq] at hk
      obtain ⟨⟨h1, h2⟩, h3⟩ := hk
      split at h3
      · rename_i z hz
        simp only [Bool.and_eq_true, beq_iff_eq] at h3
        exact ⟨ie, z, hie, h1, h2, hz, h3.1, h3.2⟩
      · cases h3
    · cases hk
theorem kd_array {E : Env} (hE : EnvOk E) {t : TypeId} {n esz : Nat} {ag : Bool} (h : E.kd t = some (.array n esz ag)) :
    ∃ e i d, E.P.underlying t = some (.array n e) ∧ E.P.info? e = some i ∧ i.size = esz ∧ E.P.underlying e = some d ∧ isAggD d = ag ∧ (ag = true ∨ esz = 1) := by
  obtain ⟨i, d, hi, hd, hk⟩ := kd_spec hE h
  cases d <;> simp only [kindOk, Bool.false_eq_true] at hk
  case array n' e =>
    simp only [Bool.and_eq_true, beq_iff_eq, Bool.or_eq_true] at hk
    obtain ⟨⟨⟨rfl, h1⟩, h2⟩, h3⟩ := hk
    obtain ⟨ie, hie, hes⟩ := elemOk_spec h1
    unfold aggOk at h2
    split at h2
    · rename_i de hde
      exact ⟨e, ie, de, hd, hie, hes, hde, by simpa using h2, h3⟩
    · cases h2
theorem fields_get {P : Program} : ∀ {fs : List (Nat × Nat × Bool)} {fields : List Field}, fieldsOk P fs fields = true → ∀ {i : Nat} {p : Nat × Nat × Bool}, fs[i]? = some p →
    ∃ fd ie d, fields[i]? = some fd ∧ fd.offset = p.1 ∧ P.info? fd.type = some ie ∧ ie.size = p.2.1 ∧ P.underlying fd.type = some d ∧ isAggD d = p.2.2
  | [], [], _, i, p, h => by simp at h
  | (off, size, ag) :: fs, f :: fields, h, i, p, hp => by
    simp only [fieldsOk, Bool.and_eq_true, beq_iff_eq] at h
    obtain ⟨⟨⟨h1, h2⟩, h4⟩, h3⟩ := h
    cases i with
    | zero =>
      simp only [List.getElem?_cons_zero, Option.some.injEq] at hp
      subst hp
      obtain ⟨ie, hie, hes⟩ := elemOk_spec h2
      unfold aggOk at h4
      split at h4
      · rename_i de hde
        exact ⟨f, ie, de, rfl, h1, hie, hes, hde, by simpa using h4⟩
      · cases h4
    | succ i => exact fields_get h3 (by simpa using hp)
  | [], _ :: _, h, _, _, _ => by simp [fieldsOk] at h
  | _ :: _, [], h, _, _, _ => by simp [fieldsOk] at h
theorem kd_struct {E : Env} (hE : EnvOk E) {t : TypeId} {fs : List (Nat × Nat × Bool)} (h : E.kd t = some (.struct fs)) : ∃ fields, E.P.underlying t = some (.struct fields) ∧ fieldsOk E.P fs fields.toList = true := by
  obtain ⟨i, d, hi, hd, hk⟩ := kd_spec hE h
  cases d <;> simp only [kindOk, Bool.false_eq_true] at hk
  case struct fields => exact ⟨fields, hd, hk⟩

theorem buildSlice_sound {E : Env} (hE : EnvOk E) {base : Nat} {c : Ctx} {H : Heap} {w : World} (s : Sim c H w) (hb : base ≤ H.length) {t : TypeId} {k : TK} (hk : E.kd t = some k) {own : Bool} {len : Nat}
    {parts : List (Nat × AV)} {parts' : Array (Nat × Value)} (hp : PRel c parts parts'.toList) {v : AV} {H' : Heap} (h : buildSliceA own H k len parts = some (v, H')) : Did E base c H w (Instr.buildSlice t len parts') v H' := by
  unfold buildSliceA at h
  split at h
  · rename_i e esz eb ez
    obtain ⟨hu, ie, z, hie, hes, heb, hz, hzo, hzs⟩ := kd_slice hE hk
    by_cases hsm : len * esz ≤ 16777216
    · rw [if_pos hsm] at h
      cases hf : fillA esz (zeros ez len) parts with
      | none => simp [hf] at h
      | some cs =>
        simp only [hf, Option.bind_some] at h
        have hz0 : LRel c ez z.cells.toList := zOk_rel _ _ hzo
        have hzr := zeros_rel hz0 len
        rw [hzs] at hzr
        obtain ⟨r', h1, h2⟩ := fill_sound (c := c) (fun i => some (i * ie.size, ie.size)) (fun i => some (i * esz, esz)) (fun i off size h => by rw [hes]; exact h) (fillA esz) (fun l => rfl) (fun l i v rest r h => fillA_cons h) parts parts'.toList _ (madeCells z.cells (len * esz)) cs hp hzr hf
        have hrun : (Instr.buildSlice t len parts').run E.P w = .ok (.slice (some ⟨w.heap.size, 0, none⟩) len len) (w.alloc (.cells r' e)) := by
          unfold Instr.buildSlice
          simp only [Sem.run_bind, run_underlying hu, Result.andThen_ok, run_sizeOf hie, hes]
          rw [if_neg (by omega)]
          by_cases h0 : len * esz = 0
          · have h1' : Instr.fill (fun i => some (i * esz, esz)) (#[] : Array Value) parts'.toList = some r' := by
              have e0 : madeCells z.cells (len * esz) = (#[] : Array Value) := by simp [madeCells, h0]
              rw [e0, hes] at h1; exact h1
            simp only [h0, if_true, Sem.run_bind, Sem.run_pure, Result.andThen_ok, newRow]
            have er : Array.range 0 = #[] := rfl
            simp [er, h1']
          · simp only [h0, if_false, Sem.run_bind, run_zeroValue hie hz, Result.andThen_ok, newRow, Sem.run_pure]
            have h1' := h1
            unfold madeCells at h1'
            rw [hes] at h1'
            simp [h1']
        have hlen : cs.length = len * esz := by
          have e1 : ∀ (ps : List (Nat × AV)) (l r : List AV), fillA esz l ps = some r → r.length = l.length := by
            intro ps
            induction ps with
            | nil => intro l r h; simp only [fillA, Option.some.injEq] at h; rw [h]
            | cons p ps ih =>
              intro l r h
              obtain ⟨off, size, vs, h1, h2, h3, h4, h5⟩ := fillA_cons (i := p.1) (v := p.2) h
              rw [ih _ _ h5, splice_length (by omega)]
          rw [e1 _ _ _ hf, zeros_length]
          have h9 : ez.length = esz := by have := hz0.1; simp at this; omega
          rw [h9]
        have hr' : r'.size = len * esz := by have := h2.1; simp at this; omega
        have tr := s.newRow hb e h2
        split at h
        · simp only [Option.some.injEq, Prod.mk.injEq] at h
          obtain ⟨rfl, rfl⟩ := h
          exact ⟨_, _, _, hrun, .sl _ _ _ _ _ _ _ _ _ (Ctx.add_same _ _ _ _) (Nat.le_refl _) (Nat.le_refl _) (by omega), tr⟩
        · split at h
          · rename_i hpl
            simp only [Option.some.injEq, Prod.mk.injEq] at h
            obtain ⟨rfl, rfl⟩ := h
            obtain ⟨c', hc', htr⟩ := s.bear (base := base) e h2 hpl
            exact ⟨c', _, _, hrun, hc' len, htr⟩
          · cases h
    · rw [if_neg hsm] at h
      simp at h
  · cases h

theorem makeSlice_sound {E : Env} (hE : EnvOk E) {base : Nat} {c : Ctx} {H : Heap} {w : World} (s : Sim c H w) (hb : base ≤ H.length) {t : TypeId} {k : TK} (hk : E.kd t = some k) {l m : AV} {l' m' : Value}
    (hl : VRel c l l') (hm : VRel c m m') {v : AV} {H' : Heap} (h : makeSliceA H k l m = some (v, H')) : Did E base c H w (Instr.makeSlice t l' m') v H' := by
  unfold makeSliceA at h
  split at h
  · rename_i e esz eb ez kl n km x
    obtain ⟨hu, ie, z, hie, hes, heb, hz, hzo, hzs⟩ := kd_slice hE hk
    obtain rfl := hl.inv_int
    obtain rfl := hm.inv_int
    split at h
    · rename_i hc
      obtain ⟨h0, h1, h2, h3, h4⟩ := hc
      simp only [Option.some.injEq, Prod.mk.injEq] at h
      obtain ⟨rfl, rfl⟩ := h
      have hbytes : (ie.bytes : Int) * x ≤ 281474976710656 := by
        have e1 : ((x.toNat * eb : Nat) : Int) ≤ 140737488355328 := by unfold maxBytes at h2; omega
        rw [heb]
        have e2 : ((x.toNat : Nat) : Int) = x := Int.toNat_of_nonneg (by omega)
        rw [Int.natCast_mul, e2, Int.mul_comm] at e1
        omega
      have hr := run_make (P := E.P) w t e ie z hu hie hz kl km n x h0 h1 hbytes h3
      have hz0 : LRel c ez z.cells.toList := zOk_rel _ _ hzo
      have hzr := zeros_rel hz0 x.toNat
      rw [hzs] at hzr
      rw [hes] at hr
      have hnx : n.toNat ≤ x.toNat := by omega
      have hzl : ∀ q, (zeros ez q).length = q * ez.length := fun q => by simp [zeros]
      have hpre : (zeros ez x.toNat).take (zeros ez n.toNat).length = zeros ez n.toNat := by
        have : x.toNat = n.toNat + (x.toNat - n.toNat) := by omega
        rw [this]
        unfold zeros
        rw [← List.replicate_append_replicate, List.flatten_append, List.take_left]
      have hle : (zeros ez n.toNat).length ≤ (madeCells z.cells (x.toNat * esz)).size := by
        rw [hzl, size_madeCells, h4]
        exact Nat.mul_le_mul_right _ hnx
      refine ⟨_, _, _, hr, .sl _ _ _ _ _ _ _ _ _ (Ctx.add_same _ _ _ _) (Nat.le_refl _) (by omega) ?_, s.alloc hb (by exact ⟨rfl, rfl, rfl⟩) (by simp) (heap_alloc_new w _) (fun k hk => heap_alloc_old w _ k hk) 0 hle (by
        have := hzr.take (zeros ez n.toNat).length
        rwa [hpre] at this)⟩
      rw [size_madeCells]; omega
    · cases h
  · cases h

theorem run_part {P : Program} {t : TypeId} {i : TypeInfo} {d : TypeDesc} (hi : P.info? t = some i) (hd : P.underlying t = some d) {c : Ctx} {w : World} {l : List AV} {l' : List Value} (hl : LRel c l l') {off : Nat} {v : AV}
    (h : (if isAggD d then (if off + i.size ≤ l.length then some (.agg ((l.drop off).take i.size)) else none) else l[off]?) = some v) :
    ∃ x, (part t l'.toArray off).run P w = .ok x w ∧ VRel c v x := by
  unfold part
  by_cases ha : isAggD d = true
  · simp only [ha, if_true] at h
    split at h
    · cases h
      refine ⟨.agg ((l'.drop off).take i.size).toArray, ?_, VRel.agg' ((hl.drop off).take _)⟩
      simp only [Sem.run_bind, run_isAgg hd, ha, if_true, Result.andThen_ok, run_sizeOf hi, Sem.run_pure]
      simp [List.extract_eq_take_drop]
    · cases h
  · simp only [ha, if_false, Bool.false_eq_true] at h
    obtain ⟨x, hx, hv⟩ := hl.get h
    refine ⟨x, ?_, hv⟩
    simp [Sem.run_bind, run_isAgg hd, ha, hx]

theorem field_sound {E : Env} (hE : EnvOk E) {c : Ctx} {w : World} {t : TypeId} {k : TK} (hk : E.kd t = some k) {x v : AV} {x' : Value} (hx : VRel c x x') {i : Nat} (h : fieldA k x i = some v) :
    ∃ y, (Instr.field t x' i).run E.P w = .ok y w ∧ VRel c v y := by
  unfold fieldA at h
  split at h
  · rename_i fs cs
    obtain ⟨fields, hu, hf⟩ := kd_struct hE hk
    obtain ⟨cs', rfl, hr⟩ := hx.inv_agg
    cases hp : fs[i]? with
    | none => simp [hp] at h
    | some p =>
      simp only [hp, Option.bind_some] at h
      obtain ⟨fd, ie, d, h1, h2, h3, h4, h5, h6⟩ := fields_get hf hp
      obtain ⟨y, h7, h8⟩ := run_part (w := w) h3 h5 hr (off := p.1) (v := v) (by rw [h4, h6]; exact h)
      refine ⟨y, ?_, h8⟩
      unfold Instr.field
      have h1' : fields[i]? = some fd := by simpa using h1
      simp only [Sem.run_bind, run_underlying hu, Result.andThen_ok, h1', asAgg, Sem.run_pure, h2, h7]
  · cases h

theorem fieldAddr_sound {E : Env} (hE : EnvOk E) {c : Ctx} {w : World} {t : TypeId} {k : TK} (hk : E.kd t = some k) {x v : AV} {x' : Value} (hx : VRel c x x') {i : Nat} (h : fieldAddrA k x i = some v) :
    ∃ y, (Instr.fieldAt t x' i).run E.P w = .ok y w ∧ VRel c v y := by
  have key : ∀ fs, k = .struct fs → ∀ p, fs[i]? = some p → p.2.1 ≠ 0 → ∀ b off, x' = .pointer (some ⟨b, off, none⟩) → (Instr.fieldAt t x' i).run E.P w = .ok (.pointer (some ⟨b, off + p.1, none⟩)) w := by
    intro fs hfs p hp hne b off hx'
    subst hfs hx'
    obtain ⟨fields, hu, hf⟩ := kd_struct hE hk
    obtain ⟨fd, ie, d, h1, h2, h3, h4, h5, h6⟩ := fields_get hf hp
    have h1' : fields[i]? = some fd := by simpa using h1
    unfold Instr.fieldAt fieldPlace
    simp only [Sem.run_bind, run_underlying hu, Result.andThen_ok, h1', Instr.sureAddr, Sem.run_pure, run_sizeOf h3, h4, hne, if_false, Addr.add_lit, h2]
  unfold fieldAddrA at h
  split at h
  · rename_i fs id ver off
    cases hp : fs[i]? with
    | none => simp [hp] at h
    | some p =>
      simp only [hp, Option.bind_some] at h
      split at h
      · cases h
      · rename_i hne
        cases h
        cases hx with
        | ptr _ _ _ b sz hm => exact ⟨_, key fs rfl p hp hne b off rfl, .ptr _ _ _ _ _ hm⟩
        | ptrOld _ _ _ ver' bk b hm hlt => exact ⟨_, key fs rfl p hp hne b off rfl, .ptrOld _ _ _ _ _ _ hm hlt⟩
  · rename_i fs cs off
    cases hp : fs[i]? with
    | none => simp [hp] at h
    | some p =>
      simp only [hp, Option.bind_some] at h
      split at h
      · cases h
      · rename_i hne
        cases h
        cases hx with
        | lel _ _ b o l hz hl hr =>
          refine ⟨_, key fs rfl p hp hne b (o + off) rfl, ?_⟩
          rw [Nat.add_assoc]
          exact .lel _ _ _ _ _ hz hl hr
  · cases h
end Go.Proofs.YtimdnnlfkkkpbaaDoor
