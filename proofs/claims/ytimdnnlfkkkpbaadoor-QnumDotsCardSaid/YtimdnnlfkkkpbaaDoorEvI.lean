/- What each operation does on the machine, by what the interpreter says of it: stores, append, len, min, max. -/
import Derived.Test.YtimdnnlfkkkpbaaDoorEvH
set_option linter.unusedVariables false
set_option linter.unusedSimpArgs false
namespace Go.Proofs.YtimdnnlfkkkpbaaDoor

theorem liveAt_set {H : Heap} {id i : Nat} {b x : Blk} (h : liveAt (H.set id (some b)) i x) : (i = id ∧ x = b ∧ id < H.length) ∨ (i ≠ id ∧ liveAt H i x) := by
  unfold liveAt at h ⊢
  by_cases e : id = i
  · subst e
    by_cases hl : id < H.length
    · rw [List.getElem?_set_self hl] at h
      simp only [Option.some.injEq] at h
      exact .inl ⟨rfl, h.symm, hl⟩
    · rw [List.getElem?_eq_none (by simp; omega)] at h; cases h
  · rw [List.getElem?_set_ne e] at h; exact .inr ⟨fun h => e h.symm, h⟩

/-- One block is written, or moves to a new one of the machine's. -/
theorem Sim.replace {base : Nat} {c : Ctx} {H : Heap} {w w' : World} (s : Sim c H w) {id : Nat} {b : Blk} (hl : liveAt H id b) {bk : Option (Nat × Nat)} (hm : c.m id = some (b.ver, bk)) {ver' : Nat} {bk' : Option (Nat × Nat)}
    (hv : (ver' = b.ver ∧ bk' = bk) ∨ b.ver < ver') {cells' : List AV} (hal : Alike w w') (hgrow : w.heap.size ≤ w'.heap.size) (hsame : ∀ k, k < w.heap.size → (∀ sz, bk ≠ some (k, sz)) → w'.heap[k]? = w.heap[k]?)
    (hbk : ∀ k sz, bk' = some (k, sz) → (∃ sz', bk = some (k, sz')) ∨ (w.heap.size ≤ k ∧ k < w'.heap.size)) (hb : BRel (c.add id ver' bk') w' ⟨cells', ver'⟩ bk')
    (hcl : base ≤ id ∨ ∀ n, id < n → n ≤ base → HClosed n H → ∀ x ∈ cells', Nmd n x) : Trans base c H w (c.add id ver' bk') (H.set id (some ⟨cells', ver'⟩)) w' := by
  have h0 : (c.add id ver' bk').m id = some (ver', bk') := Ctx.add_same _ _ _ _
  have h1 : ∀ i, i ≠ id → (c.add id ver' bk').m i = c.m i := fun i hi => by simp [Ctx.add, hi]
  have hid : id < H.length := liveAt_lt hl
  have hx : Ext c (c.add id ver' bk') := by
    refine ⟨fun _ _ h => h, fun i v k hk => ?_⟩
    by_cases e : i = id
    · subst e
      rw [hm] at hk
      simp only [Option.some.injEq, Prod.mk.injEq] at hk
      obtain ⟨rfl, rfl⟩ := hk
      exact ⟨ver', bk', h0, hv⟩
    · exact ⟨v, k, by rw [h1 i e]; exact hk, .inl ⟨rfl, rfl⟩⟩
  have hother : ∀ i v k sz, i ≠ id → c.m i = some (v, some (k, sz)) → ∀ sz', bk ≠ some (k, sz') := by
    intro i v k sz hi hk sz' e
    subst e
    exact hi (s.inj _ _ _ _ _ _ _ hk hm)
  refine ⟨hx, ⟨?_, ?_, ?_, ?_, ?_, ?_, fun b cs h => hx.z _ _ (s.glob b cs h)⟩, hgrow, ?_, ?_, fun _ _ h => .inl h, by simp, ?_, hal⟩
  · intro i p h
    by_cases e : i = id
    · subst e; simpa using hid
    · rw [h1 i e] at h; simpa using s.dom i p h
  · intro i x hi
    rcases liveAt_set hi with ⟨rfl, rfl, _⟩ | ⟨e, hi'⟩
    · exact ⟨bk', h0, hb⟩
    · obtain ⟨bi, h2, h3⟩ := s.blk i x hi'
      refine ⟨bi, by rw [h1 i e]; exact h2, h3.mono hx fun k sz e2 => ?_⟩
      subst e2
      exact hsame k (s.bnd _ _ _ _ h2) (hother i _ k sz e h2)
  · intro i j v v' k sz sz' hi hj
    by_cases e : i = id <;> by_cases e' : j = id
    · rw [e, e']
    · exfalso
      rw [e, h0] at hi; rw [h1 j e'] at hj
      simp only [Option.some.injEq, Prod.mk.injEq] at hi
      rcases hbk k sz hi.2 with ⟨z, h3⟩ | h3
      · exact hother j _ k sz' e' hj z h3
      · have := s.bnd _ _ _ _ hj; omega
    · exfalso
      rw [h1 i e] at hi; rw [e', h0] at hj
      simp only [Option.some.injEq, Prod.mk.injEq] at hj
      rcases hbk k sz' hj.2 with ⟨z, h3⟩ | h3
      · exact hother i _ k sz e hi z h3
      · have := s.bnd _ _ _ _ hi; omega
    · rw [h1 i e] at hi; rw [h1 j e'] at hj; exact s.inj _ _ _ _ _ _ _ hi hj
  · intro i v k sz hi
    by_cases e : i = id
    · rw [e, h0] at hi
      simp only [Option.some.injEq, Prod.mk.injEq] at hi
      rcases hbk k sz hi.2 with ⟨z, h3⟩ | h3
      · rw [h3] at hm; exact s.disj _ _ _ _ hm
      · show c.z k = none
        cases hz : c.z k with
        | none => rfl
        | some l => obtain ⟨T', fz, h4⟩ := s.froz _ _ hz; have := (Array.getElem?_eq_some_iff.1 h4).1; omega
    · rw [h1 i e] at hi; exact s.disj _ _ _ _ hi
  · intro i v k sz hi
    by_cases e : i = id
    · rw [e, h0] at hi
      simp only [Option.some.injEq, Prod.mk.injEq] at hi
      rcases hbk k sz hi.2 with ⟨z, h3⟩ | h3
      · rw [h3] at hm; have := s.bnd _ _ _ _ hm; omega
      · omega
    · rw [h1 i e] at hi; have := s.bnd _ _ _ _ hi; omega
  · intro k l hz
    obtain ⟨T', fz, h4⟩ := s.froz _ _ hz
    have hlt := (Array.getElem?_eq_some_iff.1 h4).1
    refine ⟨T', fz, ?_⟩
    rw [hsame k hlt fun sz e => ?_]
    · exact h4
    · rw [e] at hm; have := s.disj _ _ _ _ hm; rw [show c.z k = some l from hz] at this; cases this
  · intro k hk hn
    exact hsame k hk fun sz e => hn ⟨id, b.ver, sz, by rw [hm, e]⟩
  · intro k ⟨i, v, sz, h3⟩
    by_cases e : i = id
    · subst e
      rw [h0] at h3
      simp only [Option.some.injEq, Prod.mk.injEq] at h3
      rcases hbk k sz h3.2 with ⟨z, h4⟩ | h4
      · exact .inl ⟨i, b.ver, z, by rw [hm, h4]⟩
      · exact .inr h4.1
    · rw [h1 i e] at h3; exact .inl ⟨i, v, sz, h3⟩
  · intro n hn hc i x hi hin y hy
    rcases liveAt_set hi with ⟨rfl, rfl, _⟩ | ⟨e, hi'⟩
    · rcases hcl with h | h
      · omega
      · exact h n hin hn hc y hy
    · exact hc i x hi' hin y hy

theorem mem_splice {l : List AV} {off : Nat} {vs : List AV} (h : off + vs.length ≤ l.length) {x : AV} (hx : x ∈ splice l off vs) : x ∈ l ∨ x ∈ vs := by
  rw [splice_eq h] at hx
  simp only [List.append_assoc, List.mem_append] at hx
  rcases hx with h | h | h
  · exact .inl (List.mem_of_mem_take h)
  · exact .inr h
  · exact .inl (List.mem_of_mem_drop h)

theorem store_sound {E : Env} (hE : EnvOk E) {base : Nat} {c : Ctx} {H : Heap} {w : World} (s : Sim c H w) {t : TypeId} {ti : TI} (ht : E.T t = some ti) {a v : AV} {a' v' : Value} (ha : VRel c a a') (hv : VRel c v v')
    {id : Nat} {vs : List AV} {H' : Heap} (h : storeA ti H a v = some (id, vs, H')) (hst : mayStore base id vs) :
    ∃ c' w', (Instr.storeAt t a' v').run E.P w = .ok () w' ∧ Trans base c H w c' H' w' := by
  obtain ⟨i, d, z, hi, hd, hsz, hz, hzo, hzs, hag, hk⟩ := tyOk_spec (hE.ty _ _ ht)
  unfold storeA at h
  split at h
  · rename_i id' ver off vs' hc
    cases hb : blkAt H id' ver with
    | none => simp [hb] at h
    | some b =>
      simp only [hb, Option.bind_some] at h
      split at h
      · rename_i hcond
        obtain ⟨h1, h2, h3⟩ := hcond
        simp only [Option.some.injEq, Prod.mk.injEq] at h
        obtain ⟨rfl, rfl, rfl⟩ := h
        obtain ⟨k, sz, cs, T, rfl, hm, hk, rfl, hle, hr⟩ := s.ptr ha hb
        obtain ⟨hlive, hver⟩ := blkAt_some hb
        have hvc := hv.cells hc
        have hlen : v'.cells.toList.length = vs'.length := hvc.1.symm
        have hones := hvc.ones h3
        have hrun := run_storeCells_at E.P k off T v'.cells.toList 0 cs w hk (by rw [hlen]; omega) hones
        rw [Nat.add_zero] at hrun
        have hsize : v'.cells.size = i.size := by rw [hsz, ← h1, ← hlen]; simp
        refine ⟨c.add id' b.ver (some (k, cs.size)), w.setRow k (cs.toList.take off ++ v'.cells.toList ++ cs.toList.drop (off + v'.cells.toList.length)).toArray, ?_, s.replace hlive (by rw [hver]; exact hm) (.inl ⟨rfl, rfl⟩) (by exact ⟨rfl, rfl, rfl⟩) (by simp) ?_ ?_ ?_ ?_⟩
        · unfold Instr.storeAt storeVar
          simp only [Instr.sureAddr, Sem.run_bind, Sem.run_pure, Result.andThen_ok, run_sizeOf hi, hsize, ne_eq, not_true_eq_false, if_false]
          exact hrun
        · intro j hj hne
          exact setRow_other w k j _ fun e => hne cs.size (by rw [e])
        · intro j sz h; exact .inl ⟨sz, h⟩
        · have hx : Ext c (c.add id' b.ver (some (k, cs.size))) := by
            refine ⟨fun _ _ h => h, fun i v bk hmi => ⟨v, bk, ?_, .inl ⟨rfl, rfl⟩⟩⟩
            by_cases e : i = id'
            · subst e; rw [Ctx.add_same, hver, ← hm, hmi]
            · simpa [Ctx.add, e] using hmi
          refine ⟨_, T, setRow_heap w k cs _ T _ hk, ?_, ?_, ?_⟩
          · simp; omega
          · simp only; rw [splice_length (by omega)]; exact hle
          · simp only
            rw [splice_length (by omega)]
            have h5 := (hr.splice hvc (off := off) (by omega)).mono hx
            have e1 : (cs.toList.take off ++ v'.cells.toList ++ cs.toList.drop (off + v'.cells.toList.length)).take b.cells.length =
                (cs.toList.take b.cells.length).take off ++ v'.cells.toList ++ (cs.toList.take b.cells.length).drop (off + vs'.length) := by
              rw [hlen, List.take_append, List.take_append, List.take_take, List.drop_take]
              simp only [List.length_append, List.length_take, Array.length_toList, hlen, List.take_take]
              congr 2
              · congr 1; omega
              · rw [List.take_of_length_le (by rw [hlen]; omega)]
              · congr 1; omega
            rw [e1]
            exact h5
        · rcases hst with h4 | h4
          · exact .inl h4
          · refine .inr fun n hn _ hcl x hx => ?_
            rcases mem_splice (by omega) hx with h5 | h5
            · exact hcl id' b hlive hn x h5
            · exact (h4 x h5).mono (by omega)
      · cases h
  · cases h
end Go.Proofs.YtimdnnlfkkkpbaaDoor
