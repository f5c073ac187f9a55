/- The interpreter is sound: what a function hands out; whole calls. -/
import Derived.Test.YtimdnnlfkkkpbaaDoorEvK
set_option linter.unusedSimpArgs false
set_option linter.unusedVariables false
namespace Go.Proofs.YtimdnnlfkkkpbaaDoor

/-- All names in the heap are below its length. -/
theorem Sim.closed {c : Ctx} {H : Heap} {w : World} (s : Sim c H w) : HClosed H.length H := by
  intro id b hl _ x hx
  obtain ⟨bk, hm, hb⟩ := s.blk id b hl
  match bk, hb with
  | none, hb => rw [show b.cells = [] from hb] at hx; cases hx
  | some (k, sz), ⟨cs, T, _, _, _, hr⟩ =>
    obtain ⟨i, hi, e⟩ := mem_getD hx .undef
    have := hr.2 i hi
    rw [e] at this
    exact this.names s.dom

/-- A block of the machine's that stands behind one of the call's own. -/
def OwnedFrom (c : Ctx) (H : Heap) (base k : Nat) : Prop := ∃ id v s, base ≤ id ∧ (∃ x, liveAt H id x) ∧ c.m id = some (v, some (k, s))
def rowOf (w : World) (k : Nat) : Option (List Value) :=
  match w.heap[k]? with
  | some (.cells cs _ _) => some cs.toList
  | _ => none
/-- Behind a call: its own blocks are lists that nobody writes any more. -/
noncomputable def Ctx.fin (c : Ctx) (base : Nat) (H : Heap) (w : World) : Ctx :=
  { z := fun b => @ite _ (OwnedFrom c H base b) (Classical.propDecidable _) (rowOf w b) (c.z b), m := fun id => if id < base then c.m id else none }
theorem Ctx.fin_pos {c : Ctx} {base : Nat} {H : Heap} {w : World} {k : Nat} (h : OwnedFrom c H base k) : (c.fin base H w).z k = rowOf w k := if_pos h
theorem Ctx.fin_neg {c : Ctx} {base : Nat} {H : Heap} {w : World} {k : Nat} (h : ¬ OwnedFrom c H base k) : (c.fin base H w).z k = c.z k := if_neg h

theorem Ctx.ext_fin {c : Ctx} {base : Nat} {H : Heap} {w : World} (s : Sim c H w) : Ext (c.res base) (c.fin base H w) := by
  refine ⟨fun b cs hz => ?_, fun id v bk hm => ⟨v, bk, hm, .inl ⟨rfl, rfl⟩⟩⟩
  have hz' : c.z b = some cs := hz
  rw [Ctx.fin_neg]
  · exact hz'
  · rintro ⟨id, v, sz, _, _, hm⟩
    rw [s.disj _ _ _ _ hm] at hz'
    cases hz'

theorem VRel.fin {c : Ctx} {base : Nat} {H : Heap} {w : World} (s : Sim c H w) {v : AV} {x : Value} (h : VRel c v x) (hb : Nmd base v) : VRel (c.fin base H w) v x := (h.res hb).mono (Ctx.ext_fin s)

theorem Ctx.fin_z {c : Ctx} {base : Nat} {H : Heap} {w : World} {id v b sz : Nat} (hb : base ≤ id) {x : Blk} (hl : liveAt H id x) (hm : c.m id = some (v, some (b, sz))) {cs : Array Value} {T : TypeId} {fz : Nat × Nat}
    (hk : w.heap[b]? = some (.cells cs T fz)) : (c.fin base H w).z b = some cs.toList := by
  rw [Ctx.fin_pos ⟨id, v, sz, hb, ⟨x, hl⟩, hm⟩]
  simp [rowOf, hk]

mutual
theorem Fin1.rel {c : Ctx} {base : Nat} {H : Heap} {w : World} (s : Sim c H w) {v v' : AV} {x : Value} : Fin1 base H v v' → VRel c v x → VRel (c.fin base H w) v' x
  | .same v hb, h => h.fin s hb
  | .sl id ver off len cap esz b hbase hblk hpl hlen, h => by
    obtain ⟨hlive, hver⟩ := blkAt_some hblk
    rcases s.sl h hblk with ⟨k, sz, cs, T, cap', rfl, h1, h2, h3, hm, hk, rfl, hle, hr⟩ | ⟨rfl, rfl, rfl, rfl, hcells, hm⟩
    · have hz := Ctx.fin_z (w := w) hbase hlive hm hk
      have hl : ((b.cells.drop off).take (len * esz)).length = len * esz := by simp; omega
      refine .lst _ _ _ _ _ _ (by omega) hz (by rw [hl]; simp; omega) fun i hi => ?_
      rw [hl] at hi
      have h4 := hr.2 (off + i) (by omega)
      have e1 : ((b.cells.drop off).take (len * esz)).getD i .undef = b.cells.getD (off + i) .undef := by
        rw [List.getD_eq_getElem?_getD, List.getElem?_take, if_pos hi, List.getElem?_drop, ← List.getD_eq_getElem?_getD]
      have e2 : (cs.toList.take b.cells.length).getD (off + i) undef = cs.toList.getD (off + i) undef := by
        rw [List.getD_eq_getElem?_getD, List.getElem?_take, if_pos (by omega), ← List.getD_eq_getElem?_getD]
      rw [e1, ← e2]
      have h5 := h4.res (hpl _ (getD_mem (by omega)))
      exact h5.mono (Ext.res0 (c := c) (c' := c.fin base H w) (Ctx.ext_fin (base := base) s).z)
    · rw [hcells]
      simpa using VRel.lst0 none 0
  | .agg l l' hl, h => by
    obtain ⟨cs, rfl, hr⟩ := h.inv_agg
    exact VRel.agg' (FinL.rel s hl hr)
theorem FinL.rel {c : Ctx} {base : Nat} {H : Heap} {w : World} (s : Sim c H w) {l l' : List AV} {xs : List Value} : FinL base H l l' → LRel c l xs → LRel (c.fin base H w) l' xs
  | .nil, h => ⟨h.1, fun i hi => by simp at hi⟩
  | .cons v v' l l' h1 h2, h => by
    obtain ⟨x, r, rfl, hx, hr⟩ := h.head
    exact .cons (Fin1.rel s h1 hx) (FinL.rel s h2 hr)
end

theorem liveAt_take {H : Heap} {n id : Nat} {b : Blk} (h : liveAt (H.take n) id b) : liveAt H id b ∧ id < n := by
  unfold liveAt at h ⊢
  rw [List.getElem?_take] at h
  split at h
  · exact ⟨h, by assumption⟩
  · cases h

theorem Trans.fin {c c1 : Ctx} {H H1 : Heap} {w w1 : World} (h : Trans H.length c H w c1 H1 w1) (s : Sim c H w) : Trans H.length c H w (c1.fin H.length H1 w1) (H1.take H.length) w1 := by
  have s1 := h.sim
  have hcl := h.closed H.length (Nat.le_refl _) s.closed
  have hx := Ctx.ext_fin (base := H.length) s1
  have hmm : ∀ id p, (c1.fin H.length H1 w1).m id = some p → id < H.length ∧ c1.m id = some p := by
    intro id p hm
    have : (if id < H.length then c1.m id else none) = some p := hm
    split at this
    · exact ⟨by assumption, this⟩
    · cases this
  refine ⟨⟨fun b cs hz => ?_, fun id v bk hm => ?_⟩, ⟨?_, ?_, ?_, ?_, ?_, ?_, fun b cs h => hx.z _ _ (s1.glob b cs h)⟩, h.grow, h.unch, ?_, ?_, ?_, ?_, h.alike⟩
  · exact hx.z _ _ (h.ext.z _ _ hz)
  · obtain ⟨v', bk', h1, h2⟩ := h.ext.m _ _ _ hm
    refine ⟨v', bk', ?_, h2⟩
    show (if _ then _ else _) = _
    rw [if_pos (s.dom _ _ hm)]
    exact h1
  · intro id p hm
    have := (hmm id p hm).1
    have := h.len
    simp; omega
  · intro id b hl
    obtain ⟨hl1, hid⟩ := liveAt_take hl
    obtain ⟨bk, h1, h2⟩ := s1.blk id b hl1
    refine ⟨bk, ?_, ?_⟩
    · show (if _ then _ else _) = _
      rw [if_pos hid]; exact h1
    · match bk, h2 with
      | none, h2 => exact h2
      | some (k, sz), ⟨cs, T, h3, h4, h5, h6⟩ =>
        refine ⟨cs, T, h3, h4, h5, h6.1, fun i hi => ?_⟩
        exact (h6.2 i hi).fin s1 (hcl id b hl1 hid _ (getD_mem hi))
  · intro i j v v' k sz sz' hi hj
    exact s1.inj _ _ _ _ _ _ _ (hmm _ _ hi).2 (hmm _ _ hj).2
  · intro id v k sz hm
    obtain ⟨hid, hm1⟩ := hmm _ _ hm
    rw [Ctx.fin_neg]
    · exact s1.disj _ _ _ _ hm1
    · rintro ⟨id', v', sz', hb', _, hm'⟩
      have := s1.inj _ _ _ _ _ _ _ hm1 hm'
      omega
  · intro id v k sz hm
    exact s1.bnd _ _ _ _ (hmm _ _ hm).2
  · intro b cs hz
    by_cases ho : OwnedFrom c1 H1 H.length b
    · rw [Ctx.fin_pos ho] at hz
      unfold rowOf at hz
      split at hz
      · rename_i l T fz hl
        cases hz
        exact ⟨T, fz, by simpa using hl⟩
      · cases hz
    · rw [Ctx.fin_neg ho] at hz
      exact s1.froz _ _ hz
  · intro b ⟨id, v, sz, h2⟩
    exact h.back b ⟨id, v, sz, (hmm _ _ h2).2⟩
  · intro b cs hz
    by_cases ho : OwnedFrom c1 H1 H.length b
    · obtain ⟨id, v, sz, _, _, hm⟩ := ho
      exact .inr (h.back b ⟨id, v, sz, hm⟩)
    · rw [Ctx.fin_neg ho] at hz
      exact h.zback b cs hz
  · have := h.len; simp; omega
  · intro n hn hc i b hl hin x hx'
    exact h.closed n hn hc i b (liveAt_take hl).1 hin x hx'

theorem step_sound {E : Env} (hE : EnvOk E) (hD : DrawOk E) {f : FuncId} {args : List AV} {H : Heap} {v : AV} {H' : Heap} (h : Step E (CallOk E) f args H v H') : CallOk E f args H v H' := by
  obtain ⟨fn, code, h1, h2, h3, h4, h5⟩ := h
  simp only [fnOk, Bool.and_eq_true, Bool.not_eq_true'] at h3
  refine ⟨⟨fn, h1, by simp [h2], h3.2⟩, fun c w cargs s ha => ?_⟩
  refine calls_of_wp h1 h2 (wpA_sound hE hD (fun _ _ _ _ _ h => h) code h3.1 h5 (initFr_rel ha h4) s (Nat.le_refl _) fun e fr1 H1 c1 a1 w1 hk hf ht => ?_)
  have key : a1.defers = [] ∧ ∃ x, (results fn a1.tmps).run E.P w1 = .ok x w1 ∧ (∃ c' y, Ending.returned x = .returned y ∧ VRel c' v y ∧ Trans H.length c H w c' H' w1) := by
    obtain ⟨_, vs, hr, hfin⟩ := hk
    obtain ⟨xs, h6, h7⟩ := results_sound hE ht.sim hf _ hr
    refine ⟨hf.defers, _, run_results h6, ?_⟩
    split at hfin
    · obtain ⟨rfl, rfl⟩ := hfin
      exact ⟨c1, _, rfl, h7.pack, ht⟩
    · obtain ⟨vs', h8, rfl, rfl⟩ := hfin
      exact ⟨_, _, rfl, (FinL.rel (w := w1) ht.sim h8 h7).pack, ht.fin s⟩
  cases e with
  | normal => exact key
  | ret => exact key
  | exit id => exact hk.1.elim

/-- **A call of the interpreter's is one of the machine's.** -/
theorem Call.ok {E : Env} (hE : EnvOk E) (hD : DrawOk E) (hG : ∀ f args v, E.given f args v → ∀ H, CallOk E f args H v H) {f : FuncId} {args : List AV} {H : Heap} {v : AV} {H' : Heap} (h : Call E f args H v H') : CallOk E f args H v H' :=
  h (CallOk E) (fun _ _ _ _ _ hs => step_sound hE hD hs) fun f args H v hg => hG f args v hg H
end Go.Proofs.YtimdnnlfkkkpbaaDoor
