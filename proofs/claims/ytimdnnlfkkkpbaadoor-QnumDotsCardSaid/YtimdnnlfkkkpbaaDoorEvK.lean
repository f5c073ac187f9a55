/- The interpreter is sound: operations with calls, regions in order, code, functions. -/
import Derived.Test.YtimdnnlfkkkpbaaDoorEvJ
set_option linter.unusedSimpArgs false
set_option linter.unusedVariables false
namespace Go.Proofs.YtimdnnlfkkkpbaaDoor

def rowAt (w : World) (k : Nat) : Option (List Value) :=
  match w.heap[k]? with
  | some (.cells cs _ _) => some cs.toList
  | _ => none
theorem Trans.weaken {base base' : Nat} {c : Ctx} {H : Heap} {w : World} {c' : Ctx} {H' : Heap} {w' : World} (h : Trans base' c H w c' H' w') (hb : base ≤ base') : Trans base c H w c' H' w' :=
  ⟨h.ext, h.sim, h.grow, h.unch, h.back, h.zback, h.len, fun n hn hc => h.closed n (by omega) hc, h.alike⟩

/-- What a call is to do on the machine. -/
def CallOk (E : Env) : CallRel := fun f args H v H' =>
  (∃ fn, E.P.funcs[f]? = some fn ∧ fn.body.isSome = true ∧ (fn.name == "runtime.NumGoroutine") = false) ∧
  ∀ c w cargs, Sim c H w → LRel c args cargs → Calls E.P f cargs.toArray w (fun e w' => ∃ c' x, e = .returned x ∧ VRel c' v x ∧ Trans H.length c H w c' H' w')

theorem builtin_sound {E : Env} (hE : EnvOk E) {base : Nat} {c : Ctx} {H : Heap} {w : World} (s : Sim c H w) (hb : base ≤ H.length) {b : Builtin} {ts : Array TypeId} {ty : TypeId} {cst : Array Bool} {args : List AV} {cargs : List Value} (ha : LRel c args cargs)
    {v : AV} {H' : Heap} (hm : mayAppend base b args H) (h : builtinA E b ts.toList args H = some (v, H')) : ∃ c' x w', (builtin b ts ty cst cargs.toArray).run E.P w = .ok (.value x) w' ∧ VRel c' v x ∧ Trans base c H w c' H' w' := by
  have wrapv : ∀ {q : Sem Value}, Did E base c H w q v H' → ∃ c' x w', (do pure (Next.value (← q)) : Sem Next).run E.P w = .ok (.value x) w' ∧ VRel c' v x ∧ Trans base c H w c' H' w' := by
    intro q ⟨c', x, w', h1, h2, h3⟩
    exact ⟨c', x, w', by simp [h1], h2, h3⟩
  unfold builtinA at h
  split at h
  · -- len
    rename_i x
    obtain ⟨x', r, rfl, hx, hr⟩ := ha.head
    have hr0 : r = [] := List.eq_nil_of_length_eq_zero (by simpa using hr.1.symm)
    subst hr0
    have hts : ts.toList[0]? = ts[0]? := by simp
    rw [hts] at h
    cases h0 : ts[0]? with
    | none => simp [h0] at h
    | some t =>
      simp only [h0, Option.bind_some] at h
      cases hk : E.kd t with
      | none => simp [hk] at h
      | some k =>
        simp only [hk, Option.bind_some] at h
        cases hl : lenOfA k x with
        | none => simp [hl] at h
        | some n =>
          simp only [hl, Option.map_some, Option.some.injEq, Prod.mk.injEq] at h
          obtain ⟨rfl, rfl⟩ := h
          simp only [builtin]
          refine wrapv (.still s (x := .int .i64 n) ?_ (.int _ _))
          unfold lenOfA at hl
          have hgo : ∀ m : Nat, goInt (m : Int) = Value.int .i64 m := fun m => rfl
          split at hl
          · cases hl
            obtain ⟨e, ie, d, hu, _⟩ := kd_array hE hk
            simp [Builtin.len_, h0, run_underlying hu, hgo]
          · cases hl
            obtain ⟨hu, _⟩ := kd_slice hE hk
            cases hx
            simp [Builtin.len_, h0, run_underlying hu, goInt]
          · cases hl
            obtain ⟨hu, _⟩ := kd_slice hE hk
            cases hx <;> simp [Builtin.len_, h0, run_underlying hu, goInt]
          · cases hl
            obtain ⟨hu, _⟩ := kd_slice hE hk
            cases hx <;> simp [Builtin.len_, h0, run_underlying hu, goInt]
          · cases hl
            obtain ⟨i, d, _, hd, hkd⟩ := kd_spec hE hk
            cases d <;> simp only [kindOk, Bool.false_eq_true] at hkd
            obtain rfl := hx.inv_str
            simp [Builtin.len_, h0, run_underlying hd, goInt]
          · cases hl
  · -- max of two
    rename_i k a k' b
    obtain ⟨x', r, rfl, hx, hr⟩ := ha.head
    obtain ⟨y', r', rfl, hy, hr'⟩ := hr.head
    have hr0 : r' = [] := List.eq_nil_of_length_eq_zero (by simpa using hr'.1.symm)
    subst hr0
    obtain rfl := hx.inv_int; obtain rfl := hy.inv_int
    split at h
    · rename_i hkk
      subst hkk
      simp only [Option.some.injEq, Prod.mk.injEq] at h
      obtain ⟨rfl, rfl⟩ := h
      simp only [builtin]
      refine wrapv (.still s (x := .int k (max a b)) ?_ (.int _ _))
      have := run_max_int2 (P := E.P) w ts ty k k a b
      rw [this]
      congr 2
      split <;> omega
    · cases h
  · -- min of two
    rename_i k a k' b
    obtain ⟨x', r, rfl, hx, hr⟩ := ha.head
    obtain ⟨y', r', rfl, hy, hr'⟩ := hr.head
    have hr0 : r' = [] := List.eq_nil_of_length_eq_zero (by simpa using hr'.1.symm)
    subst hr0
    obtain rfl := hx.inv_int; obtain rfl := hy.inv_int
    split at h
    · rename_i hkk
      subst hkk
      simp only [Option.some.injEq, Prod.mk.injEq] at h
      obtain ⟨rfl, rfl⟩ := h
      simp only [builtin]
      refine wrapv (.still s (x := .int k (min a b)) ?_ (.int _ _))
      have := run_min_int2 (P := E.P) w ts ty k k a b
      rw [this]
      congr 2
      split <;> omega
    · cases h
  · -- max of three
    rename_i k a k' b k'' d
    obtain ⟨x', r, rfl, hx, hr⟩ := ha.head
    obtain ⟨y', r', rfl, hy, hr'⟩ := hr.head
    obtain ⟨z', r'', rfl, hz, hr''⟩ := hr'.head
    have hr0 : r'' = [] := List.eq_nil_of_length_eq_zero (by simpa using hr''.1.symm)
    subst hr0
    obtain rfl := hx.inv_int; obtain rfl := hy.inv_int; obtain rfl := hz.inv_int
    split at h
    · rename_i hkk
      obtain ⟨rfl, rfl⟩ := hkk
      simp only [Option.some.injEq, Prod.mk.injEq] at h
      obtain ⟨rfl, rfl⟩ := h
      simp only [builtin]
      refine wrapv (.still s (x := .int k (max (max a b) d)) ?_ (.int _ _))
      simp only [Builtin.max_, List.foldlM, Builtin.max2, Sem.run_bind, Sem.run_pure, Result.andThen_ok]
      congr 2
      split <;> split <;> omega
    · cases h
  · -- min of three
    rename_i k a k' b k'' d
    obtain ⟨x', r, rfl, hx, hr⟩ := ha.head
    obtain ⟨y', r', rfl, hy, hr'⟩ := hr.head
    obtain ⟨z', r'', rfl, hz, hr''⟩ := hr'.head
    have hr0 : r'' = [] := List.eq_nil_of_length_eq_zero (by simpa using hr''.1.symm)
    subst hr0
    obtain rfl := hx.inv_int; obtain rfl := hy.inv_int; obtain rfl := hz.inv_int
    split at h
    · rename_i hkk
      obtain ⟨rfl, rfl⟩ := hkk
      simp only [Option.some.injEq, Prod.mk.injEq] at h
      obtain ⟨rfl, rfl⟩ := h
      simp only [builtin]
      refine wrapv (.still s (x := .int k (min (min a b) d)) ?_ (.int _ _))
      simp only [Builtin.min_, List.foldlM, Builtin.min2, Sem.run_bind, Sem.run_pure, Result.andThen_ok]
      congr 2
      split <;> split <;> omega
    · cases h
  · -- copy
    rename_i x y
    obtain ⟨x', r, rfl, hx, hr⟩ := ha.head
    obtain ⟨y', r', rfl, hy, hr'⟩ := hr.head
    have hr0 : r' = [] := List.eq_nil_of_length_eq_zero (by simpa using hr'.1.symm)
    subst hr0
    have hts0 : ts.toList[0]? = ts[0]? := by simp
    rw [hts0] at h
    cases h0 : ts[0]? with
    | none => simp [h0] at h
    | some t =>
      simp only [h0, Option.bind_some] at h
      cases hk : E.kd t with
      | none => simp [hk] at h
      | some k =>
        simp only [hk, Option.bind_some] at h
        simp only [builtin]
        refine wrapv (copy_sound hE s hb h0 hk hx hy h ?_)
        intro id ver off len cap esz e cs n esz' hc
        subst e
        rcases hm with h5 | h5
        · exact .inl h5
        · exact .inr (h5 n esz' cs hc)
  · -- append
    rename_i x y
    obtain ⟨x', r, rfl, hx, hr⟩ := ha.head
    obtain ⟨y', r', rfl, hy, hr'⟩ := hr.head
    have hr0 : r' = [] := List.eq_nil_of_length_eq_zero (by simpa using hr'.1.symm)
    subst hr0
    have hts0 : ts.toList[0]? = ts[0]? := by simp
    have hts1 : ts.toList[1]? = ts[1]? := by simp
    rw [hts0, hts1] at h
    cases h0 : ts[0]? with
    | none => simp [h0] at h
    | some t =>
      simp only [h0, Option.bind_some] at h
      cases hk : E.kd t with
      | none => simp [hk] at h
      | some k =>
        simp only [hk, Option.bind_some] at h
        cases h1 : ts[1]? with
        | none => simp [h1] at h
        | some u =>
          simp only [h1, Option.bind_some] at h
          cases hk2 : E.kd u with
          | none => simp [hk2] at h
          | some k2 =>
            simp only [hk2, Option.bind_some] at h
            split at h
            · rename_i hs2
              simp only [builtin]
              refine wrapv (append_sound hE s hb h0 h1 hk hk2 hs2 hx hy h ?_)
              intro id ver off len cap esz e cs n esz' hc
              subst e
              rcases hm with h5 | h5
              · exact .inl h5
              · exact .inr (h5 n esz' cs hc)
            · cases h
  · cases h

theorem stepA_sound {E : Env} (hE : EnvOk E) {C : CallRel} (hC : ∀ f args H v H', C f args H v H' → CallOk E f args H v H') {f base : Nat} {c : Ctx} {H : Heap} {w : World} (s : Sim c H w) (hb : base ≤ H.length) {n : Nat} {fr : Fr} {a : Act} (hf : FRel c n fr a)
    {o : Oper} {K : AV → Heap → Prop} (h : stepA E C f base o fr H K) {next : Act → World → Prop} {Q : Exit → Act → World → Prop}
    (hnext : ∀ v H' c' x w', K v H' → VRel c' v x → Trans base c H w c' H' w' → next (a.put o.dst x) w') : o.wp E.P a w next Q := by
  unfold Oper.wp
  unfold stepA at h
  split at h
  · -- a call
    rename_i cl hop
    have hex : execOp a.eval o = (do let d ← resolve a.eval cl o.type; invoke d.target d.args) := by simp only [execOp, hop]
    rw [hex]
    have hargs : LRel c (cl.args.toList.map fr.ev) (cl.args.toList.map a.eval) := LRel.map _ fun x _ => hf.ev x
    split at h
    · rename_i g hg
      unfold fnThen at h
      split at h
      · rename_i hh caps he
        have hgv := hf.ev g
        rw [he] at hgv
        obtain ⟨caps', e1, hcaps⟩ := hgv.inv_fn
        have hres : (resolve a.eval cl o.type).run E.P w = .ok { target := .fn (.func hh) caps'.toArray, args := #[] ++ cl.args.map a.eval } w := by
          simp only [resolve, hg, Deferred.ofValue, e1, Sem.run_pure]
        have hall : #[] ++ cl.args.map a.eval ++ caps'.toArray = (cl.args.toList.map a.eval ++ caps').toArray := by
          apply Array.ext'; simp
        have hrun : (do let d ← resolve a.eval cl o.type; invoke d.target d.args : Sem Next).run E.P w = (callFunc hh (cl.args.toList.map a.eval ++ caps').toArray).run E.P w := by
          rw [Sem.run_bind, hres, Result.andThen_ok]
          simp only [invoke, hall]
        rw [hrun]
        have hl := hargs.append hcaps
        split at h
        · rename_i v hv
          obtain ⟨x, h1, h2⟩ := hE.ext _ _ _ hv c _ w hl
          rw [h1]
          exact hnext _ _ _ _ _ h h2 (.refl s)
        · obtain ⟨v, H', h1, h2⟩ := h
          obtain ⟨⟨fn, h3, h4, h5⟩, h6⟩ := hC _ _ _ _ _ h1
          have hcf : (callFunc hh (cl.args.toList.map a.eval ++ caps').toArray).run E.P w = .ok (.enter hh (cl.args.toList.map a.eval ++ caps').toArray) w := by
            simp only [callFunc, Sem.run_bind, run_program, Result.andThen_ok, h3, h5]
            cases hbd : fn.body with
            | none => simp [hbd] at h4
            | some b => simp
          rw [hcf]
          simp only [Oper.upon]
          refine (h6 c w _ s hl).mono fun e w' he' => ?_
          obtain ⟨c', x, rfl, h7, h8⟩ := he'
          exact hnext _ _ _ _ _ h2 h7 (h8.weaken hb)
      · exact h.elim
    · rename_i b hg
      obtain ⟨hm, h⟩ := h
      obtain ⟨cst, hres⟩ : ∃ cst, (resolve a.eval cl o.type).run E.P w = .ok { target := .builtin b cl.argTypes o.type cst, args := cl.args.map a.eval } w := ⟨_, by
        simp only [resolve, hg, Sem.run_pure]; rfl⟩
      unfold someThen at h
      split at h
      · rename_i v H' hv
        obtain ⟨c', x, w', h1, h2, h3⟩ := builtin_sound hE s hb (ty := o.type) (cst := cst) hargs hm hv
        have hrun : (do let d ← resolve a.eval cl o.type; invoke d.target d.args : Sem Next).run E.P w = .ok (.value x) w' := by
          rw [Sem.run_bind, hres, Result.andThen_ok]
          simp only [invoke]
          have e2 : (cl.args.toList.map a.eval).toArray = cl.args.map a.eval := by rw [← Array.toList_map, Array.toArray_toList]
          rw [e2] at h1
          exact h1
        rw [hrun]
        exact hnext _ _ _ _ _ h h2 h3
      · exact h.elim
    · exact h.elim
  · -- a store
    rename_i t oa ox hop
    split at h
    · rename_i ti ht
      unfold storeThen at h
      split at h
      · rename_i id vs H' hst
        obtain ⟨hmay, hK⟩ := h
        obtain ⟨c', w', h1, h2⟩ := store_sound hE s ht (hf.ev oa) (hf.ev ox) hst hmay
        have hrun : (execOp a.eval o).run E.P w = .ok .skip w' := by
          simp only [execOp, hop]
          simp [h1]
        rw [hrun]
        exact hnext _ _ c' undef _ hK (VRel.tup' (l := []) (l' := []) .nil) h2
      · exact h.elim
    · exact h.elim
  · unfold someThen at h
    split at h
    · rename_i v H' hv
      obtain ⟨c', x, w', h1, h2, h3⟩ := opA_sound hE s hb hf hv
      rw [h1]
      exact hnext _ _ _ _ _ h h2 h3
    · exact h.elim

theorem guard_sound {c : Ctx} {n : Nat} {fr : Fr} {a : Act} (hf : FRel c n fr a) {all : Array Oper} {o : Oper} {b : Bool} (h : guardA all fr o.guard = some b) : Region.wanted o (yielded all a.tmps) = b := by
  unfold guardA at h
  unfold Region.wanted
  split at h
  · rename_i hg
    cases h
    simp [hg]
  · rename_i j want hg
    simp only [hg]
    unfold yielded
    split at h
    · rename_i d hd
      have hr := hf.rel d
      split at h
      · rename_i t he
        cases h
        rw [he] at hr
        have e1 := hr.inv_bool
        have e2 : a.tmps[d]? = some (.bool t) := by
          cases hq : a.tmps[d]? with
          | none => simp [Array.getD_eq_getD_getElem?, hq, undef] at e1
          | some y => simp [Array.getD_eq_getD_getElem?, hq] at e1; rw [e1]
        simp only [hd, Option.bind_some, e2]
        cases t <;> cases want <;> rfl
      · rename_i he
        cases h
        rw [he] at hr
        obtain ⟨l', e1, hl⟩ := hr.inv_tup
        simp only [hd, Option.bind_some]
        cases hq : a.tmps[d]? with
        | none => simp
        | some y =>
          have : y = .tuple l'.toArray := by simpa [Array.getD_eq_getD_getElem?, hq] using e1
          subst this
          simp
      · cases h
    · cases h

theorem wpOpsA_sound {E : Env} (hE : EnvOk E) {C : CallRel} (hC : ∀ f args H v H', C f args H v H' → CallOk E f args H v H') {f base : Nat} {all : Array Oper} {n : Nat} {Q : Exit → Act → World → Prop} {K : Fr → Heap → Prop} :
    ∀ (l : List (Nat × Oper)), (∀ p ∈ l, all[p.1]? = some p.2 ∧ ∀ d, p.2.dst = some d → d < n) → ∀ {fr : Fr} {H : Heap} {a : Act} {w : World} {c : Ctx}, wpOpsA E C f base all (l.map fun p => (p.2, Tag.seq)) fr H K → FRel c n fr a → Sim c H w → base ≤ H.length →
      (∀ fr' H' c' a' w', K fr' H' → FRel c' n fr' a' → Trans base c H w c' H' w' → Q .normal a' w') → wpOps E.P all Q (l.map (·.1)) a w
  | [], _, fr, H, a, w, c, h, hf, s, _, hQ => hQ fr H c a w h hf (.refl s)
  | (i, o) :: l, hl, fr, H, a, w, c, h, hf, s, hb, hQ => by
    simp only [List.map_cons, wpOpsA] at h
    simp only [List.map_cons, wpOps]
    obtain ⟨hi, hd⟩ := hl (i, o) (by simp)
    simp only [hi]
    split at h
    · rename_i hg
      rw [guard_sound hf hg, if_pos rfl]
      refine .inl (stepA_sound hE hC s hb hf h fun v H' c' x w' hk hv ht => ?_)
      refine wpOpsA_sound hE hC l (fun p hp => hl p (by simp [hp])) hk ((hf.mono ht.ext).put hd hv) ht.sim (Nat.le_trans hb ht.len) fun fr2 H2 c2 a2 w2 h1 h2 h3 => hQ fr2 H2 c2 a2 w2 h1 h2 (ht.trans h3)
    · rename_i hg
      rw [guard_sound hf hg, if_neg (by simp)]
      exact wpOpsA_sound hE hC l (fun p hp => hl p (by simp [hp])) h (hf.put hd (VRel.tup' (l := []) (l' := []) .nil)) s hb hQ
    · exact h.elim

/-! ### slices that grow no more -/
def zFrz (c : Ctx) (w : World) : Option (Nat × Nat) → Nat → Option (List Value)
  | some (k, _), j => if j = k then rowAt w k else c.z j
  | none, j => c.z j
theorem blk_frozen {base id : Nat} {c : Ctx} {H : Heap} {w : World} (s : Sim c H w) {b : Blk} (hl : liveAt H id b) :
    ∃ c', Trans base c H w c' (H.set id none) w ∧ c'.m id = some (b.ver + 1, none) ∧ (∀ k sz v cs T, c.m id = some (v, some (k, sz)) → w.heap[k]? = some (.cells cs T (0, 0)) → c'.z k = some cs.toList) := by
  obtain ⟨bk, hm, hb⟩ := s.blk id b hl
  have hid : id < H.length := s.dom _ _ hm
  have hlive : ∀ i x, liveAt (H.set id none) i x → i ≠ id ∧ liveAt H i x := by
    intro i x h
    unfold liveAt at h ⊢
    rw [List.getElem?_set] at h
    split at h
    · first
        | (simp at h; done)
        | (split at h <;> simp at h; done)
    · exact ⟨fun e => by omega, h⟩
  have hzk : ∀ k sz, bk = some (k, sz) → c.z k = none := fun k sz e => s.disj _ _ _ _ (by rw [hm, e])
  let z' : Nat → Option (List Value) := zFrz c w bk
  let c' : Ctx := { z := z', m := fun i => if i = id then some (b.ver + 1, none) else c.m i }
  have hz : ∀ j cs, c.z j = some cs → z' j = some cs := by
    intro j cs h
    show zFrz c w bk j = some cs
    match bk, hzk with
    | none, _ => exact h
    | some (k, sz), hzk =>
      by_cases e : j = k
      · subst e; rw [hzk j sz rfl] at h; cases h
      · simp only [zFrz, e, if_false]; exact h
  have hz' : ∀ j cs, z' j = some cs → c.z j = some cs ∨ ∃ sz, bk = some (j, sz) ∧ rowAt w j = some cs := by
    intro j cs h
    have h : zFrz c w bk j = some cs := h
    clear hm hb hzk hz
    match bk, h with
    | none, h => exact .inl h
    | some (k, sz), h =>
      by_cases e : j = k
      · subst e; simp only [zFrz, if_true] at h; exact .inr ⟨sz, rfl, h⟩
      · simp only [zFrz, e, if_false] at h; exact .inl h
  have hmm : ∀ i v k sz, c'.m i = some (v, some (k, sz)) → i ≠ id ∧ c.m i = some (v, some (k, sz)) := by
    intro i v k sz h
    have h : (if i = id then some (b.ver + 1, none) else c.m i) = some (v, some (k, sz)) := h
    split at h
    · simp at h
    · exact ⟨by assumption, h⟩
  have hx : Ext c c' := by
    refine ⟨hz, fun i v q h => ?_⟩
    by_cases e : i = id
    · subst e
      rw [hm] at h
      simp only [Option.some.injEq, Prod.mk.injEq] at h
      exact ⟨b.ver + 1, none, by simp [c'], .inr (by omega)⟩
    · exact ⟨v, q, by simp [c', e, h], .inl ⟨rfl, rfl⟩⟩
  refine ⟨c', ⟨hx, ⟨?_, ?_, ?_, ?_, ?_, ?_, fun b cs h => hx.z _ _ (s.glob b cs h)⟩, Nat.le_refl _, fun _ _ _ => rfl, ?_, ?_, by simp, ?_, .refl w⟩, by simp [c'], ?_⟩
  · intro i p h
    have h : (if i = id then some (b.ver + 1, none) else c.m i) = some p := h
    rw [List.length_set]
    split at h
    · rename_i e; rw [e]; exact hid
    · exact s.dom _ _ h
  · intro i x h
    obtain ⟨hne, h⟩ := hlive i x h
    obtain ⟨q, h1, h2⟩ := s.blk i x h
    exact ⟨q, by simp [c', hne, h1], h2.mono hx fun _ _ _ => rfl⟩
  · intro i j v v' k sz sz' hi hj
    exact s.inj _ _ _ _ _ _ _ (hmm _ _ _ _ hi).2 (hmm _ _ _ _ hj).2
  · intro i v k sz hi
    obtain ⟨hne, hi⟩ := hmm _ _ _ _ hi
    cases hq : z' k with
    | none => exact hq
    | some cs =>
      rcases hz' k cs hq with h | ⟨sz', h, _⟩
      · rw [s.disj _ _ _ _ hi] at h; cases h
      · exact absurd (s.inj _ _ _ _ _ _ _ hi (by rw [hm, h])) hne
  · intro i v k sz hi
    exact s.bnd _ _ _ _ (hmm _ _ _ _ hi).2
  · intro j cs hj
    rcases hz' j cs hj with h | ⟨sz, _, h⟩
    · exact s.froz _ _ h
    · unfold rowAt at h
      split at h
      · rename_i l T fz hl
        cases h
        exact ⟨T, fz, by simpa using hl⟩
      · cases h
  · rintro j ⟨i, v, sz, h⟩
    exact .inl ⟨i, v, sz, (hmm _ _ _ _ h).2⟩
  · intro j cs hj
    rcases hz' j cs hj with h | ⟨sz, h, _⟩
    · exact .inl h
    · exact .inr (.inl ⟨id, _, sz, by rw [hm, h]⟩)
  · intro m hm' hc i x h him y hy
    exact hc i x (hlive i x h).2 him y hy
  · intro k sz v cs T h1 h2
    rw [hm] at h1
    simp only [Option.some.injEq, Prod.mk.injEq] at h1
    show zFrz c w bk k = some cs.toList
    rw [h1.2]
    simp [zFrz, rowAt, h2]

theorem FRel.over {c : Ctx} {n : Nat} {fr : Fr} {a : Act} (h : FRel c n fr a) {t : Nat} {v : AV} (hv : VRel c v (a.tmps.getD t undef)) : FRel c n (fr.put (some t) v) a := by
  refine ⟨h.size, fun u => ?_, h.defers⟩
  simp only [Fr.put, Fr.get]
  split
  · rename_i e; subst e; exact hv
  · exact h.rel u

theorem frz_sound {base n : Nat} : ∀ (ts : List Nat) {fr : Fr} {H : Heap} {K : Fr → Heap → Prop} {c : Ctx} {a : Act} {w : World}, frzThen base ts fr H K → FRel c n fr a → Sim c H w →
    ∃ fr' H' c', K fr' H' ∧ FRel c' n fr' a ∧ Trans base c H w c' H' w
  | [], fr, H, K, c, a, w, h, hf, s => ⟨fr, H, c, h, hf, .refl s⟩
  | t :: ts, fr, H, K, c, a, w, h, hf, s => by
    simp only [frzThen] at h
    split at h
    · rename_i id ver off len cap esz hv
      split at h
      · rename_i b hb
        obtain ⟨_, hlen, hpl, hk⟩ := h
        obtain ⟨hlive, hver⟩ := blkAt_some hb
        obtain ⟨c', ht, _, hz⟩ := blk_frozen (base := base) s hlive
        have hr := hf.rel t
        rw [hv] at hr
        have key : VRel c' (.lst ((b.cells.drop off).take (len * esz)) len) (a.tmps.getD t undef) := by
          rcases s.sl hr hb with ⟨k, sz, cs, T, cap', e, h1, h2, h3, hm, hk', rfl, hle, hr'⟩ | ⟨e, rfl, rfl, rfl, hcells, hm⟩
          · rw [e]
            have hl : ((b.cells.drop off).take (len * esz)).length = len * esz := by simp; omega
            refine .lst _ _ _ _ _ _ (by omega) (hz _ _ _ _ _ hm hk') (by rw [hl]; simp; omega) fun i hi => ?_
            rw [hl] at hi
            have h4 := hr'.2 (off + i) (by omega)
            have e1 : ((b.cells.drop off).take (len * esz)).getD i .undef = b.cells.getD (off + i) .undef := by
              rw [List.getD_eq_getElem?_getD, List.getElem?_take, if_pos hi, List.getElem?_drop, ← List.getD_eq_getElem?_getD]
            have e2 : (cs.toList.take b.cells.length).getD (off + i) undef = cs.toList.getD (off + i) undef := by
              rw [List.getD_eq_getElem?_getD, List.getElem?_take, if_pos (by omega), ← List.getD_eq_getElem?_getD]
            rw [e1, ← e2]
            exact (h4.res (hpl _ (getD_mem (by omega)))).mono (Ext.res0 (c := c) (c' := c') ht.ext.z)
          · rw [e, hcells]
            simpa using VRel.lst0 none 0
        obtain ⟨fr', H', c2, h1, h2, h3⟩ := frz_sound ts hk ((hf.mono ht.ext).over key) ht.sim
        exact ⟨fr', H', c2, h1, h2, ht.trans h3⟩
      · exact h.elim
    · exact frz_sound ts h hf s
    · exact frz_sound ts h hf s
    · exact h.elim

def exOf : Ex → Exit
  | .normal => .normal
  | .exit id => .exit id
  | .ret => .ret

theorem range_ops (ops : Array Oper) : ∃ l : List (Nat × Oper), l.map (·.1) = List.range ops.size ∧ (l.map fun p => (p.2, Tag.seq)) = ops.toList.map (fun o => (o, Tag.seq)) ∧ ∀ p ∈ l, ops[p.1]? = some p.2 := by
  refine ⟨(List.range ops.size).zip ops.toList, ?_, ?_, ?_⟩
  · rw [List.map_fst_zip]; simp
  · have : ((List.range ops.size).zip ops.toList).map (fun p => (p.2, Tag.seq)) = (((List.range ops.size).zip ops.toList).map (·.2)).map fun o => (o, Tag.seq) := by simp
    rw [this, List.map_snd_zip]; simp
  · intro p hp
    obtain ⟨i, hi, e⟩ := List.getElem_of_mem hp
    simp only [List.getElem_zip, List.getElem_range] at e
    subst e
    simp

theorem dsts_region {n id : Nat} {ops : Array Oper} {draw : Bool} (h : dstsOk n (.region id ops draw) = true) {i : Nat} {o : Oper} (hi : ops[i]? = some o) {d : Nat} (hd : o.dst = some d) : d < n := by
  simp only [dstsOk, List.all_eq_true] at h
  have hm : o ∈ ops.toList := Array.mem_toList_iff.2 (Array.mem_of_getElem? hi)
  have := h o hm
  simpa [hd] using this

theorem wp_loop_of {P : Program} {Q : Exit → Act → World → Prop} {a : Act} {w : World} {c : Code}
    (h : ∀ (b : Frame) (k : List Item) (cs : List Frame), ∃ e a' w', Q e a' w' ∧ Arrives P (lone (b.at a (.code c :: .inLoop c :: k)) cs w) b k cs e a' w') : (Code.loop c).wp P Q a w :=
  fun b k cs => let ⟨e, a', w', q, r⟩ := h b k cs; ⟨e, a', w', q, .of_steps (.one step_loop) r⟩

/-- A round, and then whatever the next ones come to. -/
theorem loop_round {P : Program} {Q : Exit → Act → World → Prop} {a : Act} {w : World} {c : Code}
    (h : c.wp P (Exit.then (fun a w => ∀ (b : Frame) (k : List Item) (cs : List Frame), ∃ e a' w', Q e a' w' ∧ Arrives P (lone (b.at a (.code c :: .inLoop c :: k)) cs w) b k cs e a' w') Q) a w)
    (b : Frame) (k : List Item) (cs : List Frame) : ∃ e a' w', Q e a' w' ∧ Arrives P (lone (b.at a (.code c :: .inLoop c :: k)) cs w) b k cs e a' w' := by
  obtain ⟨e, a₁, w₁, hq, harr⟩ := h b (.inLoop c :: k) cs
  cases e with
  | normal =>
    obtain ⟨e₂, a₂, w₂, hq₂, harr₂⟩ := hq b k cs
    exact ⟨e₂, a₂, w₂, hq₂, .of_steps (Steps.trans harr (.one step_inLoop)) harr₂⟩
  | exit id => exact ⟨_, a₁, w₁, hq, .pass (x := .inLoop c) rfl (fun _ _ => .inl (by simp)) harr⟩
  | goto l => exact ⟨_, a₁, w₁, hq, .pass (x := .inLoop c) rfl (fun _ _ => .inl (by simp)) harr⟩
  | ret => exact ⟨_, a₁, w₁, hq, .pass (x := .inLoop c) rfl (fun _ _ => .inl (by simp)) harr⟩
  | panic ch => exact ⟨_, a₁, w₁, hq, .pass (x := .inLoop c) rfl (fun _ _ => .inl (by simp)) harr⟩
  | outgrown => exact ⟨_, a₁, w₁, hq, .pass (x := .inLoop c) rfl (fun _ _ => .inl (by simp)) harr⟩

/-- Regions that draw: laid in EvL. -/
def DrawOk (E : Env) : Prop := ∀ (C : CallRel), (∀ f args H v H', C f args H v H' → CallOk E f args H v H') → ∀ (f base n id : Nat) (ops : Array Oper) (D : Cert), drawOk ops D = true → dstsOk n (.region id ops true) = true →
  ∀ (fr : Fr) (H : Heap) (K : Fr → Heap → Prop) (a : Act) (w : World) (c : Ctx), wpOpsA E C f base ops (D.ord.filterMap fun p => (ops[p.1]?).map fun o => (o, p.2)) fr H K → FRel c n fr a → Sim c H w → base ≤ H.length →
  ∀ (Q : Exit → Act → World → Prop), (∀ fr' H' c' a' w', K fr' H' → FRel c' n fr' a' → Trans base c H w c' H' w' → Q .normal a' w') → (Code.region id ops true).wp E.P Q a w

theorem wpA_sound {E : Env} (hE : EnvOk E) (hD : DrawOk E) {C : CallRel} (hC : ∀ f args H v H', C f args H v H' → CallOk E f args H v H') {f base n : Nat} : ∀ (code : Code), dstsOk n code = true →
    ∀ {fr : Fr} {H : Heap} {K : Ex → Fr → Heap → Prop} {a : Act} {w : World} {c : Ctx}, wpA E C f base code fr H K → FRel c n fr a → Sim c H w → base ≤ H.length →
    ∀ {Q : Exit → Act → World → Prop}, (∀ e fr' H' c' a' w', K e fr' H' → FRel c' n fr' a' → Trans base c H w c' H' w' → Q (exOf e) a' w') → code.wp E.P Q a w := by
  intro code
  induction code with
  | skip => intro _ fr H K a w c h hf s hb Q hQ; exact wp_skip (hQ _ _ _ _ _ _ h hf (.refl s))
  | region id ops draw =>
    intro hd fr H K a w c h hf s hb Q hQ
    cases draw with
    | false =>
      obtain ⟨fr1, H1, c1, h, hf, ht⟩ := frz_sound _ h hf s
      obtain ⟨l, h1, h2, h3⟩ := range_ops ops
      refine wp_region ?_
      rw [← h1]
      refine wpOpsA_sound (f := f) hE hC l (fun p hp => ⟨h3 p hp, fun d hdd => dsts_region hd (h3 p hp) hdd⟩) (K := fun fr' H' => K .normal (keepA E f id fr') H') ?_ hf ht.sim (Nat.le_trans hb ht.len) fun fr' H' c' a' w' hk h4 h5 => hQ .normal _ _ c' a' w' hk h4.keep (ht.trans h5)
      rw [h2]
      exact h
    | true =>
      obtain ⟨fr1, H1, c1, h, hf, ht⟩ := frz_sound _ h hf s
      obtain ⟨ord, h1, h2⟩ := h
      exact hD C hC f base n id ops ord h1 hd fr1 H1 _ a w c1 h2 hf ht.sim (Nat.le_trans hb ht.len) Q fun fr' H' c' a' w' hk h4 h5 => hQ .normal _ _ c' a' w' hk h4.keep (ht.trans h5)
  | seq x y ihx ihy =>
    intro hd fr H K a w c h hf s hb Q hQ
    simp only [dstsOk, Bool.and_eq_true] at hd
    refine wp_seq (ihx hd.1 h hf s hb fun e fr' H' c' a' w' hk h1 h2 => ?_)
    cases e with
    | normal => exact ihy hd.2 hk h1 h2.sim (Nat.le_trans hb h2.len) fun e2 fr2 H2 c2 a2 w2 h3 h4 h5 => hQ e2 fr2 H2 c2 a2 w2 h3 h4 (h2.trans h5)
    | exit id => exact hQ (.exit id) _ _ c' a' w' hk h1 h2
    | ret => exact hQ .ret _ _ c' a' w' hk h1 h2
  | cond o x y ihx ihy =>
    intro hd fr H K a w c h hf s hb Q hQ
    simp only [dstsOk, Bool.and_eq_true] at hd
    simp only [wpA] at h
    split at h
    · rename_i b he
      have hr := hf.ev o
      rw [he] at hr
      exact wp_cond_split hr.inv_bool (fun hb' => ihx hd.1 (h.1 hb') hf s hb hQ) (fun hb' => ihy hd.2 (h.2 hb') hf s hb hQ)
    · exact h.elim
  | block id x ih =>
    intro hd fr H K a w c h hf s hb Q hQ
    refine wp_block (ih hd h hf s hb fun e fr' H' c' a' w' hk h1 h2 => ?_)
    cases e with
    | normal => exact hQ .normal _ _ c' a' w' hk h1 h2
    | exit id' =>
      simp only [exOf, Exit.inBlock]
      by_cases hid : id' = id
      · simp only [hid, if_true] at hk ⊢; exact hQ .normal _ _ c' a' w' hk h1 h2
      · simp only [hid, if_false] at hk ⊢; exact hQ (.exit id') _ _ c' a' w' hk h1 h2
    | ret => exact hQ .ret _ _ c' a' w' hk h1 h2
  | loop x ih =>
    intro hd fr H K a w c h hf s hb Q hQ
    refine wp_loop_of ?_
    -- whatever world it is come to, as long as it goes on from the one at hand
    let X : Fr → Heap → Prop := fun fr1 H1 => ∀ c1 a1 w1, FRel c1 n fr1 a1 → Trans base c H w c1 H1 w1 → ∀ (b : Frame) (k : List Item) (cs : List Frame), ∃ e a' w', Q e a' w' ∧ Arrives E.P (lone (b.at a1 (.code x :: .inLoop x :: k)) cs w1) b k cs e a' w'
    have hX : X fr H := by
      refine h X fun fr1 H1 h1 c1 a1 w1 hf1 ht1 => ?_
      refine loop_round (ih hd h1 hf1 ht1.sim (Nat.le_trans hb ht1.len) fun e fr' H' c' a' w' hk h2 h3 => ?_)
      cases e with
      | normal => exact hk c' a' w' h2 (ht1.trans h3)
      | exit id => exact hQ (.exit id) _ _ c' a' w' hk h2 (ht1.trans h3)
      | ret => exact hQ .ret _ _ c' a' w' hk h2 (ht1.trans h3)
    exact hX c a w hf (.refl s)
  | exit id => intro _ fr H K a w c h hf s hb Q hQ; exact wp_exit (hQ (.exit id) _ _ _ _ _ h hf (.refl s))
  | ret => intro _ fr H K a w c h hf s hb Q hQ; exact wp_ret (hQ .ret _ _ _ _ _ h hf (.refl s))
  | rangeFunc => intro _ fr H K a w c h; exact h.elim
  | scope => intro _ fr H K a w c h; exact h.elim
  | label => intro _ fr H K a w c h; exact h.elim
  | goto => intro _ fr H K a w c h; exact h.elim
  | refuse => intro _ fr H K a w c h; exact h.elim

/-! ### functions -/
theorem getD_range_zip (args : List AV) (t : Nat) : Fr.get (initFr args) t = args.getD t .undef := by
  have key : ∀ (l : List AV) (k : Nat), Fr.get ((List.range' k l.length).zip l) t = if k ≤ t then l.getD (t - k) .undef else .undef := by
    intro l
    induction l with
    | nil => intro k; simp [Fr.get]
    | cons x l ih =>
      intro k
      simp only [List.length_cons, List.range'_succ, List.zip_cons_cons, Fr.get]
      rw [ih (k + 1)]
      by_cases e : t = k
      · subst e; simp
      · rw [if_neg e]
        by_cases h : k ≤ t
        · have : t - k = (t - (k + 1)) + 1 := by omega
          rw [if_pos (by omega), if_pos h, this]
          simp
        · rw [if_neg (by omega), if_neg h]
  have := key args 0
  unfold initFr
  rw [List.range_eq_range', this]
  simp

theorem initFr_rel {c : Ctx} {args : List AV} {cargs : List Value} (h : LRel c args cargs) {n : Nat} (hn : args.length ≤ n) : FRel c n (initFr args) { tmps := cargs.toArray ++ Array.replicate (n - cargs.toArray.size) undef, defers := [] } := by
  have hl : args.length = cargs.length := h.1
  refine ⟨by simp; omega, fun t => ?_, rfl⟩
  rw [getD_range_zip]
  by_cases ht : t < args.length
  · have := h.2 t ht
    have e : (cargs.toArray ++ Array.replicate (n - cargs.toArray.size) undef).getD t undef = cargs.getD t undef := by
      have ht' : t < cargs.length := by omega
      simp [Array.getD_eq_getD_getElem?, Array.getElem?_append, ht', List.getD_eq_getElem?_getD]
    rw [e]; exact this
  · rw [List.getD_eq_getElem?_getD, List.getElem?_eq_none (by omega)]
    exact .undef _

theorem results_sound {E : Env} (hE : EnvOk E) {c : Ctx} {H : Heap} {w : World} (s : Sim c H w) {n : Nat} {fr : Fr} {a : Act} (hf : FRel c n fr a) : ∀ (rs : List ResultVar) {vs : List AV}, resultsA E fr H rs = some vs →
    ∃ xs, (rs.mapM fun r => (match r with | .tmp t => pure (a.tmps.getD t undef) | .cell p t => do loadVar t (← asAddr (a.tmps.getD p undef)) : Sem Value)).run E.P w = .ok xs w ∧ LRel c vs xs
  | [], vs, h => by
    simp only [resultsA, List.mapM_nil] at h
    cases h
    exact ⟨[], by simp, .nil⟩
  | r :: rs, vs, h => by
    simp only [resultsA, List.mapM_cons] at h
    cases hr : resA E fr H r with
    | none => simp [hr] at h
    | some v =>
      simp only [hr, Option.bind_eq_bind, Option.bind_some] at h
      cases hrs : rs.mapM (resA E fr H) with
      | none => simp [hrs] at h
      | some vs' =>
        simp only [hrs, Option.bind_some] at h
        cases h
        obtain ⟨xs, h1, h2⟩ := results_sound hE s hf rs (vs := vs') hrs
        have hone : ∃ x, (match r with | .tmp t => pure (a.tmps.getD t undef) | .cell p t => do loadVar t (← asAddr (a.tmps.getD p undef)) : Sem Value).run E.P w = .ok x w ∧ VRel c v x := by
          cases r with
          | tmp t =>
            simp only [resA, Option.some.injEq] at hr
            subst hr
            exact ⟨_, rfl, hf.rel t⟩
          | cell p t =>
            simp only [resA] at hr
            cases ht : E.T t with
            | none => simp [ht] at hr
            | some ti =>
              simp only [ht, Option.bind_some] at hr
              obtain ⟨q, y, h3, h4, h5⟩ := s.load hE ht (hf.rel p) hr
              exact ⟨y, by simp only [h3, asAddr, Sem.run_bind, Sem.run_pure, Result.andThen_ok, h4], h5⟩
        obtain ⟨x, h3, h4⟩ := hone
        refine ⟨x :: xs, ?_, .cons h4 h2⟩
        simp only [List.mapM_cons, Sem.run_bind, h3, Result.andThen_ok, h1, Sem.run_pure]

def packV : List Value → Value
  | [x] => x
  | l => .tuple l.toArray

theorem run_results {P : Program} {fn : Func} {a : Act} {w : World} {xs : List Value}
    (h : (fn.results.toList.mapM fun r => (match r with | .tmp t => pure (a.tmps.getD t undef) | .cell p t => do loadVar t (← asAddr (a.tmps.getD p undef)) : Sem Value)).run P w = .ok xs w) :
    (results fn a.tmps).run P w = .ok (packV xs) w := by
  unfold results
  rw [Array.mapM_eq_mapM_toList]
  simp only [Sem.run_bind, Sem.run_map]
  refine Eq.trans (congrArg (fun r : Result (List Value) => (r.andThen fun a w' => Result.ok a.toArray w').andThen fun a w' => Sem.run P (pure (if h : a.size = 1 then a[0] else Value.tuple a)) w') h) ?_
  simp only [Result.andThen_ok, Sem.run_pure]
  congr 1
  split
  · rename_i hs
    match xs, hs with
    | [x], _ => rfl
  · rename_i hs
    match xs, hs with
    | [], _ => rfl
    | [x], hs => exact absurd rfl hs
    | x :: y :: l, _ => rfl

theorem LRel.pack {c : Ctx} {vs : List AV} {xs : List Value} (h : LRel c vs xs) : VRel c (packA vs) (packV xs) := by
  match vs, xs, h with
  | [], [], h => exact VRel.tup' h
  | [v], [x], h => obtain ⟨y, r, e, h1, h2⟩ := h.head; cases e; exact h1
  | v :: v2 :: vs, x :: x2 :: xs, h => exact VRel.tup' h
  | [], _ :: _, h => exact absurd h.1 (by simp)
  | [_], [], h => exact absurd h.1 (by simp)
  | [_], _ :: _ :: _, h => exact absurd h.1 (by simp)
  | _ :: _ :: _, [], h => exact absurd h.1 (by simp)
  | _ :: _ :: _, [_], h => exact absurd h.1 (by simp)
end Go.Proofs.YtimdnnlfkkkpbaaDoor
