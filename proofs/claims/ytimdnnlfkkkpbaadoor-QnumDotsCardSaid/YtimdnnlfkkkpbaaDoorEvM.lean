/- The interpreter is sound: regions that draw their order. -/
import Derived.Test.YtimdnnlfkkkpbaaDoorEvL
set_option linter.unusedSimpArgs false
set_option linter.unusedVariables false
namespace Go.Proofs.YtimdnnlfkkkpbaaDoor

/-! ### frames that hold the same -/
def FE (fr fr' : Fr) : Prop := ∀ t, fr.get t = fr'.get t
theorem FE.ev {fr fr' : Fr} (h : FE fr fr') : fr.ev = fr'.ev := by
  funext o; cases o with
  | tmp t => exact h t
  | _ => rfl
theorem FE.put {fr fr' : Fr} (h : FE fr fr') (d : Option Nat) (v : AV) : FE (fr.put d v) (fr'.put d v) := by
  cases d with
  | none => exact h
  | some d => intro t; simp only [Fr.put, Fr.get]; split
              · rfl
              · exact h t
theorem FE.comm {fr : Fr} {d d' : Option Nat} {v v' : AV} (h : ∀ x, d = some x → d' ≠ some x) : FE ((fr.put d v).put d' v') ((fr.put d' v').put d v) := by
  cases d with
  | none => intro t; rfl
  | some d =>
    cases d' with
    | none => intro t; rfl
    | some d' =>
      have hne : d ≠ d' := fun e => h d rfl (by rw [e])
      intro t
      simp only [Fr.put, Fr.get]
      by_cases h1 : t = d'
      · subst h1
        rw [if_pos rfl, if_neg (fun e => hne e.symm), if_pos rfl]
      · rw [if_neg h1, if_neg h1]
theorem FRel.fe {c : Ctx} {n : Nat} {fr fr' : Fr} {a : Act} (h : FRel c n fr a) (he : FE fr fr') : FRel c n fr' a := ⟨h.size, fun t => he t ▸ h.rel t, h.defers⟩
theorem get_put_ne {fr : Fr} {d : Option Nat} {v : AV} {t : Nat} (h : d ≠ some t) : (fr.put d v).get t = fr.get t := by
  cases d with
  | none => rfl
  | some d => simp only [Fr.put, Fr.get]; rw [if_neg (fun e => h (by rw [e]))]

/-- An operation looks at its operands alone. -/
theorem ev_map_congr {fr fr' : Fr} {l : List Operand} (h : ∀ x ∈ l, fr.ev x = fr'.ev x) : l.map fr.ev = l.map fr'.ev := List.map_congr_left h
theorem parts_congr {fr fr' : Fr} {l : List (Nat × Operand)} (h : ∀ x ∈ l.map (·.2), fr.ev x = fr'.ev x) : (l.map fun p => (p.1, fr.ev p.2)) = (l.map fun p => (p.1, fr'.ev p.2)) :=
  List.map_congr_left fun p hp => by rw [h p.2 (List.mem_map.2 ⟨p, hp, rfl⟩)]
theorem boundA_congr {fr fr' : Fr} {d : Int} {o : Option Operand} (h : ∀ x, o = some x → fr.ev x = fr'.ev x) : boundA fr d o = boundA fr' d o := by
  cases o with
  | none => rfl
  | some x => simp only [boundA, h x rfl]
theorem sliceA_congr {H : Heap} {fr fr' : Fr} {k : TK} {x : AV} {lo hi : Option Operand} (h1 : ∀ y, lo = some y → fr.ev y = fr'.ev y) (h2 : ∀ y, hi = some y → fr.ev y = fr'.ev y) : sliceA H fr k x lo hi = sliceA H fr' k x lo hi := by
  unfold sliceA
  split <;> simp only [boundA_congr h1, boundA_congr h2]
theorem opA_congr {E : Env} {f : Nat} {dst : Option Nat} {ty : TypeId} {fr fr' : Fr} {H : Heap} {op : Op} (h : ∀ x ∈ op.operands, fr.ev x = fr'.ev x) : opA E f dst ty fr H op = opA E f dst ty fr' H op := by
  cases op <;> simp only [Op.operands] at h <;> simp only [opA]
  case move x => rw [h x (by simp)]
  case assign x => rw [h x (by simp)]
  case pick a b c => rw [h a (by simp), h b (by simp), h c (by simp)]
  case box t x => rw [h x (by simp)]
  case build t ps => rw [parts_congr fun x hx => h x (by simpa using hx)]
  case buildSlice t n ps => rw [parts_congr fun x hx => h x (by simpa using hx)]
  case load t x => rw [h x (by simp)]
  case nilCheck x => rw [h x (by simp)]
  case binOp op t x y u => rw [h x (by simp), h y (by simp)]
  case unOp op t x => rw [h x (by simp)]
  case convert t u x => rw [h x (by simp)]
  case makeInterface t x => rw [h x (by simp)]
  case makeFunc fn first caps =>
    cases fn <;> simp only
    rw [ev_map_congr fun x hx => h x (by simp at hx ⊢; exact .inr hx)]
  case sliceToArrayPointer t x => rw [h x (by simp)]
  case makeSlice t l m => rw [h l (by simp), h m (by simp)]
  case slice t x lo hi mx =>
    cases mx with
    | some m => rfl
    | none =>
      simp only
      rw [h x (by simp)]
      congr 1
      funext k
      rw [sliceA_congr (fun y e => h y (by subst e; simp)) (fun y e => h y (by subst e; simp))]
  case fieldAddr t x i => rw [h x (by simp)]
  case field t x i => rw [h x (by simp)]
  case indexAddr t x i => rw [h x (by simp), h i (by simp)]
  case index t x i => rw [h x (by simp), h i (by simp)]
  case extract x i => rw [h x (by simp)]

theorem call_operands_args {c : Go.Call} {x : Operand} (h : x ∈ c.args.toList) : x ∈ (Op.call c).operands := by
  simp only [Op.operands, Call.operands, Array.mem_append]
  exact .inr (Array.mem_toList_iff.1 h)
theorem call_operands_value {c : Go.Call} {g : Operand} (h : c.callee = .value g) : g ∈ (Op.call c).operands := by
  simp only [Op.operands, Call.operands, h, Array.mem_append]
  exact .inl (by simp)

theorem stepO_congr {E : Env} {f : Nat} {o : Oper} {fr fr' : Fr} {H : Heap} (h : ∀ x ∈ o.op.operands, fr.ev x = fr'.ev x) : stepO E f o fr H = stepO E f o fr' H := by
  unfold stepO
  split
  · rename_i c hc
    rw [hc] at h
    split
    · rename_i g hg
      rw [h g (call_operands_value hg), ev_map_congr fun x hx => h x (call_operands_args hx)]
    · rw [ev_map_congr fun x hx => h x (call_operands_args hx)]
    · rfl
  · exact opA_congr h
theorem stepA_congr {E : Env} {C : CallRel} {f base : Nat} {o : Oper} {fr fr' : Fr} {H : Heap} {K : AV → Heap → Prop} (h : ∀ x ∈ o.op.operands, fr.ev x = fr'.ev x) : stepA E C f base o fr H K = stepA E C f base o fr' H K := by
  unfold stepA
  split
  · rename_i c hc
    rw [hc] at h
    split
    · rename_i g hg
      rw [h g (call_operands_value hg), ev_map_congr fun x hx => h x (call_operands_args hx)]
    · rw [ev_map_congr fun x hx => h x (call_operands_args hx)]
    · rfl
  · rename_i t a x hc
    rw [hc] at h
    simp only [Op.operands] at h
    rw [h a (by simp), h x (by simp)]
  · rw [opA_congr h]
theorem freshA_congr {E : Env} {fr fr' : Fr} {n : Nat} {op : Op} (h : ∀ x ∈ op.operands, fr.ev x = fr'.ev x) : freshA E fr n op = freshA E fr' n op := by
  cases op <;> simp only [Op.operands] at h <;> simp only [freshA]
  case box t x => rw [h x (by simp)]
theorem growO_congr {fr fr' : Fr} {op : Op} (h : ∀ x ∈ op.operands, fr.ev x = fr'.ev x) : growO op fr = growO op fr' := by
  unfold growO
  split
  · split
    · rw [ev_map_congr fun x hx => h x (call_operands_args hx)]
    · rfl
  · rfl
theorem tagThen_congr {E : Env} {C : CallRel} {f base : Nat} {o : Oper} {tag : Tag} {fr fr' : Fr} {H : Heap} {K : AV → Heap → Prop} (h : ∀ x ∈ o.op.operands, fr.ev x = fr'.ev x) : tagThen E C f base o tag fr H K = tagThen E C f base o tag fr' H K := by
  unfold tagThen
  split
  · exact stepA_congr h
  · unfold pureA; rw [stepO_congr h]
  · rw [stepA_congr h]
  · rw [freshA_congr h]
  · rw [stepA_congr h, growO_congr h]
theorem guardA_congr {all : Array Oper} {fr fr' : Fr} {g : Option (Nat × Bool)} (h : ∀ p d, g = some p → (all[p.1]?).bind (·.dst) = some d → fr.get d = fr'.get d) : guardA all fr g = guardA all fr' g := by
  unfold guardA
  split
  · rfl
  · rename_i j want
    split
    · rename_i d hd; rw [h (j, want) d rfl hd]
    · rfl

/-! ### one operation, as a relation -/
def Run1 (E : Env) (C : CallRel) (f base : Nat) (all : Array Oper) (o : Oper) (tag : Tag) (fr : Fr) (H : Heap) (x : AV) (H' : Heap) : Prop :=
  (guardA all fr o.guard = some true ∧ tagThen E C f base o tag fr H fun v H1 => v = x ∧ H1 = H') ∨ (guardA all fr o.guard = some false ∧ x = .tup [] ∧ H' = H)

theorem stepA_ex {E : Env} {C : CallRel} {f base : Nat} {o : Oper} {fr : Fr} {H : Heap} {K : AV → Heap → Prop} (h : stepA E C f base o fr H K) : ∃ v H', stepA E C f base o fr H (fun v1 H1 => v1 = v ∧ H1 = H') ∧ K v H' := by
  unfold stepA at h
  split at h
  · rename_i c hc
    split at h
    · rename_i g hg
      unfold fnThen at h
      split at h
      · rename_i hh caps he
        split at h
        · rename_i v hv
          refine ⟨v, H, ?_, h⟩
          unfold stepA; simp only [hc, hg]; unfold fnThen; simp only [he, hv]; exact ⟨trivial, trivial⟩
        · rename_i hv
          obtain ⟨v, H', h1, h2⟩ := h
          refine ⟨v, H', ?_, h2⟩
          unfold stepA; simp only [hc, hg]; unfold fnThen; simp only [he, hv]; exact ⟨v, H', h1, rfl, rfl⟩
      · exact h.elim
    · rename_i b hg
      obtain ⟨hm, h⟩ := h
      unfold someThen at h
      split at h
      · rename_i v H' hv
        refine ⟨v, H', ?_, h⟩
        unfold stepA; simp only [hc, hg]; refine ⟨hm, ?_⟩; unfold someThen; simp only [hv]; exact ⟨trivial, trivial⟩
      · exact h.elim
    · exact h.elim
  · rename_i t a x hc
    split at h
    · rename_i ti ht
      unfold storeThen at h
      split at h
      · rename_i id vs H' hst
        refine ⟨.tup [], H', ?_, h.2⟩
        unfold stepA; simp only [hc, ht]; unfold storeThen; simp only [hst]; exact ⟨h.1, trivial, trivial⟩
      · exact h.elim
    · exact h.elim
  · rename_i h1 h2
    unfold someThen at h
    split at h
    · rename_i v H' hv
      refine ⟨v, H', ?_, h⟩
      unfold stepA
      split
      · rename_i c hc; exact absurd hc (h1 c)
      · rename_i t a x hc; exact absurd hc (h2 t a x)
      · unfold someThen; simp only [hv]; exact ⟨trivial, trivial⟩
    · exact h.elim
theorem tagThen_ex {E : Env} {C : CallRel} {f base : Nat} {o : Oper} {tag : Tag} {fr : Fr} {H : Heap} {K : AV → Heap → Prop} (h : tagThen E C f base o tag fr H K) : ∃ v H', tagThen E C f base o tag fr H (fun v1 H1 => v1 = v ∧ H1 = H') ∧ K v H' := by
  unfold tagThen at h
  split at h
  · obtain ⟨v, H', h1, h2⟩ := stepA_ex h
    exact ⟨v, H', h1, h2⟩
  · split at h
    · rename_i v hv
      exact ⟨v, H, by unfold tagThen; simp only [hv]; exact ⟨trivial, trivial⟩, h⟩
    · exact h.elim
  · obtain ⟨v, H', h1, h2, h3⟩ := stepA_ex h.2
    refine ⟨v, H', ⟨h.1, stepA_mono (fun _ _ _ _ _ h => h) (fun v1 H1 h4 => ?_) h1⟩, h3⟩
    obtain ⟨rfl, rfl⟩ := h4
    exact ⟨h2, rfl, rfl⟩
  · split at h
    · rename_i v b hv
      exact ⟨v, H ++ [some b], by unfold tagThen; simp only [hv]; exact ⟨trivial, trivial⟩, h⟩
    · exact h.elim
  · obtain ⟨v, H', h1, h2⟩ := stepA_ex h.2
    exact ⟨v, H', ⟨h.1, h1⟩, h2⟩
theorem wpOpsA_iff {E : Env} {C : CallRel} {f base : Nat} {all : Array Oper} {o : Oper} {tag : Tag} {l : List (Oper × Tag)} {fr : Fr} {H : Heap} {K : Fr → Heap → Prop} :
    wpOpsA E C f base all ((o, tag) :: l) fr H K ↔ ∃ x H', Run1 E C f base all o tag fr H x H' ∧ wpOpsA E C f base all l (fr.put o.dst x) H' K := by
  constructor
  · intro h
    simp only [wpOpsA] at h
    split at h
    · rename_i hg
      obtain ⟨v, H', h1, h2⟩ := tagThen_ex h
      exact ⟨v, H', .inl ⟨hg, h1⟩, h2⟩
    · rename_i hg
      exact ⟨_, H, .inr ⟨hg, rfl, rfl⟩, h⟩
    · exact h.elim
  · rintro ⟨x, H', ⟨hg, h1⟩ | ⟨hg, rfl, rfl⟩, h2⟩
    · simp only [wpOpsA, hg]
      refine tagThen_mono (fun _ _ _ _ _ h => h) (fun v1 H1 h3 => ?_) h1
      obtain ⟨rfl, rfl⟩ := h3
      exact h2
    · simp only [wpOpsA, hg]
      exact h2

/-- The temporaries that an operation looks at. -/
theorem looks_ops {all : Array Oper} {o : Oper} {t : Nat} (h : Operand.tmp t ∈ o.op.operands) : t ∈ o.looksAt all := by
  unfold Oper.looksAt
  refine List.mem_append.2 (.inl (List.mem_filterMap.2 ⟨.tmp t, Array.mem_toList_iff.2 h, rfl⟩))
theorem looks_guard {all : Array Oper} {o : Oper} {p : Nat × Bool} {d : Nat} (hg : o.guard = some p) (hd : (all[p.1]?).bind (·.dst) = some d) : d ∈ o.looksAt all := by
  unfold Oper.looksAt
  refine List.mem_append.2 (.inr ?_)
  rw [hg]
  simp only [hd]
  simp

theorem Run1.congr {E : Env} {C : CallRel} {f base : Nat} {all : Array Oper} {o : Oper} {tag : Tag} {fr fr' : Fr} {H : Heap} {x : AV} {H' : Heap} (he : ∀ t ∈ o.looksAt all, fr.get t = fr'.get t) (h : Run1 E C f base all o tag fr H x H') :
    Run1 E C f base all o tag fr' H x H' := by
  have h1 : ∀ y ∈ o.op.operands, fr.ev y = fr'.ev y := by
    intro y hy
    cases y with
    | tmp t => exact he t (looks_ops hy)
    | _ => rfl
  have h2 : guardA all fr o.guard = guardA all fr' o.guard := guardA_congr fun p d hg hd => he d (looks_guard hg hd)
  rcases h with ⟨hg, ht⟩ | ⟨hg, hx⟩
  · exact .inl ⟨h2 ▸ hg, tagThen_congr h1 ▸ ht⟩
  · exact .inr ⟨h2 ▸ hg, hx⟩

/-- Up to frames that hold the same. -/
def upto (K : Fr → Heap → Prop) (fr : Fr) (H : Heap) : Prop := ∃ fr2, FE fr2 fr ∧ K fr2 H
theorem wpOpsA_fe {E : Env} {C : CallRel} {f base : Nat} {all : Array Oper} : ∀ (l : List (Oper × Tag)) {fr fr' : Fr} {H : Heap} {K : Fr → Heap → Prop}, FE fr fr' → wpOpsA E C f base all l fr H (upto K) → wpOpsA E C f base all l fr' H (upto K)
  | [], fr, fr', H, K, he, ⟨fr2, h1, h2⟩ => ⟨fr2, fun t => (h1 t).trans (he t), h2⟩
  | (o, tag) :: l, fr, fr', H, K, he, h => by
    obtain ⟨x, H', h1, h2⟩ := wpOpsA_iff.1 h
    exact wpOpsA_iff.2 ⟨x, H', h1.congr fun t _ => he t, wpOpsA_fe l (he.put _ _) h2⟩

/-! ### what a pure operation does, it does with any heap; a quiet one with a block more -/
theorem blkAt_nil (id ver : Nat) : blkAt [] id ver = none := by simp [blkAt]
theorem opA_pure {E : Env} {f : Nat} {dst : Option Nat} {ty : TypeId} {fr : Fr} {op : Op} {v : AV} (h : opA E f dst ty fr [] op = some (v, [])) (H : Heap) : opA E f dst ty fr H op = some (v, H) := by
  cases op <;> simp only [opA, reduceCtorEq] at h ⊢
  case move x =>
    unfold moveA at h ⊢
    split at h
    · split at h
      · split at h <;> simp at h
      · simp only [Option.some.injEq, Prod.mk.injEq] at h; rename_i hno; simp only [hno]; simp [h.1]
    · rename_i hne
      simp only [Option.some.injEq, Prod.mk.injEq] at h
      simp [h.1]
  case assign x =>
    unfold moveA at h ⊢
    split at h
    · split at h
      · split at h <;> simp at h
      · simp only [Option.some.injEq, Prod.mk.injEq] at h; rename_i hno; simp only [hno]; simp [h.1]
    · rename_i hne
      simp only [Option.some.injEq, Prod.mk.injEq] at h
      simp [h.1]
  case pick a b c =>
    obtain ⟨t, e1, _, e2⟩ := pickA_spec h
    unfold pickA at h ⊢
    rw [e1] at h ⊢
    split at h <;> simp_all
  case alloc t => cases hT : E.T t <;> simp [hT] at h
  case box t x => cases hx : (fr.ev x).cells? <;> simp [hx] at h
  case build t ps =>
    cases hT : E.T t with
    | none => simp [hT] at h
    | some ti =>
      simp only [hT, Option.bind_some] at h ⊢
      cases hb : buildA ti (ps.toList.map fun p => (p.1, fr.ev p.2)) <;> simp_all
  case buildSlice t n ps =>
    cases hk : E.kd t with
    | none => simp [hk] at h
    | some k =>
      simp only [hk, Option.bind_some] at h ⊢
      unfold buildSliceA at h ⊢
      split at h
      · rename_i e esz eb ez
        cases hf : (if n * esz ≤ 16777216 then fillA esz (zeros ez n) (ps.toList.map fun p => (p.1, fr.ev p.2)) else none) with
        | none => rw [hf] at h; simp at h
        | some cs =>
          rw [hf] at h
          simp only [hf, Option.bind_some] at h ⊢
          split at h
          · simp at h
          · rename_i hno
            rw [if_neg hno]
            split at h
            · rename_i hp; rw [if_pos hp]; simp at h; simp [h]
            · simp at h
      · simp at h
  case load t x =>
    cases hT : E.T t with
    | none => simp [hT] at h
    | some ti =>
      simp only [hT, Option.bind_some] at h ⊢
      cases hx : fr.ev x <;> simp only [hx, loadA, blkAt_nil, Option.bind_none, Option.map_none, reduceCtorEq] at h ⊢
      rename_i cs off
      cases hr : readAt ti cs off <;> simp_all
  case nilCheck x => cases hx : nilCheckA (fr.ev x) <;> simp_all
  case binOp op t x y u => cases hx : binB E t (isConst x || isConst y) op (fr.ev x) (fr.ev y) <;> simp_all
  case unOp op t x => cases hx : unA op (fr.ev x) <;> simp_all
  case convert t u x =>
    cases hk : E.kd t with
    | none => simp [hk] at h
    | some k =>
      cases hk' : E.kd u with
      | none => simp [hk, hk'] at h
      | some k' =>
        simp only [hk, hk', Option.bind_some] at h ⊢
        cases hx : convertA k k' (fr.ev x) <;> simp_all
  case makeInterface t x =>
    cases hk : E.kd t with
    | none => simp [hk] at h
    | some k =>
      simp only [hk, Option.bind_some] at h ⊢
      cases hx : makeInterfaceA k t (fr.ev x) <;> simp_all
  case makeFunc fn first caps =>
    cases fn <;> simp only [reduceCtorEq] at h ⊢
    split at h
    · rename_i hs; rw [if_pos hs]; simp at h; simp [h]
    · simp at h
  case sliceToArrayPointer t x =>
    cases hk : E.kd t with
    | none => simp [hk] at h
    | some k =>
      simp only [hk, Option.bind_some] at h ⊢
      cases hx : arrayAtA k (fr.ev x) <;> simp_all
  case makeSlice t l m =>
    cases hk : E.kd t with
    | none => simp [hk] at h
    | some k =>
      simp only [hk, Option.bind_some] at h
      unfold makeSliceA at h
      split at h
      · split at h <;> simp at h
      · simp at h
  case slice t x lo hi mx =>
    cases mx with
    | some m => simp at h
    | none =>
      simp only at h ⊢
      cases hk : E.kd t with
      | none => simp [hk] at h
      | some k =>
        simp only [hk, Option.bind_some] at h ⊢
        have : ∀ u, sliceA [] fr k (fr.ev x) lo hi = some u → sliceA H fr k (fr.ev x) lo hi = some u := by
          intro u hu
          unfold sliceA at hu ⊢
          split at hu
          · simp only [blkAt_nil, Option.bind_none] at hu
            cases boundA fr 0 lo <;> simp at hu
          · exact hu
          · exact hu
          · exact hu
          · cases hu
        cases hx : sliceA [] fr k (fr.ev x) lo hi with
        | none => simp [hx] at h
        | some u => rw [this u hx]; simp [hx] at h; simp [h]
  case fieldAddr t x i =>
    cases hk : E.kd t with
    | none => simp [hk] at h
    | some k =>
      simp only [hk, Option.bind_some] at h ⊢
      cases hx : fieldAddrA k (fr.ev x) i <;> simp_all
  case field t x i =>
    cases hk : E.kd t with
    | none => simp [hk] at h
    | some k =>
      simp only [hk, Option.bind_some] at h ⊢
      cases hx : fieldA k (fr.ev x) i <;> simp_all
  case indexAddr t x i =>
    cases hk : E.kd t with
    | none => simp [hk] at h
    | some k =>
      simp only [hk, Option.bind_some] at h ⊢
      cases hx : indexAddrA k (fr.ev x) (fr.ev i) <;> simp_all
  case index t x i =>
    cases hk : E.kd t with
    | none => simp [hk] at h
    | some k =>
      simp only [hk, Option.bind_some] at h ⊢
      cases hx : indexA k (fr.ev x) (fr.ev i) <;> simp_all
  case extract x i => cases hx : extractA (fr.ev x) i <;> simp_all

theorem builtinA_pure {E : Env} {b : Builtin} {ts : List TypeId} {args : List AV} {v : AV} (h : builtinA E b ts args [] = some (v, [])) (base : Nat) (H : Heap) : mayAppend base b args H ∧ builtinA E b ts args H = some (v, H) := by
  unfold builtinA at h
  split at h
  · rename_i x
    refine ⟨by simp [mayAppend], ?_⟩
    unfold builtinA
    simp only
    cases h0 : ts[0]? with
    | none => simp [h0] at h
    | some t =>
      simp only [h0, Option.bind_some] at h ⊢
      cases hk : E.kd t with
      | none => simp [hk] at h
      | some k =>
        simp only [hk, Option.bind_some] at h ⊢
        cases hl : lenOfA k x <;> simp_all
  · refine ⟨by simp [mayAppend], ?_⟩
    unfold builtinA
    split at h <;> simp_all
  · refine ⟨by simp [mayAppend], ?_⟩
    unfold builtinA
    split at h <;> simp_all
  · refine ⟨by simp [mayAppend], ?_⟩
    unfold builtinA
    split at h
    · rename_i hc; simp only [if_pos hc]; simp at h; simp [h]
    · simp at h
  · refine ⟨by simp [mayAppend], ?_⟩
    unfold builtinA
    split at h
    · rename_i hc; simp only [if_pos hc]; simp at h; simp [h]
    · simp at h
  · exfalso
    rename_i s x
    cases h0 : ts[0]? with
    | none => simp [h0] at h
    | some t =>
      simp only [h0, Option.bind_some] at h
      cases hk : E.kd t with
      | none => simp [hk] at h
      | some k =>
        simp only [hk, Option.bind_some] at h
        unfold copyA at h
        split at h
        · cases hn : lenA x with
          | none => simp [hn] at h
          | some n =>
            simp only [hn, Option.bind_some] at h
            rename_i e esz bytes ez id ver off len cap es
            cases hc : sliceCells [] n esz x with
            | none => simp [hc] at h
            | some cs =>
              simp [hc, blkAt_nil] at h
        · simp at h
  · exfalso
    rename_i s x
    cases h0 : ts[0]? with
    | none => simp [h0] at h
    | some t =>
      simp only [h0, Option.bind_some] at h
      cases hk : E.kd t with
      | none => simp [hk] at h
      | some k =>
        simp only [hk, Option.bind_some] at h
        cases h1 : ts[1]? with
        | none => simp [h1] at h
        | some u =>
          simp only [h1, Option.bind_some] at h
          cases hk2 : E.kd u with
          | none => simp [hk2] at h
          | some k2 =>
            simp only [hk2, Option.bind_some] at h
            split at h
            · unfold appendA at h
              split at h
              · cases hn : lenA x with
                | none => simp [hn] at h
                | some n =>
                  simp only [hn, Option.bind_some] at h
                  rename_i e esz bytes ez
                  cases hc : sliceCells [] n esz x with
                  | none => simp [hc] at h
                  | some cs =>
                    simp only [hc, Option.bind_some] at h
                    split at h
                    · split at h <;> simp at h
                    · simp [blkAt_nil] at h
                    · simp at h
              · simp at h
            · simp at h
  · simp at h

/-- A pure operation, carried out with any heap. -/
theorem pure_step {E : Env} {C : CallRel} {f base : Nat} {o : Oper} {fr : Fr} {v : AV} (h : pureA E f o fr = some v) (H : Heap) : stepA E C f base o fr H (fun v1 H1 => v1 = v ∧ H1 = H) := by
  unfold pureA at h
  split at h
  · rename_i v' hs
    cases h
    unfold stepO at hs
    unfold stepA
    split at hs
    · rename_i c hc
      try simp only [hc]
      split at hs
      · rename_i g hg
        try simp only [hg]
        unfold fnThen
        split at hs
        · rename_i hh caps he
          simp only [he]
          cases hx : E.ext hh (c.args.toList.map fr.ev ++ caps) with
          | none => simp [hx] at hs
          | some u => simp only [hx, Option.map_some, Option.some.injEq, Prod.mk.injEq] at hs; exact ⟨hs.1, trivial⟩
        · cases hs
      · rename_i b hg
        try simp only [hg]
        obtain ⟨h1, h2⟩ := builtinA_pure hs base H
        refine ⟨h1, ?_⟩
        rw [h2]
        exact ⟨rfl, rfl⟩
      · cases hs
    · rename_i hno
      split
      · rename_i c hc; exact absurd hc (hno c)
      · rename_i t a x hc; rw [hc] at hs; simp [opA] at hs
      · rw [opA_pure hs H]; exact ⟨rfl, rfl⟩
  · cases h

theorem fresh_step {E : Env} {C : CallRel} {f base : Nat} {o : Oper} {fr : Fr} {H : Heap} {v : AV} {b : Blk} (h : freshA E fr H.length o.op = some (v, b)) : stepA E C f base o fr H (fun v1 H1 => v1 = v ∧ H1 = H ++ [some b]) := by
  unfold stepA
  cases hop : o.op <;> simp only [hop, freshA, reduceCtorEq] at h
  case alloc t =>
    simp only [opA]
    cases hT : E.T t with
    | none => simp [hT] at h
    | some ti =>
      simp only [hT, Option.map_some, Option.some.injEq, Prod.mk.injEq] at h ⊢
      exact ⟨h.1, by rw [← h.2]⟩
  case box t x =>
    simp only [opA]
    cases hc : (fr.ev x).cells? with
    | none => simp [hc] at h
    | some cs =>
      simp only [hc, Option.map_some, Option.some.injEq, Prod.mk.injEq] at h ⊢
      exact ⟨h.1, by rw [← h.2]⟩

/-- However it is tagged, it is carried out. -/
theorem tag_step {E : Env} {C : CallRel} {f base : Nat} {o : Oper} {tag : Tag} {fr : Fr} {H : Heap} {x : AV} {H' : Heap} (h : tagThen E C f base o tag fr H (fun v1 H1 => v1 = x ∧ H1 = H')) : stepA E C f base o fr H (fun v1 H1 => v1 = x ∧ H1 = H') := by
  unfold tagThen at h
  split at h
  · exact h
  · split at h
    · rename_i v hv
      obtain ⟨rfl, rfl⟩ := h
      exact pure_step hv _
    · exact h.elim
  · exact stepA_mono (fun _ _ _ _ _ h => h) (fun v1 H1 h => h.2) h.2
  · split at h
    · rename_i v b hv
      obtain ⟨rfl, rfl⟩ := h
      exact fresh_step hv
    · exact h.elim
  · exact h.2

/-- What a frame and a heap stand for somewhere. -/
def Real (base n : Nat) (fr : Fr) (H : Heap) : Prop := base ≤ H.length ∧ ∃ c a w, FRel c n fr a ∧ Sim c H w
theorem Real.names {base n : Nat} {fr : Fr} {H : Heap} (h : Real base n fr H) : HClosed H.length H ∧ ∀ t, Nmd H.length (fr.get t) := by
  obtain ⟨_, c, a, w, hf, s⟩ := h
  exact ⟨s.closed, fun t => (hf.rel t).names s.dom⟩

theorem wp_ex {P : Program} {o : Oper} {a : Act} {w : World} {next : Act → World → Prop} (h : o.wp P a w next (fun _ _ _ => False)) : ∃ a' w', next a' w' := by
  unfold Oper.wp at h
  generalize (execOp a.eval o).run P w = r at h
  cases r with
  | ok n w' =>
    cases n <;> simp only [Oper.upon] at h
    case value v => exact ⟨_, _, h⟩
    case skip => exact ⟨_, _, h⟩
    case defer d => exact ⟨_, _, h⟩
    case enter f args =>
      obtain ⟨e, w2, fr, hR, _⟩ := h []
      cases e with
      | returned v => exact ⟨_, _, hR⟩
      | panicked c => exact hR.elim
      | outgrown => obtain ⟨a, w, hf⟩ := hR; exact hf.elim
    case row r args =>
      obtain ⟨v, w2, hR, _⟩ := h default []
      exact ⟨_, _, hR⟩
  | halt x w' => cases x <;> simp only [Oper.upon] at h

theorem Real.step {E : Env} (hE : EnvOk E) {C : CallRel} (hC : ∀ f args H v H', C f args H v H' → CallOk E f args H v H') {f base n : Nat} {all : Array Oper} {o : Oper} {tag : Tag} {fr : Fr} {H : Heap} {x : AV} {H' : Heap} (hr : Real base n fr H) (hd : ∀ d, o.dst = some d → d < n)
    (h : Run1 E C f base all o tag fr H x H') : Real base n (fr.put o.dst x) H' := by
  obtain ⟨hb, c, a, w, hf, s⟩ := hr
  rcases h with ⟨_, ht⟩ | ⟨_, rfl, rfl⟩
  · obtain ⟨a', w', hb', c', hf', s'⟩ := wp_ex (stepA_sound hE hC s hb hf (tag_step ht) (next := fun a' w' => base ≤ H'.length ∧ ∃ c', FRel c' n (fr.put o.dst x) a' ∧ Sim c' H' w') (Q := fun _ _ _ => False) fun v H1 c' y w' hk hv htr => by
      obtain ⟨rfl, rfl⟩ := hk
      exact ⟨Nat.le_trans hb htr.len, c', (hf.mono htr.ext).put hd hv, htr.sim⟩)
    exact ⟨hb', c', a', w', hf', s'⟩
  · exact ⟨hb, c, _, w, hf.put (x := undef) hd (VRel.tup' (l := []) (l' := []) .nil), s⟩

theorem blkAt_old {H : Heap} {b : Option Blk} {id ver : Nat} {x : Blk} (h : blkAt H id ver = some x) : blkAt (H ++ [b]) id ver = some x := by
  obtain ⟨h1, h2⟩ := blkAt_some h
  have := blkAt_of (liveAt_old (b := b) h1)
  rw [h2] at this; exact this

theorem CallOk.extend {E : Env} {f : FuncId} {args : List AV} {H : Heap} {v : AV} (h : CallOk E f args H v H) (hcl : HClosed H.length H) (ha : ∀ x ∈ args, Nmd H.length x) (b : Blk) : CallOk E f args (H ++ [some b]) v (H ++ [some b]) := by
  refine ⟨h.1, fun c w cargs s hl => ?_⟩
  have s1 : Sim (c.res H.length) H w := by
    refine ⟨fun id p hm => ?_, fun id x hx => ?_, fun id id' v v' k s1 s2 h1 h2 => ?_, fun id v k sz hm => ?_, fun id v k sz hm => ?_, s.froz, s.glob⟩
    · have : (if id < H.length then c.m id else none) = some p := hm
      split at this
      · assumption
      · cases this
    · obtain ⟨bk, h1, h2⟩ := s.blk id x (liveAt_old hx)
      have hid := liveAt_lt hx
      refine ⟨bk, by simpa [Ctx.res, hid] using h1, ?_⟩
      match bk, h2 with
      | none, h2 => exact h2
      | some (k, sz), ⟨cs, T, h3, h4, h5, h6⟩ => exact ⟨cs, T, h3, h4, h5, h6.1, fun i hi => (h6.2 i hi).res (hcl id x hx hid _ (getD_mem hi))⟩
    · simp only [Ctx.res] at h1 h2
      split at h1 <;> split at h2 <;> first | exact s.inj _ _ _ _ _ _ _ h1 h2 | (rename_i e1 e2; first | cases h1 | cases h2)
    · simp only [Ctx.res] at hm
      split at hm
      · exact s.disj _ _ _ _ hm
      · cases hm
    · simp only [Ctx.res] at hm
      split at hm
      · exact s.bnd _ _ _ _ hm
      · cases hm
  have hl1 : LRel (c.res H.length) args cargs := ⟨hl.1, fun i hi => (hl.2 i hi).res (ha _ (getD_mem hi))⟩
  refine (h.2 _ w cargs s1 hl1).mono fun e w' he => ?_
  obtain ⟨c', x, rfl, hv, ht⟩ := he
  let c2 : Ctx := { z := c'.z, m := fun id => if id < H.length then c'.m id else c.m id }
  have hm1 : ∀ id, id < H.length → c2.m id = c'.m id := fun id hid => if_pos hid
  have hm2 : ∀ id, ¬ id < H.length → c2.m id = c.m id := fun id hid => if_neg hid
  have hx2 : Ext c' c2 := ⟨fun _ _ h => h, fun id v bk hm => ⟨v, bk, by rw [hm1 id (ht.sim.dom _ _ hm)]; exact hm, .inl ⟨rfl, rfl⟩⟩⟩
  have hxc : Ext c c2 := by
    refine ⟨fun k cs hz => ht.ext.z _ _ hz, fun id v bk hm => ?_⟩
    by_cases hid : id < H.length
    · obtain ⟨v', bk', h1, h2⟩ := ht.ext.m id v bk (by simpa [Ctx.res, hid] using hm)
      exact ⟨v', bk', by rw [hm1 id hid]; exact h1, h2⟩
    · exact ⟨v, bk, by rw [hm2 id hid]; exact hm, .inl ⟨rfl, rfl⟩⟩
  have hold : ∀ k, Owned c' k → Owned c k ∨ w.heap.size ≤ k := by
    intro k hk
    rcases ht.back k hk with ⟨id, v, sz, hm⟩ | h1
    · simp only [Ctx.res] at hm
      split at hm
      · exact .inl ⟨id, v, sz, hm⟩
      · cases hm
    · exact .inr h1
  -- what stands behind the further blocks is not what the call went over
  have hout : ∀ id v k sz, ¬ id < H.length → c.m id = some (v, some (k, sz)) → ¬ Owned (c.res H.length) k := by
    rintro id v k sz hid hm ⟨id', v', sz', hm'⟩
    simp only [Ctx.res] at hm'
    split at hm'
    · rename_i hlt
      have := s.inj _ _ _ _ _ _ _ hm hm'
      omega
    · cases hm'
  refine ⟨c2, x, rfl, hv.mono hx2, ⟨hxc, ⟨?_, ?_, ?_, ?_, ?_, ?_, ht.sim.glob⟩, ht.grow, ?_, ?_, ?_, Nat.le_refl _, fun _ _ h => h, ht.alike⟩⟩
  · intro id p hm
    by_cases hid : id < H.length
    · simp; omega
    · rw [hm2 id hid] at hm; exact s.dom _ _ hm
  · intro id y hy
    rcases liveAt_append hy with h1 | ⟨rfl, h1⟩
    · have hid := liveAt_lt h1
      obtain ⟨bk, h2, h3⟩ := ht.sim.blk id y h1
      exact ⟨bk, by rw [hm1 id hid]; exact h2, h3.mono hx2 fun k sz e => rfl⟩
    · obtain ⟨bk, h2, h3⟩ := s.blk H.length y hy
      refine ⟨bk, by rw [hm2 _ (by omega)]; exact h2, h3.mono hxc fun k sz e => ?_⟩
      subst e
      exact ht.unch k (s.bnd _ _ _ _ h2) (hout _ _ _ _ (by omega) h2)
  · intro id id' v v' k sz sz' h1 h2
    by_cases hid : id < H.length <;> by_cases hid' : id' < H.length
    · rw [hm1 id hid] at h1; rw [hm1 id' hid'] at h2; exact ht.sim.inj _ _ _ _ _ _ _ h1 h2
    · exfalso
      rw [hm1 id hid] at h1; rw [hm2 id' hid'] at h2
      rcases ht.back k ⟨id, v, sz, h1⟩ with h3 | h3
      · exact hout _ _ _ _ hid' h2 h3
      · have := s.bnd _ _ _ _ h2; omega
    · exfalso
      rw [hm2 id hid] at h1; rw [hm1 id' hid'] at h2
      rcases ht.back k ⟨id', v', sz', h2⟩ with h3 | h3
      · exact hout _ _ _ _ hid h1 h3
      · have := s.bnd _ _ _ _ h1; omega
    · rw [hm2 id hid] at h1; rw [hm2 id' hid'] at h2; exact s.inj _ _ _ _ _ _ _ h1 h2
  · intro id v k sz hm
    by_cases hid : id < H.length
    · rw [hm1 id hid] at hm; exact ht.sim.disj _ _ _ _ hm
    · rw [hm2 id hid] at hm
      show c'.z k = none
      cases hz : c'.z k with
      | none => rfl
      | some l =>
        exfalso
        rcases ht.zback k l hz with h3 | h3 | h3
        · have := s.disj _ _ _ _ hm; rw [show c.z k = some l from h3] at this; cases this
        · exact hout _ _ _ _ hid hm h3
        · have := s.bnd _ _ _ _ hm; omega
  · intro id v k sz hm
    by_cases hid : id < H.length
    · rw [hm1 id hid] at hm; exact ht.sim.bnd _ _ _ _ hm
    · rw [hm2 id hid] at hm; have := s.bnd _ _ _ _ hm; have := ht.grow; omega
  · exact ht.sim.froz
  · intro k hk hn
    exact ht.unch k hk fun ⟨id, v, sz, hm⟩ => by
      simp only [Ctx.res] at hm
      split at hm
      · exact hn ⟨id, v, sz, hm⟩
      · cases hm
  · rintro k ⟨id, v, sz, hm⟩
    by_cases hid : id < H.length
    · rw [hm1 id hid] at hm; exact hold k ⟨id, v, sz, hm⟩
    · rw [hm2 id hid] at hm; exact .inl ⟨id, v, sz, hm⟩
  · intro k cs hz
    rcases ht.zback k cs hz with h3 | ⟨id, v, sz, hm⟩ | h3
    · exact .inl h3
    · simp only [Ctx.res] at hm
      split at hm
      · exact .inr (.inl ⟨id, v, sz, hm⟩)
      · cases hm
    · exact .inr (.inr h3)

theorem loadA_old {ti : TI} {H : Heap} {b : Option Blk} {x v : AV} (h : loadA ti H x = some v) : loadA ti (H ++ [b]) x = some v := by
  unfold loadA at h ⊢
  split at h
  · rename_i id ver off
    cases hb : blkAt H id ver with
    | none => simp [hb] at h
    | some y => simp only [hb, Option.bind_some] at h; simp only [blkAt_old hb, Option.bind_some]; exact h
  · exact h
  · cases h
theorem sliceA_old {H : Heap} {b : Option Blk} {fr : Fr} {k : TK} {x v : AV} {lo hi : Option Operand} (h : sliceA H fr k x lo hi = some v) : sliceA (H ++ [b]) fr k x lo hi = some v := by
  unfold sliceA at h ⊢
  split at h
  · rename_i n esz ag id ver off
    cases h1 : boundA fr 0 lo with
    | none => simp [h1] at h
    | some l =>
      cases h2 : boundA fr (n : Int) hi with
      | none => simp [h1, h2] at h
      | some r =>
        simp only [h1, h2, Option.bind_some] at h ⊢
        cases hb : blkAt H id ver with
        | none => simp [hb] at h
        | some y => simp only [hb, Option.bind_some] at h; simp only [blkAt_old hb, Option.bind_some]; exact h
  · exact h
  · exact h
  · exact h
  · cases h

theorem quiet_extend {E : Env} {f base n : Nat} {o : Oper} {fr : Fr} {H : Heap} {x : AV} (hq : quietOp o.op = true) (hr : Real base n fr H) (h : stepA E (CallOk E) f base o fr H (fun v1 H1 => v1 = x ∧ H1 = H)) (b : Blk) :
    stepA E (CallOk E) f base o fr (H ++ [some b]) (fun v1 H1 => v1 = x ∧ H1 = H ++ [some b]) := by
  obtain ⟨hcl, hnm⟩ := hr.names
  have hev : ∀ y, Nmd H.length (fr.ev y) := by
    intro y
    obtain ⟨_, c, a, w, hf, s⟩ := hr
    exact (hf.ev y).names s.dom
  unfold stepA at h ⊢
  cases hop : o.op <;> simp only [hop, quietOp, Bool.false_eq_true] at hq
  case load t a =>
    simp only [hop, opA] at h ⊢
    cases hT : E.T t with
    | none => simp [hT, someThen] at h
    | some ti =>
      simp only [hT, Option.bind_some] at h ⊢
      cases hl : loadA ti H (fr.ev a) with
      | none => simp [hl, someThen] at h
      | some v =>
        simp only [hl, Option.map_some, someThen] at h
        simp only [loadA_old hl, Option.map_some, someThen]
        exact ⟨h.1, by first | trivial | rfl⟩
  case slice t y lo hi mx =>
    simp only [hop] at h ⊢
    cases mx with
    | some m => simp [opA, someThen] at h
    | none =>
      simp only [opA] at h ⊢
      cases hk : E.kd t with
      | none => simp [hk, someThen] at h
      | some k =>
        simp only [hk, Option.bind_some] at h ⊢
        cases hl : sliceA H fr k (fr.ev y) lo hi with
        | none => simp [hl, someThen] at h
        | some v =>
          simp only [hl, Option.map_some, someThen] at h
          simp only [sliceA_old hl, Option.map_some, someThen]
          exact ⟨h.1, by first | trivial | rfl⟩
  case call c =>
    simp only [hop] at h ⊢
    cases hc : c.callee with
    | invoke r m => simp [hc] at hq
    | builtin b => simp [hc] at hq
    | value g =>
      simp only [hc] at h ⊢
      unfold fnThen at h ⊢
      split at h
      · rename_i hh caps he
        split at h
        · rename_i v hv; exact ⟨h.1, by first | trivial | rfl⟩
        · rename_i hv
          obtain ⟨v, H', h1, h2, h3⟩ := h
          subst h2 h3
          refine ⟨v, _, CallOk.extend h1 hcl (fun y hy => ?_) b, rfl, rfl⟩
          rcases List.mem_append.1 hy with h4 | h4
          · obtain ⟨z, _, rfl⟩ := List.mem_map.1 h4
            exact hev z
          · have := hev g
            rw [he] at this
            cases this with
            | fn _ _ hx => exact hx y h4
      · exact h.elim

/-- What an append to a slice of one's own does, it does with any heap that has its block. -/
theorem grow_spec {E : Env} {C : CallRel} {f base : Nat} {o : Oper} {fr : Fr} {H : Heap} {x : AV} {H' : Heap} (h : tagThen E C f base o .grow fr H (fun v1 H1 => v1 = x ∧ H1 = H')) :
    ∃ id ver off len cap esz y b cs n g, 0 < n ∧ g ∈ o.op.operands ∧ fr.ev g = .sl id ver off len cap esz ∧ blkAt H id ver = some b ∧ H' = H.set id (some ⟨b.cells ++ cs, ver + n⟩) ∧ x = y ∧
      ∀ G, blkAt G id ver = some b → tagThen E C f base o .grow fr G (fun v1 H1 => v1 = x ∧ H1 = G.set id (some ⟨b.cells ++ cs, ver + n⟩)) := by
  obtain ⟨hg, hs⟩ := h
  have hg0 := hg
  unfold growO at hg
  split at hg
  · rename_i c hop
    split at hg
    · rename_i hc
      have hex : ∃ g1 g2, c.args.toList = [g1, g2] := by
        match c.args.toList, hg with
        | [], hg => simp [growV] at hg
        | [_], hg => simp [growV] at hg
        | [g1, g2], _ => exact ⟨g1, g2, rfl⟩
        | _ :: _ :: _ :: _, hg => simp [growV] at hg
      obtain ⟨g1, g2, ha⟩ := hex
      · simp only [ha, List.map_cons, List.map_nil] at hg
        match h1 : fr.ev g1, h2 : fr.ev g2, hg with
        | .sl id ver off len cap esz, .lst cells n, hg =>
          simp only [h1, h2, growV, decide_eq_true_eq] at hg
          have hmem : g1 ∈ o.op.operands := by
            rw [hop]
            exact call_operands_args (by rw [ha]; simp)
          unfold stepA at hs
          simp only [hop, hc, ha, List.map_cons, List.map_nil, h1, h2] at hs
          obtain ⟨hm, hs⟩ := hs
          unfold someThen at hs
          split at hs
          · rename_i v H1 hb
            obtain ⟨rfl, rfl⟩ := hs
            have hb0 := hb
            unfold builtinA at hb
            cases t0 : c.argTypes.toList[0]? with
            | none => simp [t0] at hb
            | some t =>
              cases k0 : E.kd t with
              | none => simp [t0, k0] at hb
              | some k =>
                cases t1 : c.argTypes.toList[1]? with
                | none => simp [t0, k0, t1] at hb
                | some t' =>
                  cases k1 : E.kd t' with
                  | none => simp [t0, k0, t1, k1] at hb
                  | some k2 =>
                    simp only [t0, k0, t1, k1, Option.bind_some] at hb
                    split at hb
                    · rename_i hk2
                      unfold appendA at hb
                      split at hb
                      · rename_i e es bytes ez
                        simp only [lenA, Option.bind_some] at hb
                        cases hsc : sliceCells H n es (.lst cells n) with
                        | none => simp [hsc] at hb
                        | some cs =>
                          simp only [hsc, Option.bind_some] at hb
                          cases hblk : blkAt H id ver with
                          | none => simp [hblk] at hb
                          | some b =>
                            simp only [hblk, Option.bind_some] at hb
                            split at hb
                            · rename_i hcond
                              simp only [Option.some.injEq, Prod.mk.injEq] at hb
                              obtain ⟨rfl, rfl⟩ := hb
                              refine ⟨id, ver, off, len, cap, esz, _, b, cs, n, g1, hg, hmem, h1, hblk, rfl, rfl, fun G hG => ⟨hg0, ?_⟩⟩
                              unfold stepA
                              simp only [hop, hc, ha, List.map_cons, List.map_nil, h1, h2]
                              refine ⟨?_, ?_⟩
                              · rcases hm with hm | hm
                                · exact .inl hm
                                · exact .inr fun n' e' cs' hcs => hm n' e' cs' hcs
                              · unfold builtinA
                                simp only [t0, k0, t1, k1, Option.bind_some, hk2, if_true]
                                unfold appendA
                                have hsc' : sliceCells G n es (.lst cells n) = some cs := hsc
                                simp only [lenA, Option.bind_some, hsc', hG]
                                rw [if_pos hcond]
                                exact ⟨rfl, rfl⟩
                            · cases hb
                      · cases hb
                    · cases hb
          · exact hs.elim
    · cases hg
  · cases hg

/-- Two operations that stand apart: the second first. -/
theorem swap_ops {E : Env} (hE : EnvOk E) {f base n : Nat} {all : Array Oper} {p q : Oper} {tp tq : Tag} (h1 : p.apart all q = true) (ht : tagsApart tp tq = true) (hdp : ∀ d, p.dst = some d → d < n)
    {l : List (Oper × Tag)} {fr : Fr} {H : Heap} {K : Fr → Heap → Prop} (hr : Real base n fr H) (h : wpOpsA E (CallOk E) f base all ((p, tp) :: (q, tq) :: l) fr H (upto K)) : wpOpsA E (CallOk E) f base all ((q, tq) :: (p, tp) :: l) fr H (upto K) := by
  obtain ⟨x, H1, hp, h⟩ := wpOpsA_iff.1 h
  obtain ⟨y, H2, hq, h⟩ := wpOpsA_iff.1 h
  obtain ⟨ap1, ap2, ap3⟩ := Oper.apart_spec h1
  -- the second, before the first has left its value
  have hq0 : Run1 E (CallOk E) f base all q tq fr H1 y H2 := hq.congr fun t ht => get_put_ne fun e => ap1 t e ht
  have hfin : ∀ H3, H3 = H2 → wpOpsA E (CallOk E) f base all l ((fr.put q.dst y).put p.dst x) H3 (upto K) := by
    intro H3 e
    subst e
    exact wpOpsA_fe l (FE.comm ap2) h
  have hpy : ∀ G G', Run1 E (CallOk E) f base all p tp fr G x G' → Run1 E (CallOk E) f base all p tp (fr.put q.dst y) G x G' := fun G G' hg => hg.congr fun t ht => (get_put_ne fun e => ap3 t e ht).symm
  -- what a pure operation (or one that is left out) does with any heap
  have anyheap : ∀ {o : Oper} {g : Fr} {u : AV} {G G' : Heap} {tag : Tag}, tag = .pure → Run1 E (CallOk E) f base all o tag g G u G' → G' = G ∧ ∀ G2, Run1 E (CallOk E) f base all o tag g G2 u G2 := by
    intro o g u G G' tag e hrun
    subst e
    rcases hrun with ⟨hg, hx⟩ | ⟨hg, rfl, rfl⟩
    · unfold tagThen at hx
      simp only at hx
      split at hx
      · rename_i v hv
        obtain ⟨rfl, rfl⟩ := hx
        refine ⟨rfl, fun G2 => .inl ⟨hg, ?_⟩⟩
        unfold tagThen
        simp only [hv]
        exact ⟨trivial, trivial⟩
      · exact hx.elim
    · exact ⟨rfl, fun G2 => .inr ⟨hg, rfl, rfl⟩⟩
  have isquiet : ∀ {o : Oper} {g : Fr} {u : AV} {G G' : Heap}, Run1 E (CallOk E) f base all o .quiet g G u G' → G' = G := by
    intro o g u G G' hrun
    rcases hrun with ⟨hg, hx⟩ | ⟨hg, rfl, rfl⟩
    · obtain ⟨_, hx⟩ := hx
      obtain ⟨v, H', _, h5, _, h6⟩ := stepA_ex hx
      rw [← h6, h5]
    · rfl
  by_cases hpp : tp = .pure
  · obtain ⟨e, hall⟩ := anyheap hpp hp
    subst e
    exact wpOpsA_iff.2 ⟨y, H2, hq0, wpOpsA_iff.2 ⟨x, H2, hpy _ _ (hall H2), hfin H2 rfl⟩⟩
  · by_cases hqp : tq = .pure
    · obtain ⟨e, hall⟩ := anyheap hqp hq0
      subst e
      exact wpOpsA_iff.2 ⟨y, H, hall H, wpOpsA_iff.2 ⟨x, H2, hpy _ _ hp, hfin H2 rfl⟩⟩
    · cases tp <;> cases tq <;> simp only [tagsApart, Bool.false_eq_true, ne_eq, not_true_eq_false, reduceCtorEq] at ht hpp hqp
      · -- both read
        have e1 := isquiet hp
        have e2 := isquiet hq0
        subst e1 e2
        exact wpOpsA_iff.2 ⟨y, _, hq0, wpOpsA_iff.2 ⟨x, _, hpy _ _ hp, hfin _ rfl⟩⟩
      · -- the first reads, the second makes a block
        have e1 := isquiet hp
        subst e1
        rcases hq0 with ⟨hg, hx⟩ | ⟨hg, rfl, rfl⟩
        · have hx' := hx
          unfold tagThen at hx
          simp only at hx
          split at hx
          · rename_i v b hv
            obtain ⟨rfl, rfl⟩ := hx
            refine wpOpsA_iff.2 ⟨_, _, .inl ⟨hg, hx'⟩, wpOpsA_iff.2 ⟨x, _, hpy _ _ ?_, hfin _ rfl⟩⟩
            rcases hp with ⟨hg', hq', hp'⟩ | ⟨hg', e3, _⟩
            · refine .inl ⟨hg', hq', ?_⟩
              have := quiet_extend (n := n) hq' hr (stepA_mono (fun _ _ _ _ _ h => h) (fun v1 H1 h => h.2) hp') b
              exact stepA_mono (fun _ _ _ _ _ h => h) (fun v1 H1 h => ⟨h.2, h.1, h.2⟩) this
            · exact .inr ⟨hg', e3, rfl⟩
          · exact hx.elim
        · exact wpOpsA_iff.2 ⟨_, _, .inr ⟨hg, rfl, rfl⟩, wpOpsA_iff.2 ⟨x, _, hpy _ _ hp, hfin _ rfl⟩⟩
      · -- both grow
        rcases hp with ⟨hg, hx⟩ | ⟨hg, rfl, rfl⟩
        · rcases hq0 with ⟨hg', hx'⟩ | ⟨hg', rfl, rfl⟩
          · obtain ⟨i1, v1, o1, l1, c1, e1, y1, b1, cs1, n1, g1, hn1, hm1, he1, hb1, rfl, rfl, hG1⟩ := grow_spec hx
            obtain ⟨i2, v2, o2, l2, c2, e2, y2, b2, cs2, n2, g2, hn2, hm2, he2, hb2, rfl, rfl, hG2⟩ := grow_spec hx'
            have hne : i1 ≠ i2 := by
              intro e
              subst e
              obtain ⟨_, c, a, w, hf, s⟩ := hr
              obtain ⟨hl1, hv1⟩ := blkAt_some hb1
              obtain ⟨bk, hcm, _⟩ := s.blk i1 b1 hl1
              have hlt := liveAt_lt hl1
              have hv2 : v2 = v1 + n1 := by
                unfold blkAt at hb2
                rw [List.getElem?_set_self hlt] at hb2
                simp only at hb2
                split at hb2
                · rename_i e; exact e.symm
                · cases hb2
              have hrel := hf.ev g2
              rw [he2] at hrel
              rw [hv1] at hcm
              generalize a.eval g2 = z at hrel
              cases hrel with
              | sl _ _ _ _ _ _ _ _ _ h1 _ _ _ => rw [hcm] at h1; simp only [Option.some.injEq, Prod.mk.injEq] at h1; omega
              | slNone _ _ _ h1 => rw [hcm] at h1; simp only [Option.some.injEq, Prod.mk.injEq] at h1; omega
              | slOld _ _ _ _ _ _ _ _ _ _ h1 h2 _ _ => rw [hcm] at h1; simp only [Option.some.injEq, Prod.mk.injEq] at h1; omega
              | slOldNone _ _ _ _ _ h1 h2 => rw [hcm] at h1; simp only [Option.some.injEq, Prod.mk.injEq] at h1; omega
            have hb2' : blkAt H i2 v2 = some b2 := by
              unfold blkAt at hb2 ⊢
              rwa [List.getElem?_set_ne hne] at hb2
            have hb1' : blkAt (H.set i2 (some ⟨b2.cells ++ cs2, v2 + n2⟩)) i1 v1 = some b1 := by
              unfold blkAt at hb1 ⊢
              rwa [List.getElem?_set_ne (Ne.symm hne)]
            refine wpOpsA_iff.2 ⟨_, _, .inl ⟨hg', hG2 H hb2'⟩, wpOpsA_iff.2 ⟨_, _, hpy _ _ (.inl ⟨hg, hG1 _ hb1'⟩), hfin _ (List.set_comm _ _ (Ne.symm hne))⟩⟩
          · exact wpOpsA_iff.2 ⟨_, _, .inr ⟨hg', rfl, rfl⟩, wpOpsA_iff.2 ⟨_, _, hpy _ _ (.inl ⟨hg, hx⟩), hfin _ rfl⟩⟩
        · exact wpOpsA_iff.2 ⟨_, _, hq0, wpOpsA_iff.2 ⟨_, _, hpy _ _ (.inr ⟨hg, rfl, rfl⟩), hfin _ rfl⟩⟩

/-- An operation that stands apart from all before it: first. -/
theorem bubble {E : Env} (hE : EnvOk E) {f base n : Nat} {all : Array Oper} {q : Oper} {tq : Tag} {l2 : List (Oper × Tag)} {K : Fr → Heap → Prop} : ∀ (l1 : List (Oper × Tag)), (∀ p ∈ l1, p.1.apart all q = true ∧ tagsApart p.2 tq = true ∧ ∀ d, p.1.dst = some d → d < n) →
    ∀ {fr : Fr} {H : Heap}, Real base n fr H → wpOpsA E (CallOk E) f base all (l1 ++ (q, tq) :: l2) fr H (upto K) → wpOpsA E (CallOk E) f base all ((q, tq) :: (l1 ++ l2)) fr H (upto K)
  | [], _, fr, H, _, h => h
  | (p, tp) :: l1, hl, fr, H, hr, h => by
    obtain ⟨x, H1, hp, h⟩ := wpOpsA_iff.1 h
    obtain ⟨ha, ht, hd⟩ := hl (p, tp) (by simp)
    have h' := bubble hE l1 (fun p hp => hl p (by simp [hp])) (hr.step hE (fun _ _ _ _ _ h => h) hd hp) h
    exact swap_ops hE ha ht hd hr (wpOpsA_iff.2 ⟨x, H1, hp, h'⟩)

theorem apart_symm_of {all : Array Oper} {x y : Oper} (h : x.apart all y = true) : y.apart all x = true := by
  obtain ⟨h1, h2, h3⟩ := Oper.apart_spec h
  unfold Oper.apart
  simp only [Bool.and_eq_true]
  constructor
  · cases hd : y.dst with
    | none => rfl
    | some d =>
      simp only [Bool.and_eq_true, Bool.not_eq_true', bne_iff_ne, ne_eq]
      refine ⟨by simpa using h3 d hd, fun e => h2 d e hd⟩
  · cases hd : x.dst with
    | none => rfl
    | some d => simpa using h1 d hd

theorem waits_listed {ops : Array Oper} {D : Cert} (hw : waitsOk ops D = true) (hsz : ∀ (i : Nat) (oi : Oper), ops[i]? = some oi → ∀ k ∈ directs oi, k < ops.size) {listed : Array Bool} (hcl : ∀ j oj, ops[j]? = some oj → listed.getD j false = true → ∀ k ∈ directs oj, listed.getD k false = true) :
    ∀ (i : Nat) (oi : Oper), ops[i]? = some oi → (∀ k ∈ directs oi, listed.getD k false = true) → ∀ j, waitsFor D i j = true → listed.getD j false = true := by
  intro i
  induction i using Nat.strongRecOn with
  | _ i ih =>
    intro oi hi hd j hj
    unfold waitsOk at hw
    have hlt : i < ops.size := (Array.getElem?_eq_some_iff.1 hi).1
    have h1 := List.all_eq_true.1 hw i (List.mem_range.2 hlt)
    simp only [hi] at h1
    have hj' : j ∈ (D.waits[i]?).getD [] := by simpa [waitsFor] using hj
    have h2 := List.all_eq_true.1 h1 j hj'
    simp only [Bool.or_eq_true, List.any_eq_true, Bool.and_eq_true, decide_eq_true_eq] at h2
    rcases h2 with h2 | ⟨k, hk, hki, hkj⟩
    · exact hd j (by simpa using h2)
    · cases hok : ops[k]? with
      | none =>
        have h5 := hsz i oi hi k hk
        rw [Array.getElem?_eq_getElem h5] at hok
        cases hok
      | some ok => exact ih k hki ok hok (hcl k ok hok (hd k hk)) j hkj

theorem Sim.drew {c : Ctx} {H : Heap} {w : World} (s : Sim c H w) : Sim c H { w with drawn := w.drawn + 1 } := by
  refine ⟨s.dom, fun id b hl => ?_, s.inj, s.disj, s.bnd, s.froz, s.glob⟩
  obtain ⟨bk, h1, h2⟩ := s.blk id b hl
  exact ⟨bk, h1, h2.mono (.refl c) fun k sz e => rfl⟩
theorem Trans.drew {base : Nat} {c : Ctx} {H : Heap} {w : World} (s : Sim c H w) : Trans base c H w c H { w with drawn := w.drawn + 1 } :=
  ⟨.refl c, s.drew, Nat.le_refl _, fun _ _ _ => rfl, fun _ h => .inl h, fun _ _ h => .inl h, Nat.le_refl _, fun _ _ h => h, ⟨rfl, rfl, rfl⟩⟩

def opsOf (ops : Array Oper) (L : List (Nat × Tag)) : List (Oper × Tag) := L.filterMap fun p => (ops[p.1]?).map fun o => (o, p.2)

structure DrawInv (ops : Array Oper) (D : Cert) (L : List (Nat × Tag)) (listed : Array Bool) : Prop where
  size : listed.size = ops.size
  left : ∀ i, i < ops.size → (listed.getD i true = false ↔ i ∈ L.map (·.1))
  inside : ∀ p ∈ L, p.1 < ops.size
  pairs : L.Pairwise fun p q => pairOk ops D p q = true
  closed : ∀ j oj, ops[j]? = some oj → listed.getD j false = true → ∀ k ∈ directs oj, listed.getD k false = true

theorem mem_directs {o : Oper} {k : Nat} : k ∈ directs o ↔ ∃ e ∈ o.after, Region.binds .any e = true ∧ e.on = k := by
  unfold directs
  simp only [List.mem_map, List.mem_filter, Array.mem_toList_iff]
  constructor
  · rintro ⟨e, ⟨h1, h2⟩, h3⟩; exact ⟨e, h1, h2, h3⟩
  · rintro ⟨e, h1, h2, h3⟩; exact ⟨e, ⟨h1, h2⟩, h3⟩

theorem getD_bool {l : Array Bool} {i : Nat} (hi : i < l.size) : l.getD i true = l.getD i false := by
  simp [Array.getD_eq_getD_getElem?, hi]

theorem draw_main {E : Env} (hE : EnvOk E) {f base n : Nat} {ops : Array Oper} {D : Cert} (hw : waitsOk ops D = true) (hsz : ∀ (i : Nat) (oi : Oper), ops[i]? = some oi → ∀ k ∈ directs oi, k < ops.size ∧ k ≠ i) (hd : ∀ (i : Nat) (o : Oper), ops[i]? = some o → ∀ d, o.dst = some d → d < n)
    {K : Fr → Heap → Prop} {Q : Exit → Act → World → Prop} {c0 : Ctx} {H0 : Heap} {w0 : World} (hQ : ∀ fr' H' c' a' w', K fr' H' → FRel c' n fr' a' → Trans base c0 H0 w0 c' H' w' → Q .normal a' w') :
    ∀ (fuel : Nat) (L : List (Nat × Tag)) (listed : Array Bool) (fr : Fr) (H : Heap) (a : Act) (w : World) (c : Ctx), L.length ≤ fuel → DrawInv ops D L listed → wpOpsA E (CallOk E) f base ops (opsOf ops L) fr H (upto K) → FRel c n fr a →
      Trans base c0 H0 w0 c H w → base ≤ H.length → wpAny E.P .any ops Q fuel listed a w := by
  have done : ∀ (listed : Array Bool) (fr : Fr) (H : Heap) (a : Act) (w : World) (c : Ctx), wpOpsA E (CallOk E) f base ops (opsOf ops []) fr H (upto K) → FRel c n fr a → Trans base c0 H0 w0 c H w → Q .normal a w := by
    intro listed fr H a w c h hf ht
    obtain ⟨fr2, h1, h2⟩ := h
    exact hQ fr2 H c a w h2 (hf.fe fun t => (h1 t).symm) ht
  have alldone : ∀ listed, DrawInv ops D [] listed → Region.ready .any ops listed = [] := by
    intro listed inv
    refine List.eq_nil_iff_forall_not_mem.2 fun i hi => ?_
    obtain ⟨hun, oi, hoi, _⟩ := mem_ready.1 hi
    have hlt := (Array.getElem?_eq_some_iff.1 hoi).1
    have := (inv.left i hlt).1 hun
    simp at this
  have someready : ∀ L listed, DrawInv ops D L listed → Region.ready .any ops listed = [] → L = [] := by
    intro L listed inv hr
    cases L with
    | nil => rfl
    | cons p L =>
      exfalso
      have hlt := inv.inside p (by simp)
      have hun := (inv.left p.1 hlt).2 (by simp)
      have hm : p.1 ∈ Region.ready .any ops listed := by
        refine mem_ready.2 ⟨hun, ops[p.1], Array.getElem?_eq_getElem hlt, fun e he hb => ?_⟩
        have hk : e.on ∈ directs ops[p.1] := mem_directs.2 ⟨e, he, hb, rfl⟩
        obtain ⟨hks, hkne⟩ := hsz p.1 _ (Array.getElem?_eq_getElem hlt) e.on hk
        cases hl : listed.getD e.on false with
        | true => rfl
        | false =>
          exfalso
          have hl' : listed.getD e.on true = false := by rw [getD_bool (by rw [inv.size]; exact hks)]; exact hl
          have hmem := (inv.left e.on hks).1 hl'
          simp only [List.map_cons, List.mem_cons] at hmem
          rcases hmem with h1 | h1
          · exact hkne h1
          · obtain ⟨q, hq, hq1⟩ := List.mem_map.1 h1
            have hp := List.pairwise_cons.1 inv.pairs |>.1 q hq
            unfold pairOk at hp
            rw [Array.getElem?_eq_getElem hlt, Array.getElem?_eq_getElem (by rw [hq1]; exact hks)] at hp
            simp only [Bool.and_eq_true, Bool.not_eq_true'] at hp
            have := hp.1.1
            rw [hq1] at this
            simp [hk] at this
      rw [hr] at hm
      cases hm
  intro fuel
  induction fuel with
  | zero =>
    intro L listed fr H a w c hlen inv h hf ht hb
    have : L = [] := List.eq_nil_of_length_eq_zero (by omega)
    subst this
    exact ⟨alldone listed inv, done listed fr H a w c h hf ht⟩
  | succ fuel ih =>
    intro L listed fr H a w c hlen inv h hf ht hb
    refine ⟨fun hr => ?_, fun i hi => ?_⟩
    · have := someready L listed inv hr
      subst this
      exact done listed fr H a w c h hf ht
    · obtain ⟨hun, oi, hoi, hall⟩ := mem_ready.1 hi
      have hlt := (Array.getElem?_eq_some_iff.1 hoi).1
      have hmem := (inv.left i hlt).1 hun
      obtain ⟨p, hp, hp1⟩ := List.mem_map.1 hmem
      obtain ⟨L1, L2, rfl⟩ := List.append_of_mem hp
      obtain ⟨i', tag⟩ := p
      simp only at hp1
      subst hp1
      have hdl : ∀ k ∈ directs oi, listed.getD k false = true := by
        intro k hk
        obtain ⟨e, he, hbn, rfl⟩ := mem_directs.1 hk
        exact hall e he hbn
      have hops : opsOf ops (L1 ++ (i', tag) :: L2) = opsOf ops L1 ++ (oi, tag) :: opsOf ops L2 := by
        unfold opsOf
        rw [List.filterMap_append, List.filterMap_cons]
        simp [hoi]
      rw [hops] at h
      have hreal : Real base n fr H := ⟨hb, c, a, w, hf, ht.sim⟩
      have hpw := List.pairwise_append.1 inv.pairs
      have hap : ∀ x ∈ opsOf ops L1, x.1.apart ops oi = true ∧ tagsApart x.2 tag = true ∧ ∀ d, x.1.dst = some d → d < n := by
        intro x hx
        unfold opsOf at hx
        obtain ⟨p, hpm, hpx⟩ := List.mem_filterMap.1 hx
        have hpl := inv.inside p (by simp [hpm])
        rw [Array.getElem?_eq_getElem hpl] at hpx
        simp only [Option.map_some, Option.some.injEq] at hpx
        subst hpx
        have hpk := hpw.2.2 p hpm (i', tag) (by simp)
        unfold pairOk at hpk
        rw [Array.getElem?_eq_getElem hpl, hoi] at hpk
        simp only [Bool.and_eq_true, Bool.or_eq_true] at hpk
        rcases hpk.2 with h1 | h1
        · exfalso
          have h2 := waits_listed hw (fun i oi hi k hk => (hsz i oi hi k hk).1) inv.closed i' oi hoi hdl p.1 h1
          have h3 := (inv.left p.1 hpl).2 (by simp only [List.map_append, List.mem_append]; exact .inl (List.mem_map.2 ⟨p, hpm, rfl⟩))
          rw [getD_bool (by rw [inv.size]; exact hpl), h2] at h3
          cases h3
        · exact ⟨h1.1.1, h1.2, fun d hdd => hd p.1 _ (Array.getElem?_eq_getElem hpl) d hdd⟩
      have hb1 := bubble hE (opsOf ops L1) hap hreal h
      have hops2 : opsOf ops L1 ++ opsOf ops L2 = opsOf ops (L1 ++ L2) := by unfold opsOf; rw [List.filterMap_append]
      rw [hops2] at hb1
      obtain ⟨x, H1, hrun, hrest⟩ := wpOpsA_iff.1 hb1
      have hne : ∀ q ∈ L1 ++ L2, q.1 ≠ i' := by
        intro q hq
        rcases List.mem_append.1 hq with h1 | h1
        · have hpk := hpw.2.2 q h1 (i', tag) (by simp)
          unfold pairOk at hpk
          rw [Array.getElem?_eq_getElem (inv.inside q (by simp [h1])), hoi] at hpk
          simp only [Bool.and_eq_true, bne_iff_ne, ne_eq] at hpk
          exact hpk.1.2
        · have hpk := (List.pairwise_cons.1 hpw.2.1).1 q h1
          unfold pairOk at hpk
          rw [hoi, Array.getElem?_eq_getElem (inv.inside q (by simp [h1]))] at hpk
          simp only [Bool.and_eq_true, bne_iff_ne, ne_eq] at hpk
          exact fun e => hpk.1.2 e.symm
      have inv' : DrawInv ops D (L1 ++ L2) (listed.setIfInBounds i' true) := by
        refine ⟨by simp [inv.size], fun j hj => ?_, fun q hq => inv.inside q ?_, ?_, fun j oj hj hl k hk => ?_⟩
        · by_cases e : i' = j
          · subst e
            constructor
            · intro h1
              have : i' < listed.size := by rw [inv.size]; exact hj
              simp [Array.getD_eq_getD_getElem?, this] at h1
            · intro h1
              obtain ⟨q, hq, hq1⟩ := List.mem_map.1 h1
              exact absurd hq1 (hne q hq)
          · have e1 : (listed.setIfInBounds i' true).getD j true = listed.getD j true := by simp [Array.getD_eq_getD_getElem?, Array.getElem?_setIfInBounds_ne e]
            rw [e1, inv.left j hj]
            simp only [List.map_append, List.mem_append, List.map_cons, List.mem_cons]
            constructor
            · rintro (h1 | h1 | h1)
              · exact .inl h1
              · exact absurd h1.symm e
              · exact .inr h1
            · rintro (h1 | h1)
              · exact .inl h1
              · exact .inr (.inr h1)
        · rcases List.mem_append.1 hq with h1 | h1
          · simp [h1]
          · simp [h1]
        · exact List.pairwise_append.2 ⟨hpw.1, (List.pairwise_cons.1 hpw.2.1).2, fun p hp q hq => hpw.2.2 p hp q (by simp [hq])⟩
        · have keep : ∀ k, listed.getD k false = true → (listed.setIfInBounds i' true).getD k false = true := by
            intro k h1
            by_cases e : i' = k
            · subst e
              have : i' < listed.size := by rw [inv.size]; exact hlt
              simp [Array.getD_eq_getD_getElem?, this]
            · simpa [Array.getD_eq_getD_getElem?, Array.getElem?_setIfInBounds_ne e] using h1
          by_cases e : i' = j
          · subst e
            rw [hoi] at hj
            cases hj
            exact keep k (hdl k hk)
          · have h1 : listed.getD j false = true := by simpa [Array.getD_eq_getD_getElem?, Array.getElem?_setIfInBounds_ne e] using hl
            exact keep k (inv.closed j oj hj h1 k hk)
      have hlen' : (L1 ++ L2).length ≤ fuel := by simp at hlen ⊢; omega
      unfold wpOp
      simp only [hoi]
      rcases hrun with ⟨hg, hx⟩ | ⟨hg, rfl, rfl⟩
      · rw [guard_sound hf hg, if_pos rfl]
        refine .inl (stepA_sound hE (fun _ _ _ _ _ h => h) ht.sim hb hf (tag_step hx) fun v H' c' y w' hk hv htr => ?_)
        obtain ⟨rfl, rfl⟩ := hk
        exact ih (L1 ++ L2) _ _ _ _ _ c' hlen' inv' hrest ((hf.mono htr.ext).put (hd i' oi hoi) hv) (ht.trans htr) (Nat.le_trans hb htr.len)
      · rw [guard_sound hf hg, if_neg (by simp)]
        exact ih (L1 ++ L2) _ _ _ _ _ c hlen' inv' hrest (hf.put (hd i' oi hoi) (VRel.tup' (l := []) (l' := []) .nil)) ht hb

theorem pairsOk_pairwise {ops : Array Oper} {D : Cert} : ∀ (l : List (Nat × Tag)), pairsOk ops D l = true → l.Pairwise fun p q => pairOk ops D p q = true
  | [], _ => .nil
  | p :: l, h => by
    simp only [pairsOk, Bool.and_eq_true, List.all_eq_true] at h
    exact List.pairwise_cons.2 ⟨h.1, pairsOk_pairwise l h.2⟩

theorem draw_sound {E : Env} (hE : EnvOk E) : DrawOk E := by
  intro C hC f base n id ops D hD hdst fr H K a w c h hf s hb Q hQ
  simp only [drawOk, Bool.and_eq_true] at hD
  obtain ⟨⟨⟨⟨⟨h1, h2⟩, h3⟩, h4⟩, h5⟩, h6⟩ := hD
  have hin : ∀ p ∈ D.ord, p.1 < ops.size := fun p hp => by simpa using List.all_eq_true.1 h5 p hp
  refine wp_region_any hE.mixed (draw_main (f := f) hE (D := D) h1 ?_ (fun i o hi d hd => dsts_region hdst hi hd) (K := K) hQ ops.size D.ord (Array.replicate ops.size false) fr H a _ c ?_ ⟨by simp, ?_, hin, pairsOk_pairwise _ h2, ?_⟩ ?_ hf (.drew s) hb)
  · intro i oi hi k hk
    have hlt := (Array.getElem?_eq_some_iff.1 hi).1
    have h7 := List.all_eq_true.1 h6 i (List.mem_range.2 hlt)
    simp only [hi] at h7
    have h8 := List.all_eq_true.1 h7 k hk
    simpa using h8
  · have : (D.ord.map (·.1)).length = ops.size := by simpa using h3
    simp at this; omega
  · intro i hi
    have h7 := List.all_eq_true.1 h4 i (List.mem_range.2 hi)
    constructor
    · intro _; simpa using h7
    · intro _; simp [Array.getD_eq_getD_getElem?, hi]
  · intro j oj hj hl
    have hlt := (Array.getElem?_eq_some_iff.1 hj).1
    simp [Array.getD_eq_getD_getElem?, hlt] at hl
  · exact wpOpsA_mono hC _ (fun fr H hk => ⟨fr, fun _ => rfl, hk⟩) h
end Go.Proofs.YtimdnnlfkkkpbaaDoor
