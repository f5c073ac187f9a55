/- Monotonicity of the wp form in what calls do and in what follows; the closure of Call under Step. -/
import Derived.Test.YtimdnnlfkkkpbaaDoorEvA
set_option linter.unusedVariables false
set_option linter.unusedSimpArgs false
namespace Go.Proofs.YtimdnnlfkkkpbaaDoor

section
variable {E : Env} {C C' : CallRel}

theorem callThen_mono {f : FuncId} {args : List AV} {H : Heap} {K K' : AV → Heap → Prop} (hC : ∀ f args H v H', C f args H v H' → C' f args H v H') (hK : ∀ v H, K v H → K' v H)
    (h : callThen C f args H K) : callThen C' f args H K' := by
  obtain ⟨v, H', h1, h2⟩ := h
  exact ⟨v, H', hC _ _ _ _ _ h1, hK _ _ h2⟩

theorem someThen_mono {r : Option (AV × Heap)} {K K' : AV → Heap → Prop} (hK : ∀ v H, K v H → K' v H) (h : someThen r K) : someThen r K' := by
  cases r with
  | none => exact h
  | some p => exact hK _ _ h

theorem storeThen_mono {base : Nat} {r : Option (Nat × List AV × Heap)} {K K' : AV → Heap → Prop} (hK : ∀ v H, K v H → K' v H) (h : storeThen base r K) : storeThen base r K' := by
  match r, h with
  | some (_, _, _), ⟨h1, h2⟩ => exact ⟨h1, hK _ _ h2⟩

theorem stepA_mono {f base : Nat} {o : Oper} {fr : Fr} {H : Heap} {K K' : AV → Heap → Prop} (hC : ∀ f args H v H', C f args H v H' → C' f args H v H') (hK : ∀ v H, K v H → K' v H)
    (h : stepA E C f base o fr H K) : stepA E C' f base o fr H K' := by
  unfold stepA at h ⊢
  split at h
  · split at h
    · unfold fnThen at h ⊢
      split at h
      · split at h
        · exact hK _ _ h
        · exact callThen_mono hC hK h
      · exact h
    · exact ⟨h.1, someThen_mono hK h.2⟩
    · exact h
  · split at h
    · exact storeThen_mono hK h
    · exact h
  · exact someThen_mono hK h

theorem tagThen_mono {f base : Nat} {o : Oper} {tag : Tag} {fr : Fr} {H : Heap} {K K' : AV → Heap → Prop} (hC : ∀ f args H v H', C f args H v H' → C' f args H v H') (hK : ∀ v H, K v H → K' v H)
    (h : tagThen E C f base o tag fr H K) : tagThen E C' f base o tag fr H K' := by
  unfold tagThen at h ⊢
  split at h
  · exact stepA_mono hC hK h
  · split at h
    · exact hK _ _ h
    · exact h
  · exact ⟨h.1, stepA_mono hC (fun v H' h => ⟨h.1, hK _ _ h.2⟩) h.2⟩
  · split at h
    · exact hK _ _ h
    · exact h
  · exact ⟨h.1, stepA_mono hC hK h.2⟩

theorem wpOpsA_mono {f base : Nat} {all : Array Oper} (hC : ∀ f args H v H', C f args H v H' → C' f args H v H') : ∀ (l : List (Oper × Tag)) {fr : Fr} {H : Heap} {K K' : Fr → Heap → Prop},
    (∀ fr H, K fr H → K' fr H) → wpOpsA E C f base all l fr H K → wpOpsA E C' f base all l fr H K'
  | [], _, _, _, _, hK, h => hK _ _ h
  | (o, s) :: rest, fr, H, K, K', hK, h => by
    simp only [wpOpsA] at h ⊢
    split at h
    · exact tagThen_mono hC (fun v H' h => wpOpsA_mono hC rest hK h) h
    · exact wpOpsA_mono hC rest hK h
    · exact h

theorem frzThen_mono {base : Nat} : ∀ (ts : List Nat) {fr : Fr} {H : Heap} {K K' : Fr → Heap → Prop}, (∀ fr H, K fr H → K' fr H) → frzThen base ts fr H K → frzThen base ts fr H K'
  | [], _, _, _, _, hK, h => hK _ _ h
  | t :: ts, fr, H, K, K', hK, h => by
    simp only [frzThen] at h ⊢
    split at h
    · split at h
      · exact ⟨h.1, h.2.1, h.2.2.1, frzThen_mono ts hK h.2.2.2⟩
      · exact h
    · exact frzThen_mono ts hK h
    · exact frzThen_mono ts hK h
    · exact h

theorem wpA_mono {f base : Nat} (hC : ∀ f args H v H', C f args H v H' → C' f args H v H') : ∀ (c : Code) {fr : Fr} {H : Heap} {K K' : Ex → Fr → Heap → Prop},
    (∀ e fr H, K e fr H → K' e fr H) → wpA E C f base c fr H K → wpA E C' f base c fr H K' := by
  intro c
  induction c with
  | skip => intro fr H K K' hK h; exact hK _ _ _ h
  | region id ops draw =>
    intro fr H K K' hK h
    cases draw with
    | false => exact frzThen_mono _ (fun _ _ h => wpOpsA_mono hC _ (fun _ _ h => hK _ _ _ h) h) h
    | true => exact frzThen_mono _ (fun _ _ h => by obtain ⟨ord, h1, h2⟩ := h; exact ⟨ord, h1, wpOpsA_mono hC _ (fun _ _ h => hK _ _ _ h) h2⟩) h
  | seq a b iha ihb =>
    intro fr H K K' hK h
    refine iha (fun e fr H h => ?_) h
    cases e with
    | normal => exact ihb hK h
    | _ => exact hK _ _ _ h
  | cond c x y ihx ihy =>
    intro fr H K K' hK h
    simp only [wpA] at h ⊢
    split at h
    · exact ⟨fun hb => ihx hK (h.1 hb), fun hb => ihy hK (h.2 hb)⟩
    · exact h
  | block id b ih =>
    intro fr H K K' hK h
    refine ih (fun e fr H h => ?_) h
    cases e with
    | exit id' =>
      by_cases hid : id' = id
      · simp only [hid, if_true] at h ⊢; exact hK _ _ _ h
      · simp only [hid, if_false] at h ⊢; exact hK _ _ _ h
    | _ => exact hK _ _ _ h
  | loop b ih =>
    intro fr H K K' hK h
    intro X hX
    refine h X fun fr H h => hX fr H (ih (fun e fr H h => ?_) h)
    cases e with
    | normal => exact h
    | _ => exact hK _ _ _ h
  | exit id => intro fr H K K' hK h; exact hK _ _ _ h
  | ret => intro fr H K K' hK h; exact hK _ _ _ h
  | _ => intro fr H K K' hK h; exact h

theorem Step_mono (hC : ∀ f args H v H', C f args H v H' → C' f args H v H') {f : FuncId} {args : List AV} {H : Heap} {v : AV} {H' : Heap} (h : Step E C f args H v H') : Step E C' f args H v H' := by
  obtain ⟨fn, c, h1, h2, h3, h4, h5⟩ := h
  exact ⟨fn, c, h1, h2, h3, h4, wpA_mono hC c (fun _ _ _ h => h) h5⟩
end

theorem Call.intro {E : Env} {f : FuncId} {args : List AV} {H : Heap} {v : AV} {H' : Heap} (h : Step E (Call E) f args H v H') : Call E f args H v H' :=
  fun C hC hG => hC _ _ _ _ _ (Step_mono (fun _ _ _ _ _ hc => hc C hC hG) h)
theorem Call.ofGiven {E : Env} {f : FuncId} {args : List AV} {v : AV} (h : E.given f args v) (H : Heap) : Call E f args H v H := fun C _ hG => hG _ _ H _ h

theorem Call.of {E : Env} {f : FuncId} {args : List AV} {H : Heap} {v : AV} {H' : Heap} {fn : Func} {c : Code} (h1 : E.P.funcs[f]? = some fn) (h2 : fn.body = some c) (h3 : fnOk fn c = true)
    (h4 : args.length ≤ fn.ntmps) (h5 : wpA E (Call E) f H.length c (initFr args) H (retA E f H.length fn.results.toList v H')) : Call E f args H v H' :=
  Call.intro ⟨fn, c, h1, h2, h3, h4, h5⟩

/-! ### the walk's rules, what follows behind a name -/
section
variable {E : Env} {C : CallRel} {f base : Nat}
def seqK (E : Env) (C : CallRel) (f base : Nat) (b : Code) (K : Ex → Fr → Heap → Prop) (e : Ex) (fr : Fr) (H : Heap) : Prop :=
  match e with
  | .normal => wpA E C f base b fr H K
  | e => K e fr H
def blockK (id : Nat) (K : Ex → Fr → Heap → Prop) (e : Ex) (fr : Fr) (H : Heap) : Prop :=
  match e with
  | .exit id' => if id' = id then K .normal fr H else K (.exit id') fr H
  | e => K e fr H
def loopA (E : Env) (C : CallRel) (f base : Nat) (b : Code) (K : Ex → Fr → Heap → Prop) (fr : Fr) (H : Heap) : Prop := wpA E C f base (.loop b) fr H K
def loopK (E : Env) (C : CallRel) (f base : Nat) (b : Code) (K : Ex → Fr → Heap → Prop) (e : Ex) (fr : Fr) (H : Heap) : Prop :=
  match e with
  | .normal => loopA E C f base b K fr H
  | e => K e fr H
def regK (E : Env) (f id : Nat) (K : Ex → Fr → Heap → Prop) (fr : Fr) (H : Heap) : Prop := K .normal (keepA E f id fr) H
def opsK (E : Env) (C : CallRel) (f base : Nat) (all : Array Oper) (rest : List (Oper × Tag)) (dst : Option Nat) (fr : Fr) (K : Fr → Heap → Prop) (v : AV) (H : Heap) : Prop :=
  wpOpsA E C f base all rest (fr.put dst v) H K

def optThen (r : Option AV) (H : Heap) (K : AV → Heap → Prop) : Prop :=
  match r with
  | some v => K v H
  | none => False
def blkThen (r : Option (AV × Blk)) (H : Heap) (K : AV → Heap → Prop) : Prop :=
  match r with
  | some (v, b) => K v (H ++ [some b])
  | none => False
def sameK (H : Heap) (K : AV → Heap → Prop) (v : AV) (H' : Heap) : Prop := H' = H ∧ K v H'
/-! one rule an operation -/
section
variable {all : Array Oper} {rest : List (Oper × Tag)} {dst : Option Nat} {ty : TypeId} {pos : String} {aft : Array Edge} {tag : Tag} {fr : Fr} {H : Heap} {K : Fr → Heap → Prop}
theorem w_nil : wpOpsA E C f base all [] fr H K = K fr H := (rfl)
theorem w_op {o : Op} : wpOpsA E C f base all ((⟨dst, o, ty, pos, aft, none⟩, tag) :: rest) fr H K = tagThen E C f base ⟨dst, o, ty, pos, aft, none⟩ tag fr H (opsK E C f base all rest dst fr K) := (rfl)
theorem w_guard {o : Op} {g : Nat × Bool} : wpOpsA E C f base all ((⟨dst, o, ty, pos, aft, some g⟩, tag) :: rest) fr H K =
    match guardA all fr (some g) with
    | some true => tagThen E C f base ⟨dst, o, ty, pos, aft, some g⟩ tag fr H (opsK E C f base all rest dst fr K)
    | some false => wpOpsA E C f base all rest (fr.put dst (.tup [])) H K
    | none => False := (rfl)
end
theorem t_seq {o : Oper} {fr : Fr} {H : Heap} {K : AV → Heap → Prop} : tagThen E C f base o .seq fr H K = stepA E C f base o fr H K := (rfl)
theorem t_pure {o : Oper} {fr : Fr} {H : Heap} {K : AV → Heap → Prop} : tagThen E C f base o .pure fr H K = optThen (pureA E f o fr) H K := by
  unfold tagThen optThen; cases pureA E f o fr <;> rfl
theorem t_quiet {o : Oper} {fr : Fr} {H : Heap} {K : AV → Heap → Prop} : tagThen E C f base o .quiet fr H K = (quietOp o.op = true ∧ stepA E C f base o fr H (sameK H K)) := (rfl)
theorem t_growO {o : Oper} {fr : Fr} {H : Heap} {K : AV → Heap → Prop} : tagThen E C f base o .grow fr H K = (growO o.op fr = true ∧ stepA E C f base o fr H K) := (rfl)
theorem t_fresh {o : Oper} {fr : Fr} {H : Heap} {K : AV → Heap → Prop} : tagThen E C f base o .fresh fr H K = blkThen (freshA E fr H.length o.op) H K := by
  unfold tagThen blkThen; cases freshA E fr H.length o.op <;> rfl
theorem optThen_some {v : AV} {H : Heap} {K : AV → Heap → Prop} : optThen (some v) H K = K v H := (rfl)
theorem blkThen_some {v : AV} {b : Blk} {H : Heap} {K : AV → Heap → Prop} : blkThen (some (v, b)) H K = K v (H ++ [some b]) := (rfl)
section
variable {dst : Option Nat} {ty : TypeId} {pos : String} {aft : Array Edge} {g : Option (Nat × Bool)} {fr : Fr} {H : Heap} {K : AV → Heap → Prop}
theorem s_move {x : Operand} : stepA E C f base ⟨dst, .move x, ty, pos, aft, g⟩ fr H K = someThen (moveA (ownDst E f dst) (E.kd ty) H (fr.ev x)) K := (rfl)
theorem s_assign {x : Operand} : stepA E C f base ⟨dst, .assign x, ty, pos, aft, g⟩ fr H K = someThen (moveA (ownDst E f dst) (E.kd ty) H (fr.ev x)) K := (rfl)
theorem s_pick {c a b : Operand} : stepA E C f base ⟨dst, .pick c a b, ty, pos, aft, g⟩ fr H K = someThen (pickA (fr.ev c) (fr.ev a) (fr.ev b) H) K := (rfl)
theorem s_alloc {t : TypeId} : stepA E C f base ⟨dst, .alloc t, ty, pos, aft, g⟩ fr H K = someThen ((E.T t).map fun ti => (.ptr H.length 0 0, H ++ [some ⟨ti.zero, 0⟩])) K := (rfl)
theorem s_box {t : TypeId} {x : Operand} : stepA E C f base ⟨dst, .box t x, ty, pos, aft, g⟩ fr H K = someThen ((fr.ev x).cells?.map fun cs => (.ptr H.length 0 0, H ++ [some ⟨cs, 0⟩])) K := (rfl)
theorem s_build {t : TypeId} {parts : Array (Nat × Operand)} : stepA E C f base ⟨dst, .build t parts, ty, pos, aft, g⟩ fr H K = someThen ((E.T t).bind fun ti => (buildA ti (parts.toList.map fun p => (p.1, fr.ev p.2))).map fun v => (v, H)) K := (rfl)
theorem s_buildSlice {t : TypeId} {n : Nat} {parts : Array (Nat × Operand)} : stepA E C f base ⟨dst, .buildSlice t n parts, ty, pos, aft, g⟩ fr H K = someThen ((E.kd t).bind fun k => buildSliceA (ownDst E f dst) H k n (parts.toList.map fun p => (p.1, fr.ev p.2))) K := (rfl)
theorem s_load {t : TypeId} {a : Operand} : stepA E C f base ⟨dst, .load t a, ty, pos, aft, g⟩ fr H K = someThen ((E.T t).bind fun ti => (loadA ti H (fr.ev a)).map fun v => (v, H)) K := (rfl)
theorem s_nilCheck {x : Operand} : stepA E C f base ⟨dst, .nilCheck x, ty, pos, aft, g⟩ fr H K = someThen ((nilCheckA (fr.ev x)).map fun v => (v, H)) K := (rfl)
theorem s_binOp {op : BinOp} {t u : TypeId} {x y : Operand} : stepA E C f base ⟨dst, .binOp op t x y u, ty, pos, aft, g⟩ fr H K = someThen ((binB E t (isConst x || isConst y) op (fr.ev x) (fr.ev y)).map fun v => (v, H)) K := (rfl)
theorem s_unOp {op : UnOp} {t : TypeId} {x : Operand} : stepA E C f base ⟨dst, .unOp op t x, ty, pos, aft, g⟩ fr H K = someThen ((unA op (fr.ev x)).map fun v => (v, H)) K := (rfl)
theorem s_convert {t u : TypeId} {x : Operand} : stepA E C f base ⟨dst, .convert t u x, ty, pos, aft, g⟩ fr H K = someThen ((E.kd t).bind fun s => (E.kd u).bind fun d => (convertA s d (fr.ev x)).map fun v => (v, H)) K := (rfl)
theorem s_makeInterface {t : TypeId} {x : Operand} : stepA E C f base ⟨dst, .makeInterface t x, ty, pos, aft, g⟩ fr H K = someThen ((E.kd t).bind fun k => (makeInterfaceA k t (fr.ev x)).map fun v => (v, H)) K := (rfl)
theorem s_makeFunc {h : FuncId} {a b : Array Operand} : stepA E C f base ⟨dst, .makeFunc (.func h) a b, ty, pos, aft, g⟩ fr H K = someThen (if a.size = 0 then some (.fn h (b.toList.map fr.ev), H) else none) K := (rfl)
theorem s_makeSlice {t : TypeId} {l c : Operand} : stepA E C f base ⟨dst, .makeSlice t l c, ty, pos, aft, g⟩ fr H K = someThen ((E.kd t).bind fun k => makeSliceA H k (fr.ev l) (fr.ev c)) K := (rfl)
theorem s_slice {t : TypeId} {x : Operand} {lo hi : Option Operand} : stepA E C f base ⟨dst, .slice t x lo hi none, ty, pos, aft, g⟩ fr H K = someThen ((E.kd t).bind fun k => (sliceA H fr k (fr.ev x) lo hi).map fun v => (v, H)) K := (rfl)
theorem s_fieldAddr {t : TypeId} {x : Operand} {i : Nat} : stepA E C f base ⟨dst, .fieldAddr t x i, ty, pos, aft, g⟩ fr H K = someThen ((E.kd t).bind fun k => (fieldAddrA k (fr.ev x) i).map fun v => (v, H)) K := (rfl)
theorem s_field {t : TypeId} {x : Operand} {i : Nat} : stepA E C f base ⟨dst, .field t x i, ty, pos, aft, g⟩ fr H K = someThen ((E.kd t).bind fun k => (fieldA k (fr.ev x) i).map fun v => (v, H)) K := (rfl)
theorem s_indexAddr {t : TypeId} {x i : Operand} : stepA E C f base ⟨dst, .indexAddr t x i, ty, pos, aft, g⟩ fr H K = someThen ((E.kd t).bind fun k => (indexAddrA k (fr.ev x) (fr.ev i)).map fun v => (v, H)) K := (rfl)
theorem s_index {t : TypeId} {x i : Operand} : stepA E C f base ⟨dst, .index t x i, ty, pos, aft, g⟩ fr H K = someThen ((E.kd t).bind fun k => (indexA k (fr.ev x) (fr.ev i)).map fun v => (v, H)) K := (rfl)
theorem s_arrayAt {t : TypeId} {x : Operand} : stepA E C f base ⟨dst, .sliceToArrayPointer t x, ty, pos, aft, g⟩ fr H K = someThen ((E.kd t).bind fun k => (arrayAtA k (fr.ev x)).map fun v => (v, H)) K := (rfl)
theorem s_extract {x : Operand} {i : Nat} : stepA E C f base ⟨dst, .extract x i, ty, pos, aft, g⟩ fr H K = someThen ((extractA (fr.ev x) i).map fun v => (v, H)) K := (rfl)
theorem s_store {t : TypeId} {a x : Operand} : stepA E C f base ⟨dst, .store t a x, ty, pos, aft, g⟩ fr H K = match E.T t with | some ti => storeThen base (storeA ti H (fr.ev a) (fr.ev x)) K | none => False := (rfl)
theorem s_builtin {b : Builtin} {as : Array Operand} {ts : Array TypeId} : stepA E C f base ⟨dst, .call ⟨.builtin b, as, ts⟩, ty, pos, aft, g⟩ fr H K = (mayAppend base b (as.toList.map fr.ev) H ∧ someThen (builtinA E b ts.toList (as.toList.map fr.ev) H) K) := (rfl)
theorem s_call {h : Operand} {as : Array Operand} {ts : Array TypeId} : stepA E C f base ⟨dst, .call ⟨.value h, as, ts⟩, ty, pos, aft, g⟩ fr H K = fnThen E C (fr.ev h) (as.toList.map fr.ev) H K := (rfl)
end
theorem someThen_some {v : AV} {H : Heap} {K : AV → Heap → Prop} : someThen (some (v, H)) K = K v H := (rfl)
theorem storeThen_some {base id : Nat} {vs : List AV} {H : Heap} {K : AV → Heap → Prop} : storeThen base (some (id, vs, H)) K = (mayStore base id vs ∧ K (.tup []) H) := (rfl)

theorem wpA_seq {a b : Code} {fr : Fr} {H : Heap} {K : Ex → Fr → Heap → Prop} : wpA E C f base (.seq a b) fr H K = wpA E C f base a fr H (seqK E C f base b K) := (rfl)
theorem wpA_block {id : Nat} {b : Code} {fr : Fr} {H : Heap} {K : Ex → Fr → Heap → Prop} : wpA E C f base (.block id b) fr H K = wpA E C f base b fr H (blockK id K) := (rfl)
theorem wpA_skip {fr : Fr} {H : Heap} {K : Ex → Fr → Heap → Prop} : wpA E C f base .skip fr H K = K .normal fr H := (rfl)
theorem wpA_exit {id : Nat} {fr : Fr} {H : Heap} {K : Ex → Fr → Heap → Prop} : wpA E C f base (.exit id) fr H K = K (.exit id) fr H := (rfl)
theorem wpA_ret {fr : Fr} {H : Heap} {K : Ex → Fr → Heap → Prop} : wpA E C f base .ret fr H K = K .ret fr H := (rfl)
theorem wpA_loop {b : Code} {fr : Fr} {H : Heap} {K : Ex → Fr → Heap → Prop} : wpA E C f base (.loop b) fr H K = loopA E C f base b K fr H := (rfl)

theorem loopA_of {b : Code} {fr : Fr} {H : Heap} {K : Ex → Fr → Heap → Prop} (h : wpA E C f base b fr H (loopK E C f base b K)) : loopA E C f base b K fr H := by
  intro X hX
  refine hX fr H (wpA_mono (fun _ _ _ _ _ h => h) b (fun e fr H h => ?_) h)
  cases e with
  | normal => exact h X hX
  | _ => exact h
end
end Go.Proofs.YtimdnnlfkkkpbaaDoor
