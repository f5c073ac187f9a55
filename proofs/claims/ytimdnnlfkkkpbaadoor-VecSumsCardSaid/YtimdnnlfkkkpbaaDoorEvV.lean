/- Unknown bools that only guard a move: what follows is looked at once. -/
import Derived.Test.YtimdnnlfkkkpbaaDoorEvZ
set_option linter.unusedVariables false
set_option linter.unusedSimpArgs false
set_option linter.defProp false
namespace Go.Proofs.YtimdnnlfkkkpbaaDoor
def guardV (t c : Bool) : AV := if t then .bool c else .tup []
def moveG (t : Bool) (v : AV) (p q : Prop) (k : AV → Prop) : Prop :=
  match v with
  | .bool c => k (guardV t c)
  | _ => guardThen (some t) p q
section
variable {E : Env} {C : CallRel} {f base : Nat} {all : Array Oper} {rest : List Oper} {ts : List Tag} {fr : Fr} {H : Heap} {K : Fr → Heap → Prop} {dst : Option Nat} {ty : TypeId} {pos : String} {aft : Array Edge} {g : Option (Nat × Bool)} {x : Operand} {b w : Bool}
theorem moveG_bool {t c : Bool} {p q : Prop} {k : AV → Prop} : moveG t (.bool c) p q k = k (guardV t c) := (rfl)
@[congr] theorem moveG_look {t : Bool} {v v' : AV} {p q : Prop} {k : AV → Prop} (h : v = v') : moveG t v p q k = moveG t v' p q k := by rw [h]
theorem guard_stuck : guardThen (some (!b)) (stepA E C f base ⟨dst, .move x, ty, pos, aft, g⟩ fr H (seqO E C f base all rest dst fr K)) (wpSeq E C f base all rest (fr.put dst (.tup [])) H K) =
    moveG (!b) (fr.ev x) (stepA E C f base ⟨dst, .move x, ty, pos, aft, g⟩ fr H (seqO E C f base all rest dst fr K)) (wpSeq E C f base all rest (fr.put dst (.tup [])) H K) fun v => wpSeq E C f base all rest (fr.put dst v) H K := by
  unfold moveG
  split
  · rename_i c hc
    have h : stepA E C f base ⟨dst, .move x, ty, pos, aft, g⟩ fr H (seqO E C f base all rest dst fr K) = wpSeq E C f base all rest (fr.put dst (.bool c)) H K := by
      show someThen (moveA (ownDst E f dst) (E.kd ty) H (fr.ev x)) _ = _
      rw [hc]
      rfl
    rw [h]
    cases b
    · rfl
    · rfl
  · rfl
theorem guard_stuckP : guardThen (some b) (stepA E C f base ⟨dst, .move x, ty, pos, aft, g⟩ fr H (seqO E C f base all rest dst fr K)) (wpSeq E C f base all rest (fr.put dst (.tup [])) H K) =
    moveG b (fr.ev x) (stepA E C f base ⟨dst, .move x, ty, pos, aft, g⟩ fr H (seqO E C f base all rest dst fr K)) (wpSeq E C f base all rest (fr.put dst (.tup [])) H K) fun v => wpSeq E C f base all rest (fr.put dst v) H K := by
  unfold moveG
  split
  · rename_i c hc
    have h : stepA E C f base ⟨dst, .move x, ty, pos, aft, g⟩ fr H (seqO E C f base all rest dst fr K) = wpSeq E C f base all rest (fr.put dst (.bool c)) H K := by
      show someThen (moveA (ownDst E f dst) (E.kd ty) H (fr.ev x)) _ = _
      rw [hc]
      rfl
    rw [h]
    cases b
    · rfl
    · rfl
  · rfl
theorem pick_or {a c : Bool} : pickA (.bool a) (.bool true) (guardV (!a) c) H = some (.bool (a || c), H) := by cases a <;> rfl
theorem pick_and {a c : Bool} : pickA (.bool a) (guardV a c) (.bool false) H = some (.bool (a && c), H) := by cases a <;> rfl
theorem mv_guardV {t c own : Bool} {k : Option TK} : moveA own k H (guardV t c) = some (guardV t c, H) := by cases t <;> rfl
end
def gor := And.intro @guard_stuck (And.intro @moveG_bool (And.intro @pick_or (And.intro @pick_and @mv_guardV)))
end Go.Proofs.YtimdnnlfkkkpbaaDoor
