/- From the interpreter to a statement: what it says of a function, the machine does, and writes nothing that was there. -/
import Derived.Test.YtimdnnlfkkkpbaaDoorEvM
import Derived.Below
set_option linter.unusedSimpArgs false
set_option linter.unusedVariables false
namespace Go.Proofs.YtimdnnlfkkkpbaaDoor

/-- The lists that came in, by the blocks in which they lie. -/
def startCtx (z : Nat → Option (List Value)) : Ctx := { z := z, m := fun _ => none }
theorem startSim {z : Nat → Option (List Value)} {w : World} (hgl : ∀ b cs, GLOB b = some cs → z b = some cs) (h : ∀ b cs, z b = some cs → ∃ T fz, w.heap[b]? = some (.cells cs.toArray T fz)) : Sim (startCtx z) [] w :=
  ⟨fun id p h => by simp [startCtx] at h, fun id b h => by simp [liveAt] at h, fun id id' v v' b s s' h => by simp [startCtx] at h, fun id v b s h => by simp [startCtx] at h, fun id v b s h => by simp [startCtx] at h, h, hgl⟩

theorem Call.runs {E : Env} (hE : EnvOk E) (hG : ∀ f args v, E.given f args v → ∀ H, CallOk E f args H v H) {f : FuncId} {args : List AV} {v : AV} (h : Call E f args [] v []) {z : Nat → Option (List Value)} {w : World} (hgl : ∀ b cs, GLOB b = some cs → z b = some cs) (hz : ∀ b cs, z b = some cs → ∃ T fz, w.heap[b]? = some (.cells cs.toArray T fz)) {cargs : List Value}
    (ha : LRel (startCtx z) args cargs) : Calls E.P f cargs.toArray w fun e w' => (∃ c x, e = .returned x ∧ VRel c v x) ∧ Go.RowKit.Below w.heap.size w w' := by
  refine ((Call.ok hE (draw_sound hE) hG h).2 _ w cargs (startSim hgl hz) ha).mono fun e w' he => ?_
  obtain ⟨c', x, rfl, hv, ht⟩ := he
  refine ⟨⟨c', x, rfl, hv⟩, ht.alike.1, ht.alike.2.1, ht.alike.2.2, ht.grow, fun k hk => ht.unch k hk ?_⟩
  rintro ⟨id, v, s, hm⟩
  simp [startCtx] at hm

/-- Of a law: it answers true. -/
theorem Call.law {E : Env} (hE : EnvOk E) (hG : ∀ f args v, E.given f args v → ∀ H, CallOk E f args H v H) {f : FuncId} {args : List AV} (h : Call E f args [] (.bool true) []) {z : Nat → Option (List Value)} {w : World} (hgl : ∀ b cs, GLOB b = some cs → z b = some cs) (hz : ∀ b cs, z b = some cs → ∃ T fz, w.heap[b]? = some (.cells cs.toArray T fz)) {cargs : List Value}
    (ha : LRel (startCtx z) args cargs) : Calls E.P f cargs.toArray w fun e w' => e = .returned (.bool true) ∧ Go.RowKit.Below w.heap.size w w' := by
  refine (h.runs hE hG hgl hz ha).mono fun e w' ⟨⟨c, x, he, hv⟩, hb⟩ => ⟨?_, hb⟩
  rw [he, hv.inv_bool]
end Go.Proofs.YtimdnnlfkkkpbaaDoor
