/- A call proved outside the interpreter, whose writings lie in new blocks alone: it may be taken as given. -/
import Derived.Test.YtoncolpkpgbfiaaDoorEvN
set_option linter.unusedSimpArgs false
set_option linter.unusedVariables false
namespace Go.Proofs.YtoncolpkpgbfiaaDoor
theorem Sim.below {c : Ctx} {H : Heap} {w w' : World} (s : Sim c H w) (h : Go.RowKit.Below w.heap.size w w') : Sim c H w' := by
  refine ⟨s.dom, fun id b hl => ?_, s.inj, s.disj, fun id v b sz hm => Nat.lt_of_lt_of_le (s.bnd id v b sz hm) h.size, fun b cs hz => ?_, s.glob⟩
  · obtain ⟨bk, hm, hb⟩ := s.blk id b hl
    refine ⟨bk, hm, ?_⟩
    cases bk with
    | none => exact hb
    | some p =>
      obtain ⟨k, sz⟩ := p
      obtain ⟨cs, T, h1, h2⟩ := hb
      exact ⟨cs, T, by rw [h.block k (s.bnd id _ k sz hm)]; exact h1, h2⟩
  · obtain ⟨T, fz, h1⟩ := s.froz b cs hz
    refine ⟨T, fz, ?_⟩
    rw [h.block b ?_]
    · exact h1
    · rcases Nat.lt_or_ge b w.heap.size with h2 | h2
      · exact h2
      · rw [Array.getElem?_eq_none h2] at h1; cases h1
theorem Trans.below {base : Nat} {c : Ctx} {H : Heap} {w w' : World} (s : Sim c H w) (h : Go.RowKit.Below w.heap.size w w') : Trans base c H w c H w' :=
  ⟨.refl c, s.below h, h.size, fun b hb _ => h.block b hb, fun _ h => .inl h, fun _ _ h => .inl h, Nat.le_refl _, fun _ _ h => h, ⟨h.os, h.tape, h.output⟩⟩
theorem CallOk.num {E : Env} {f : FuncId} {fn : Func} (hf : E.P.funcs[f]? = some fn) (hb : fn.body.isSome = true) (hn : (fn.name == "runtime.NumGoroutine") = false) {tn : TypeId} {g : Value} (hg : GLOB 0 = some [g])
    (hit : ∀ (n : Int) (w : World), w.cell? ⟨0, 0, none⟩ = some g → Calls E.P f #[.iface tn (.int .i64 n)] w fun ev w' => ev = .returned (.int .i64 n) ∧ Go.RowKit.Below w.heap.size w w') (n : Int) (H : Heap) :
    CallOk E f [.ifc tn (.int .i64 n)] H (.int .i64 n) H := by
  refine ⟨⟨fn, hf, hb, hn⟩, fun c w cargs s ha => ?_⟩
  obtain ⟨x, r, rfl, hx, hr⟩ := ha.head
  have hr0 : r = [] := List.eq_nil_of_length_eq_zero (by simpa using hr.1.symm)
  subst hr0
  cases hx
  rename_i y hy
  obtain rfl := hy.inv_int
  obtain ⟨T, fz, h1⟩ := s.froz 0 _ (s.glob 0 _ hg)
  refine (hit n w ?_).mono fun e w' ⟨he, h2⟩ => ⟨c, _, he, .int _ _, Trans.below s h2⟩
  simp [World.cell?, h1]
end Go.Proofs.YtoncolpkpgbfiaaDoor
