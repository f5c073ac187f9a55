/- What the rows' one listed variable, errors.errorType, gives a walk; a world in which it is laid. (Turned from the guide's worked example ToyasProofs.) -/
import Derived.Test.YtoncolpkpgbfiaaDoorRows
import Derived.Test.YtoncolpkpgbfiaaDoorEvX
import Derived.Test.YtoncolpkpgbfiaaDoorEvV
import Derived.ChangeSame
import Derived.ChangeVars
import Derived.JoinedOf
import Derived.RowKit
import Derived.RowKitTokens
import Derived.LaidLaws
import Derived.LaidHandle
import Derived.Stop.Joined
namespace Go.Proofs.YtoncolpkpgbfiaaDoor
open Go.ChangeShapes Go.WideShapes Go.RowKit
theorem ownK : ownKnob Tryd.prog.godebug = none := by kernel_rfl
theorem etK : Tryd.prog.globalNamed "errors.errorType" = some 0 := by kernel_rfl
theorem rtK : (Tryd.prog.cutTypes.find? (·.1 == "internal/reflectlite.rtype")).map (·.2) = some 172 := by kernel_rfl
theorem oneRowK : ((List.range 229).filter fun t => Tryd.prog.rowNamed t [101, 114, 114, 111, 114]) = [30] := by kernel_rfl
theorem sizeK : Tryd.prog.types.size = 229 := by kernel_rfl
def laidL : List (String × DataW Unit) := [("errors.errorType", Rows.laid_errors_errorType)]
/-- The variable's block. -/
theorem laid_row {W : World} (h : laidMetH Tryd.prog laidL W) : rowAt W 0 = some [.iface 172 (.agg #[.pointer (some ⟨3, 30, none⟩)])] := by
  have h' : laidMet Tryd.prog [] W ∧ handlesMet Tryd.prog laidL W := h
  obtain ⟨name, u, ty, e1, e2, e3, e4, e5⟩ := h'.2 _ (List.mem_singleton.2 rfl)
  have en : name = [101, 114, 114, 111, 114] := (Option.some.inj e1).symm
  subst en
  obtain rfl := Option.some.inj (rtK.symm.trans e2)
  have hm : ty ∈ (List.range 229).filter fun t => Tryd.prog.rowNamed t [101, 114, 114, 111, 114] := List.mem_filter.2 ⟨List.mem_range.2 (by rw [← sizeK]; exact e3), e4⟩
  rw [oneRowK] at hm
  obtain rfl := List.mem_singleton.1 hm
  have hh : typeHandle Tryd.prog 30 = .pointer (some ⟨3, 30, none⟩) := by kernel_rfl
  rw [hh] at e5
  have e6 : W.var? Tryd.prog "errors.errorType" = some #[.iface 172 (.agg #[.pointer (some ⟨3, 30, none⟩)])] := e5
  simp only [World.var?, etK, Option.bind_some] at e6
  unfold rowAt
  split at e6
  · rename_i cs T fz hb
    rw [hb]
    have : cs = _ := Option.some.inj e6
    rw [this]
  · cases e6
theorem laid_glob {W : World} (h : laidMetH Tryd.prog laidL W) : ∀ b cs, GLOB b = some cs → rowAt W b = some cs := by
  intro b cs hb
  unfold GLOB at hb
  by_cases h0 : b = 0
  · subst h0
    rw [if_pos rfl] at hb
    rw [laid_row h]; exact hb
  · rw [if_neg h0] at hb; cases hb
/-- A world that meets the condition: the settled one, the variable's cell laid. -/
noncomputable def laidWorld (os : Os) : World :=
  let w0 := World.holding Tryd.prog os ⟨#[], #[], []⟩
  { w0 with heap := w0.heap.modify 0 fun
      | .cells _ t frozen => .cells #[.iface 172 (.agg #[.pointer (some ⟨3, 30, none⟩)])] t frozen
      | o => o }
theorem laidWorld_met (os : Os) (args : Array Value) : laidMetH Tryd.prog laidL ((laidWorld os).forCall (fun _ _ => 0) ⟨#[], args, []⟩).memory :=
  laidMetH_of_parts (laidMet_nil _ _) (by kernel_rfl)
end Go.Proofs.YtoncolpkpgbfiaaDoor
