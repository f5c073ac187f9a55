/- trig: how far a place is. -/
import Derived.Test.YtoncolpkpgbfiaaDoorQ4
set_option linter.unusedSimpArgs false
set_option linter.unusedVariables false
set_option maxRecDepth 100000
set_option maxHeartbeats 4000000
namespace Go.Proofs.YtoncolpkpgbfiaaDoor

def topJ (n : Int) : Prop := -4611686018427387903 ≤ n ∧ n ≤ 4611686018427387903
instance (n : Int) : Decidable (topJ n) := by unfold topJ; exact inferInstance
end Go.Proofs.YtoncolpkpgbfiaaDoor
