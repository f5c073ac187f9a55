/- vec: its errors. -/
import Derived.Test.YtdknnaalfoongaaGreatDoorV2
set_option linter.unusedSimpArgs false
set_option linter.unusedVariables false
set_option maxRecDepth 100000
set_option maxHeartbeats 4000000
namespace Go.Proofs.YtdknnaalfoongaaGreatDoor
/-- May these be joined? -/
def mayJ (l : List (List Int)) (ch : List Int) : Prop := 1 ≤ l.length ∧ l.length ≤ 4 ∧ l.length = ch.length ∧ (l.getD 0 []).length ≤ 6 ∧ ∀ r ∈ l, r.length = (l.getD 0 []).length
end Go.Proofs.YtdknnaalfoongaaGreatDoor
