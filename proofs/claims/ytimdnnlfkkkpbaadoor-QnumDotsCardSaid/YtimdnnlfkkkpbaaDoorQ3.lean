/- qnum: other bits behind the point. -/
import Derived.Test.YtimdnnlfkkkpbaaDoorQ2
set_option linter.unusedSimpArgs false
set_option linter.unusedVariables false
set_option maxRecDepth 100000
set_option maxHeartbeats 4000000
namespace Go.Proofs.YtimdnnlfkkkpbaaDoor
theorem pow62 (n : Nat) (h : n ≤ 62) : (1 : Int) ≤ 2 ^ n ∧ (2 : Int) ^ n ≤ 4611686018427387904 := by
  refine ⟨Int.pow_pos (by decide), ?_⟩
  have h1 := Nat.pow_le_pow_right (n := 2) (by decide) h
  have h2 : ((2 ^ n : Nat) : Int) ≤ ((2 ^ 62 : Nat) : Int) := Int.ofNat_le.2 h1
  simpa using h2
end Go.Proofs.YtimdnnlfkkkpbaaDoor
