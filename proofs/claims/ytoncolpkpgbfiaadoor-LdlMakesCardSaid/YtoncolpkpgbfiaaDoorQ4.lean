/- qnum: the root. -/
import Derived.Test.YtoncolpkpgbfiaaDoorQ3
set_option linter.unusedSimpArgs false
set_option linter.unusedVariables false
set_option maxRecDepth 100000
set_option maxHeartbeats 4000000
namespace Go.Proofs.YtoncolpkpgbfiaaDoor

theorem sqrt_ex (N : Nat) : ∃ r : Nat, r * r ≤ N ∧ N < (r + 1) * (r + 1) := by
  induction N with
  | zero => exact ⟨0, by decide, by decide⟩
  | succ N ih =>
    obtain ⟨r, h1, h2⟩ := ih
    by_cases h : N + 1 < (r + 1) * (r + 1)
    · exact ⟨r, by omega, h⟩
    · refine ⟨r + 1, by omega, ?_⟩
      have : (r + 1 + 1) * (r + 1 + 1) = (r + 1) * (r + 1) + 2 * (r + 1) + 1 := by grind
      omega
theorem orC {x y : Int} (hx : 0 ≤ x ∧ x < 18446744073709551616) (hy : 0 ≤ y ∧ y < 18446744073709551616) : bitsI .or .u64 x y = bitsI .or .u64 y x := by
  rw [bitsU_or hx hy, bitsU_or hy hx, Nat.or_comm]
theorem sq_le {x r N : Int} (hx : 0 ≤ x) (hr : 0 ≤ r) (h1 : r * r ≤ N) (h2 : N < (r + 1) * (r + 1)) : x * x ≤ N ↔ x ≤ r := by
  constructor
  · intro h
    rcases Int.lt_or_le r x with h3 | h3
    · have := (mulB (a := r + 1) (b := r + 1) (A := x) (B := x) (by omega) (by omega) (by omega) (by omega)).2
      omega
    · exact h3
  · intro h
    have := (mulB (a := x) (b := x) (A := r) (B := r) (by omega) (by omega) (by omega) (by omega)).2
    omega
end Go.Proofs.YtoncolpkpgbfiaaDoor
