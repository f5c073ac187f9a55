/- Numbers of 256 bits in eight parts: by two to a power, rounded and bounded. -/
import Derived.Test.YtoncolpkpgbfiaaDoorP4
set_option linter.unusedSimpArgs false
set_option linter.unusedVariables false
set_option maxRecDepth 100000
set_option maxHeartbeats 4000000
namespace Go.Proofs.YtoncolpkpgbfiaaDoor
theorem mixL_past (Q i : Nat) (h : Q < 4294967296 ^ i) (hi : i ≤ 8) : mixL Q 0 i = wB Q := by
  unfold mixL wB
  apply List.map_congr_left
  intro k hk
  by_cases h1 : k < i
  · rw [if_pos h1]
  · rw [if_neg h1, dB_zero_of_lt (n := Q) (Nat.lt_of_lt_of_le h (Nat.pow_le_pow_right (by decide) (by omega))), dB_zero_of_lt (Nat.pow_pos (by decide))]
theorem wB8 (n : Nat) : uL (wB n) = [.int .u64 ((dB n 0 : Nat) : Int), .int .u64 ((dB n 1 : Nat) : Int), .int .u64 ((dB n 2 : Nat) : Int), .int .u64 ((dB n 3 : Nat) : Int), .int .u64 ((dB n 4 : Nat) : Int), .int .u64 ((dB n 5 : Nat) : Int), .int .u64 ((dB n 6 : Nat) : Int), .int .u64 ((dB n 7 : Nat) : Int)] := rfl
theorem wB_one : uL (wB 1) = [.int .u64 1, .int .u64 0, .int .u64 0, .int .u64 0, .int .u64 0, .int .u64 0, .int .u64 0, .int .u64 0] := by rw [wB8]; simp [dB]
theorem wB_top : uL (wB 4611686018427387904) = [.int .u64 0, .int .u64 1073741824, .int .u64 0, .int .u64 0, .int .u64 0, .int .u64 0, .int .u64 0, .int .u64 0] := by rw [wB8]; simp [dB]
theorem bndS {R : Nat} {z : Int} {g : Bool} (h : z = if g = true then -(R : Int) else R) : (¬ R < 4611686018427387904 → bndI z = (if g = true then -4611686018427387903 else 4611686018427387903) ∧ ovrB z = true) ∧ (R < 4611686018427387904 → bndI z = z ∧ ovrB z = false) := by
  unfold bndI ovrB
  cases g
  · simp only [Bool.false_eq_true, if_false] at h ⊢
    subst h
    refine ⟨fun h1 => ⟨by omega, decide_eq_true (by omega)⟩, fun h1 => ⟨by omega, decide_eq_false (by omega)⟩⟩
  · simp only [if_true] at h ⊢
    subst h
    refine ⟨fun h1 => ⟨by omega, decide_eq_true (by omega)⟩, fun h1 => ⟨by omega, decide_eq_false (by omega)⟩⟩

end Go.Proofs.YtoncolpkpgbfiaaDoor
