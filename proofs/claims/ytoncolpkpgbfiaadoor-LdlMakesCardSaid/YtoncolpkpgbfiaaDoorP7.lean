/- The reference's quotient, bit by bit. -/
import Derived.Test.YtoncolpkpgbfiaaDoorP6
set_option linter.unusedSimpArgs false
set_option linter.unusedVariables false
set_option maxRecDepth 100000
set_option maxHeartbeats 4000000
namespace Go.Proofs.YtoncolpkpgbfiaaDoor
theorem lng_step {M B bit : Nat} (hB : 0 < B) (hb : bit < 2) : (B ≤ 2 * (M % B) + bit ∧ (2 * M + bit) / B = 2 * (M / B) + 1 ∧ (2 * M + bit) % B = 2 * (M % B) + bit - B) ∨ (2 * (M % B) + bit < B ∧ (2 * M + bit) / B = 2 * (M / B) ∧ (2 * M + bit) % B = 2 * (M % B) + bit) := by
  have h1 := Nat.div_add_mod M B
  have h2 := Nat.mod_lt M hB
  generalize hQ : M / B = Q at *
  generalize hR : M % B = R at *
  rcases Nat.lt_or_ge (2 * R + bit) B with h | h
  · refine .inr ⟨h, (Nat.div_mod_unique hB).2 ⟨?_, h⟩⟩
    rw [← h1, show B * (2 * Q) = 2 * (B * Q) by rw [← Nat.mul_assoc, Nat.mul_comm B 2, Nat.mul_assoc]]; omega
  · refine .inl ⟨h, (Nat.div_mod_unique hB).2 ⟨?_, by omega⟩⟩
    rw [← h1, Nat.mul_add, show B * (2 * Q) = 2 * (B * Q) by rw [← Nat.mul_assoc, Nat.mul_comm B 2, Nat.mul_assoc]]; omega
theorem rnd_nat (N B : Nat) : rnd (N : Int) (B : Int) = ((N / B + (if B < 2 * (N % B) ∨ B = 2 * (N % B) ∧ N / B % 2 = 1 then 1 else 0) : Nat) : Int) := by
  unfold rnd
  rw [← Int.natCast_ediv, ← Int.natCast_emod]
  generalize N / B = Q
  generalize N % B = R
  by_cases h : B < 2 * R ∨ B = 2 * R ∧ Q % 2 = 1
  · rw [if_pos h, if_pos (by omega)]; omega
  · rw [if_neg h, if_neg (by omega)]; omega

theorem bnd_low {x : Int} (h : x < -4611686018427387903) : bndI x = -4611686018427387903 := by unfold bndI; omega
theorem bnd_high {x : Int} (h : 4611686018427387903 < x) : bndI x = 4611686018427387903 := by unfold bndI; omega
theorem bnd_mid {x : Int} (h : -4611686018427387903 ≤ x ∧ x ≤ 4611686018427387903) : bndI x = x := by unfold bndI; omega
theorem ovr_low {x : Int} (h : x < -4611686018427387903) : ovrB x = true := decide_eq_true (by omega)
theorem ovr_high {x : Int} (h : 4611686018427387903 < x) : ovrB x = true := decide_eq_true (by omega)
theorem ovr_mid {x : Int} (h : -4611686018427387903 ≤ x ∧ x ≤ 4611686018427387903) : ovrB x = false := decide_eq_false (by omega)
end Go.Proofs.YtoncolpkpgbfiaaDoor
