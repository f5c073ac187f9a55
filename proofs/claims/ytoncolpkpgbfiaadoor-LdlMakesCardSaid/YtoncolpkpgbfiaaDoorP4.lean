/- Numbers of 256 bits in eight parts: by two to a power, rounded: plain laws; a bit. -/
import Derived.Test.YtoncolpkpgbfiaaDoorP3
set_option linter.unusedSimpArgs false
set_option linter.unusedVariables false
set_option maxRecDepth 100000
set_option maxHeartbeats 4000000
namespace Go.Proofs.YtoncolpkpgbfiaaDoor
theorem pow32 {s : Nat} (hs : s ≤ 32) : 2 ^ s * 2 ^ (32 - s) = 4294967296 := by
  rw [← Nat.pow_add, show s + (32 - s) = 32 by omega]
theorem shiftB (N w s k : Nat) (hs : s ≤ 32) : dB (N / 2 ^ (32 * w + s)) k = dB N (k + w) / 2 ^ s + dB N (k + w + 1) * 2 ^ (32 - s) % 4294967296 := by
  have hP : 0 < 2 ^ s := Nat.pow_pos (by omega)
  have hR : 0 < 2 ^ (32 - s) := Nat.pow_pos (by omega)
  have hPR := pow32 hs
  have e1 : N / 2 ^ (32 * w + s) / 4294967296 ^ k = N / 4294967296 ^ (k + w) / 2 ^ s := by
    rw [Nat.div_div_eq_div_mul, Nat.div_div_eq_div_mul]
    congr 1
    rw [Nat.pow_add, Nat.pow_mul, Nat.pow_add, show (2 : Nat) ^ 32 = 4294967296 from rfl, Nat.mul_comm (4294967296 ^ k), Nat.mul_right_comm]
  have e2 : dB N (k + w + 1) = N / 4294967296 ^ (k + w) / 4294967296 % 4294967296 := by
    unfold dB; rw [Nat.pow_succ, ← Nat.div_div_eq_div_mul]
  rw [e2]
  unfold dB
  rw [e1]
  generalize N / 4294967296 ^ (k + w) = M
  generalize 2 ^ s = P at *
  generalize 2 ^ (32 - s) = R at *
  have h0 := Nat.div_add_mod M 4294967296
  generalize M / 4294967296 = m1 at *
  generalize hm0 : M % 4294967296 = m0 at *
  have hm0' : m0 < 4294967296 := by rw [← hm0]; exact Nat.mod_lt _ (by decide)
  have hx : m0 / P < R := by rw [Nat.div_lt_iff_lt_mul hP, Nat.mul_comm]; omega
  have e3 : M / P = m0 / P + R * m1 := by
    rw [← h0, ← hPR, Nat.mul_assoc, Nat.mul_add_div hP]; omega
  rw [e3]
  have e4 : (m0 / P + R * m1) % 4294967296 = m0 / P + R * (m1 % P) := by
    rw [← hPR, Nat.mul_comm P R, Nat.mod_mul, Nat.add_mul_mod_self_left, Nat.mod_eq_of_lt hx, Nat.add_mul_div_left _ _ hR, Nat.div_eq_of_lt hx, Nat.zero_add]
  rw [e4]
  congr 1
  rw [← hPR, Nat.mul_mod_mul_right, Nat.mod_mul_right_mod, Nat.mul_comm]
theorem bitB (N w s : Nat) (hs : s < 32) : dB N w / 2 ^ s % 2 = N / 2 ^ (32 * w + s) % 2 := by
  have h := shiftB N w s 0 (by omega)
  have e : dB (N / 2 ^ (32 * w + s)) 0 % 2 = N / 2 ^ (32 * w + s) % 2 := by unfold dB; rw [Nat.pow_zero, Nat.div_one]; omega
  rw [← e, h]
  rw [Nat.zero_add]
  have : 2 ∣ dB N (w + 1) * 2 ^ (32 - s) % 4294967296 := by
    have h1 : 2 ∣ dB N (w + 1) * 2 ^ (32 - s) := by
      rw [show 32 - s = (31 - s) + 1 by omega, Nat.pow_succ, ← Nat.mul_assoc]; exact Nat.dvd_mul_left _ _
    omega
  omega
/-- The rest below a bit is none. -/
theorem restB (N w s : Nat) (hs : s < 32) (hw : w ≤ 1) : N % 2 ^ (32 * w + s) = 0 ↔ (w = 1 → dB N 0 = 0) ∧ dB N w % 2 ^ s = 0 := by
  have hd : 2 ^ s ∣ 4294967296 := ⟨2 ^ (32 - s), (pow32 (by omega)).symm⟩
  have e : ∀ M : Nat, M % 4294967296 % 2 ^ s = M % 2 ^ s := fun M => Nat.mod_mod_of_dvd _ hd
  rcases Nat.le_one_iff_eq_zero_or_eq_one.1 hw with rfl | rfl
  · unfold dB
    rw [Nat.pow_zero, Nat.div_one, e]
    simp
  · unfold dB
    rw [Nat.pow_zero, Nat.div_one, Nat.pow_one, e, show 32 * 1 + s = 32 + s from rfl, Nat.pow_add, show (2 : Nat) ^ 32 = 4294967296 from rfl, Nat.mod_mul]
    have hp : 0 < 2 ^ s := Nat.pow_pos (by omega)
    generalize N / 4294967296 % 2 ^ s = x
    constructor
    · intro h
      exact ⟨fun _ => by omega, by omega⟩
    · rintro ⟨h1, h2⟩
      rw [h1 rfl, h2]
def upB (N b : Nat) : Bool := decide (0 < b) && decide (N / 2 ^ (b - 1) % 2 = 1) && (decide (N % 2 ^ (b - 1) ≠ 0) || decide (N / 2 ^ b % 2 = 1))
def rB (N b : Nat) : Nat := N / 2 ^ b + (if upB N b = true then 1 else 0)
theorem rB_rnd (N b : Nat) : ((rB N b : Nat) : Int) = rnd N (2 ^ b) := by
  unfold rB rnd upB
  cases b with
  | zero => simp
  | succ b =>
    have hp : (2 : Nat) ^ (b + 1) = 2 * 2 ^ b := by rw [Nat.pow_succ]; omega
    have hp' : (2 : Int) ^ (b + 1) = ((2 ^ (b + 1) : Nat) : Int) := by simp
    have hh : 0 < 2 ^ b := Nat.pow_pos (by omega)
    have hm : N % 2 ^ (b + 1) = N % 2 ^ b + 2 ^ b * (N / 2 ^ b % 2) := by rw [Nat.pow_succ, Nat.mod_mul]
    have hd : N / 2 ^ (b + 1) = N / 2 ^ b / 2 := by rw [Nat.pow_succ, Nat.div_div_eq_div_mul]
    have hl := Nat.mod_lt N hh
    rw [hp', ← Int.natCast_ediv, ← Int.natCast_emod]
    rw [Nat.add_sub_cancel, decide_eq_true (Nat.succ_pos b), Bool.true_and, Int.natCast_add]
    congr 1
    rw [hm, hp]
    rw [hp] at hd
    generalize N / (2 * 2 ^ b) = q at *
    generalize N % 2 ^ b = r at *
    generalize N / 2 ^ b = t at *
    generalize 2 ^ b = h at *
    have ht := Nat.mod_lt t (show 2 > 0 by decide)
    generalize t % 2 = z at *
    rcases (show z = 0 ∨ z = 1 by omega) with rfl | rfl
    · rw [if_neg (by simp), if_neg (by omega)]; rfl
    · rw [decide_eq_true rfl, Bool.true_and]
      by_cases h1 : r = 0
      · subst h1
        by_cases h2 : q % 2 = 1
        · rw [if_pos (by simp [h2]), if_pos (by omega)]; rfl
        · rw [if_neg (by simp; omega), if_neg (by omega)]; rfl
      · rw [if_pos (by simp [h1]), if_pos (by omega)]; rfl
theorem rnd_neg (z p : Int) (hp : 0 < p) : rnd (-z) p = -rnd z p := by
  unfold rnd
  have h0 := Int.mul_ediv_add_emod z p
  have h1 := Int.emod_nonneg z (Int.ne_of_gt hp)
  have h2 := Int.emod_lt_of_pos z hp
  by_cases hr : z % p = 0
  · have e1 : (-z) % p = 0 := by rw [Int.neg_emod_eq_sub_emod, Int.sub_emod, hr]; simp
    have e2 : (-z) / p = -(z / p) := Int.neg_ediv_of_dvd (Int.dvd_of_emod_eq_zero hr)
    rw [e1, e2, hr, if_neg (by omega), if_neg (by omega)]; omega
  · have e := (Int.ediv_emod_unique (a := -z) (r := p - z % p) (q := -(z / p) - 1) hp).2 ⟨by
      rw [Int.mul_sub, Int.mul_neg]
      generalize p * (z / p) = x at *
      omega, by omega, by omega⟩
    rw [e.1, e.2]
    generalize z / p = q at *
    generalize z % p = r at *
    by_cases c1 : p < 2 * r ∨ p = 2 * r ∧ q % 2 = 1
    · rw [if_pos c1, if_neg (by omega)]; omega
    · rw [if_neg c1, if_pos (by omega)]; omega

end Go.Proofs.YtoncolpkpgbfiaaDoor
