/- polar: plain laws of a quarter, and of the spreads (no program in sight). -/
import Derived.Test.YtoncolpkpgbfiaaDoorW1
import Derived.Test.YtoncolpkpgbfiaaDoorX0
set_option linter.unusedSimpArgs false
set_option linter.unusedVariables false
set_option maxRecDepth 100000
set_option maxHeartbeats 4000000
namespace Go.Proofs.YtoncolpkpgbfiaaDoor
theorem quarter_sc {z : Int} (hz : 0 ≤ z ∧ z < 65536) : sinT (65536 * ((z + 16384) % 65536)) = cosT (65536 * z) ∧ cosT (65536 * ((z + 16384) % 65536)) = -sinT (65536 * z) := by
  have eb : bothZ (65536 * ((z + 16384) % 65536)) = bothZ (65536 * z) := by
    unfold bothZ
    rw [show 65536 * ((z + 16384) % 65536) % 1073741824 = 65536 * z % 1073741824 by omega]
  have es : sinQ (65536 * ((z + 16384) % 65536)) = sinQ (65536 * z) := by unfold sinQ; rw [eb]
  have ec : cosQ (65536 * ((z + 16384) % 65536)) = cosQ (65536 * z) := by unfold cosQ; rw [eb]
  have key : (65536 * z / 1073741824 = 0 ∧ 65536 * ((z + 16384) % 65536) / 1073741824 = 1) ∨ (65536 * z / 1073741824 = 1 ∧ 65536 * ((z + 16384) % 65536) / 1073741824 = 2) ∨
      (65536 * z / 1073741824 = 2 ∧ 65536 * ((z + 16384) % 65536) / 1073741824 = 3) ∨ (65536 * z / 1073741824 = 3 ∧ 65536 * ((z + 16384) % 65536) / 1073741824 = 0) := by omega
  unfold sinT cosT
  rw [es, ec]
  generalize sinQ (65536 * z) = s at *
  generalize cosQ (65536 * z) = c at *
  rcases key with ⟨h1, h2⟩ | ⟨h1, h2⟩ | ⟨h1, h2⟩ | ⟨h1, h2⟩ <;> rw [h1, h2] <;> simp
theorem bnd_ng (x : Int) : bndI (-x) = -bndI x := by unfold bndI; omega
theorem pn30 (z : Int) : bndI (rnd (-z) (2 ^ 30)) = -bndI (rnd z (2 ^ 30)) := by rw [rnd_neg _ _ (by decide), bnd_ng]
theorem quarter_pl {z far : Int} (hz : 0 ≤ z ∧ z < 65536) : plX (65536 * ((z + 16384) % 65536)) far = plY (65536 * z) far ∧ plY (65536 * ((z + 16384) % 65536)) far = -plX (65536 * z) far := by
  unfold plX plY
  rw [(quarter_sc hz).1, (quarter_sc hz).2, Int.mul_neg, pn30]
  exact ⟨rfl, rfl⟩
theorem quarter_po {z : Int} (R T far : Int) (hz : 0 ≤ z ∧ z < 65536) : poXX R T far (65536 * ((z + 16384) % 65536)) = poYY R T far (65536 * z) ∧ poYY R T far (65536 * ((z + 16384) % 65536)) = poXX R T far (65536 * z) ∧
    poXY R T far (65536 * ((z + 16384) % 65536)) = -poXY R T far (65536 * z) := by
  have e1 : poSS (65536 * ((z + 16384) % 65536)) = poCC (65536 * z) := by unfold poSS poCC; rw [(quarter_sc hz).1]
  have e2 : poCC (65536 * ((z + 16384) % 65536)) = poSS (65536 * z) := by unfold poSS poCC; rw [(quarter_sc hz).2, Int.neg_mul_neg]
  have e3 : poSC (65536 * ((z + 16384) % 65536)) = -poSC (65536 * z) := by unfold poSC; rw [(quarter_sc hz).1, (quarter_sc hz).2, Int.mul_neg, pn30, Int.mul_comm]
  unfold poXX poYY poXY
  rw [e1, e2, e3]
  refine ⟨rfl, rfl, ?_⟩
  unfold po3
  rw [← pn30]
  congr 2
  simp only [dotZ, Int.mul_neg, Int.neg_neg]
  omega
/-! the spreads -/
theorem rnd_mono {z z' p : Int} (hp : 0 < p) (h : z ≤ z') : rnd z p ≤ rnd z' p := by
  rcases Int.lt_or_eq_of_le h with h1 | h1
  · have a := rnd_near (z := z) hp
    have b := rnd_near (z := z') hp
    rcases Int.lt_or_le (rnd z' p) (rnd z p) with h2 | h2
    · have : p * (rnd z' p + 1) ≤ p * rnd z p := Int.mul_le_mul_of_nonneg_left (by omega) (by omega)
      rw [Int.mul_add] at this
      omega
    · exact h2
  · rw [h1]; exact Int.le_refl _
theorem bnd_mono {x y : Int} (h : x ≤ y) : bndI x ≤ bndI y := by unfold bndI; omega
theorem rnd_zero {p : Int} (hp : 0 < p) : rnd 0 p = 0 := by unfold rnd; simp; omega
theorem bnd_nonneg {x : Int} (h : 0 ≤ x) : 0 ≤ bndI x := by unfold bndI; omega
theorem rnd_nonneg {z p : Int} (hp : 0 < p) (h : 0 ≤ z) : 0 ≤ rnd z p := by have := rnd_mono hp h; rw [rnd_zero hp] at this; exact this
theorem poA_nonneg (R : Int) : 0 ≤ poA R := bnd_nonneg (rnd_nonneg (by decide) (sq_nonneg R))
theorem poB_nonneg (far T : Int) : 0 ≤ poB far T := bnd_nonneg (rnd_nonneg (by decide) (sq_nonneg _))
theorem poB_mono {far far' T : Int} (h0 : 0 ≤ far) (h : far ≤ far') (hT : 0 ≤ T) : poB far T ≤ poB far' T := by
  have h1 : 0 ≤ poD far T := bnd_nonneg (rnd_nonneg (by decide) (Int.mul_nonneg h0 hT))
  have h2 : poD far T ≤ poD far' T := bnd_mono (rnd_mono (by decide) (Int.mul_le_mul_of_nonneg_right h hT))
  exact bnd_mono (rnd_mono (by decide) (Int.mul_le_mul h2 h2 h1 (by omega)))
theorem ovr_bnd {x : Int} (h : ovrB x = false) : bndI x = x := by
  have := of_decide_eq_false h
  unfold bndI; omega
theorem ss_cc (t : Int) : (0 ≤ poSS t ∧ 0 ≤ poCC t) ∧ -17 ≤ poSS t + poCC t - 1073741824 ∧ poSS t + poCC t - 1073741824 ≤ 17 := by
  have o1 : poSS t = rnd (sinT t * sinT t) (2 ^ 30) := ovr_bnd (ovr_prod (sin_small t) (sin_small t))
  have o2 : poCC t = rnd (cosT t * cosT t) (2 ^ 30) := ovr_bnd (ovr_prod (cos_small t) (cos_small t))
  have n1 := rnd_near (z := sinT t * sinT t) (p := 2 ^ 30) (by decide)
  have n2 := rnd_near (z := cosT t * cosT t) (p := 2 ^ 30) (by decide)
  have m1 := rnd_nonneg (z := sinT t * sinT t) (p := 2 ^ 30) (by decide) (sq_nonneg _)
  have m2 := rnd_nonneg (z := cosT t * cosT t) (p := 2 ^ 30) (by decide) (sq_nonneg _)
  have sc := sc_one t
  rw [o1, o2]
  rw [show (2 : Int) ^ 30 = 1073741824 by decide] at *
  generalize rnd (sinT t * sinT t) 1073741824 = a at *
  generalize rnd (cosT t * cosT t) 1073741824 = b at *
  omega
theorem cross (a b s c : Int) : (a * s + b * c) + (a * c + b * s) = (a + b) * (s + c) := by grind
theorem po_spread {R T far t : Int} (ho : poOv R T far t = false) : 0 ≤ poXX R T far t ∧ 0 ≤ poYY R T far t ∧ (poA R ≤ 1152921504606846976 → poB far T ≤ 1152921504606846976 →
    (poXX R T far t ≤ 4611686018427387903 ∧ poYY R T far t ≤ 4611686018427387903 ∧ poXX R T far t + poYY R T far t ≤ 4611686018427387903) ∧ poXX R T far t + poYY R T far t - poA R - poB far T ≤ poA R / 1000000 + poB far T / 1000000 + 16 ∧
    -(poA R / 1000000 + poB far T / 1000000 + 16) ≤ poXX R T far t + poYY R T far t - poA R - poB far T) := by
  unfold poOv at ho
  simp only [Bool.or_eq_false_iff] at ho
  obtain ⟨⟨⟨-, o1⟩, o2⟩, -⟩ := ho
  obtain ⟨⟨s0, c0⟩, sc1, sc2⟩ := ss_cc t
  have a0 := poA_nonneg R
  have b0 := poB_nonneg far T
  unfold poXX poYY
  unfold po3o at o1 o2
  unfold po3
  rw [ovr_bnd o1, ovr_bnd o2]
  generalize poSS t = s at *
  generalize poCC t = c at *
  generalize poA R = a at *
  generalize poB far T = b at *
  have z1 : dotZ [a, b] [s, c] = a * s + b * c := by simp [dotZ]
  have z2 : dotZ [a, b] [c, s] = a * c + b * s := by simp [dotZ]
  rw [z1, z2]
  have m1 : 0 ≤ a * s := Int.mul_nonneg a0 s0
  have m2 : 0 ≤ b * c := Int.mul_nonneg b0 c0
  have m3 : 0 ≤ a * c := Int.mul_nonneg a0 c0
  have m4 : 0 ≤ b * s := Int.mul_nonneg b0 s0
  have k1 := rnd_nonneg (z := a * s + b * c) (p := 2 ^ 30) (by decide) (by omega)
  have k2 := rnd_nonneg (z := a * c + b * s) (p := 2 ^ 30) (by decide) (by omega)
  have n1 := rnd_near (z := a * s + b * c) (p := 2 ^ 30) (by decide)
  have n2 := rnd_near (z := a * c + b * s) (p := 2 ^ 30) (by decide)
  refine ⟨k1, k2, fun ha hb => ?_⟩
  have cr := cross a b s c
  obtain ⟨e, he⟩ : ∃ e, s + c - 1073741824 = e := ⟨_, rfl⟩
  have he2 : s + c = 1073741824 + e := by omega
  rw [he2, Int.mul_add] at cr
  have be : -((a + b) * 17) ≤ (a + b) * e ∧ (a + b) * e ≤ (a + b) * 17 := abs_mul_le (by omega) (by omega)
  rw [show (2 : Int) ^ 30 = 1073741824 by decide] at *
  generalize rnd (a * s + b * c) 1073741824 = X at *
  generalize rnd (a * c + b * s) 1073741824 = Y at *
  generalize (a + b) * e = W at *
  generalize a * s = p1 at *
  generalize b * c = p2 at *
  generalize a * c = p3 at *
  generalize b * s = p4 at *
  omega
end Go.Proofs.YtoncolpkpgbfiaaDoor
