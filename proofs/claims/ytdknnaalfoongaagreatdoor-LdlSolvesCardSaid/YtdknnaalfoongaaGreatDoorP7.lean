/- The reference's quotient, bit by bit. -/
import Derived.Test.YtdknnaalfoongaaGreatDoorP6
set_option linter.unusedSimpArgs false
set_option linter.unusedVariables false
set_option maxRecDepth 100000
set_option maxHeartbeats 4000000
namespace Go.Proofs.YtdknnaalfoongaaGreatDoor
theorem lng_step {M B bit : Nat} (hB : 0 < B) (hb : bit < 2) : (B ≤ 2 * (M % B) + bit ∧ (2 * M + bit) / B = 2 * (M / B) + 1 ∧ (2 * M + bit) % B = 2 * (M % B) + bit - B) ∨ (2 * (M % B) + bit < B ∧ (2 * M + bit) / B = 2 * (M / B) ∧ (2 * M + bit) % B = 2 * (M % B) + bit) := by
  have h1 := Nat.div_add_mod M B
  have h2 := Nat.mod_lt M hB
  generalize hQ : M / B = Q at *
  generalize hR : M % B = R at *
  rcases Nat.lt_or_ge (2 * R + bit) B with h | h
  · refine .inr ⟨h, (Nat.div_mod_unique hB).2 ⟨?_, h⟩⟩
    rw [← h1, show B * (2 * Q) = 2 * (B * Q) by rw [← Nat.mul_assoc, Nat.mul_comm B 2, Nat.mul_assoc]]; omega
  · refine .inl ⟨h, (Nat.div_mod_unique hB).2 ⟨?_, by omega⟩⟩
    rw [← h1, Nat.mul_add, show B * (2 * Q) = 2 * (B * Q) by rw [← Nat.mul_assoc, Nat.mul_comm B 2, Nat.mul_assoc]]; omega
theorem rnd_nat (N B : Nat) : rnd (N : Int) (B : Int) = ((N / B + (if B < 2 * (N % B) ∨ B = 2 * (N % B) ∧ N / B % 2 = 1 then 1 else 0) : Nat) : Int) := by
  unfold rnd
  rw [← Int.natCast_ediv, ← Int.natCast_emod]
  generalize N / B = Q
  generalize N % B = R
  by_cases h : B < 2 * R ∨ B = 2 * R ∧ Q % 2 = 1
  · rw [if_pos h, if_pos (by omega)]; omega
  · rw [if_neg h, if_neg (by omega)]; omega
noncomputable def c56 : Code := Tryz.f56.body.getD .skip
theorem b56 : Tryz.f56.body = some c56 := rfl
theorem d56 : fnOk Tryz.f56 c56 = true := by kernel_rfl
def D56 : Nat → List Tag := fun _ => []
theorem e56 : drawsOk D56 c56 = true := by kernel_rfl
theorem bnd_low {x : Int} (h : x < -4611686018427387903) : bndI x = -4611686018427387903 := by unfold bndI; omega
theorem bnd_high {x : Int} (h : 4611686018427387903 < x) : bndI x = 4611686018427387903 := by unfold bndI; omega
theorem bnd_mid {x : Int} (h : -4611686018427387903 ≤ x ∧ x ≤ 4611686018427387903) : bndI x = x := by unfold bndI; omega
theorem ovr_low {x : Int} (h : x < -4611686018427387903) : ovrB x = true := decide_eq_true (by omega)
theorem ovr_high {x : Int} (h : 4611686018427387903 < x) : ovrB x = true := decide_eq_true (by omega)
theorem ovr_mid {x : Int} (h : -4611686018427387903 ≤ x ∧ x ≤ 4611686018427387903) : ovrB x = false := decide_eq_false (by omega)
theorem refDiv_ok (a b : Int) (n : Nat) (S : Heap) (ha : inI a) (hb : inI b) (hb0 : b ≠ 0) (hn : n ≤ 62) (v : Int) (hv : v = (if (a < 0) ↔ (b < 0) then rnd (a.natAbs * 2 ^ n) b.natAbs else -(rnd (a.natAbs * 2 ^ n) b.natAbs))) :
    Call theE 56 [.int .i64 a, .int .i64 b, .int .i64 n] S (.tup [.int .i64 (bndI v), .bool (ovrB v)]) S := by
  have z1 := fun S => sizeB_ok a S ha
  have z2 := fun S => sizeB_ok b S hb
  unfold inI at ha hb
  obtain ⟨nb, hnb⟩ : ∃ nb, (!(decide (a < 0) == decide (b < 0))) = nb := ⟨_, rfl⟩
  have hiff : ((a < 0) ↔ (b < 0)) ↔ nb = false := by
    rw [← hnb]
    by_cases h1 : a < 0 <;> by_cases h2 : b < 0 <;> simp [h1, h2]
  simp only [hiff] at hv
  obtain ⟨A, hA⟩ : ∃ A, a.natAbs = A := ⟨_, rfl⟩
  obtain ⟨B, hB⟩ : ∃ B, b.natAbs = B := ⟨_, rfl⟩
  rw [hA] at hv z1
  rw [hB] at hv z2
  have hB0 : 0 < B := by omega
  have hB1 : B ≤ 9223372036854775808 := by omega
  have hA1 : A ≤ 9223372036854775808 := by omega
  obtain ⟨N, hN⟩ : ∃ N, A * 2 ^ n = N := ⟨_, rfl⟩
  have hNI : ((A : Nat) : Int) * 2 ^ n = (N : Int) := by rw [← hN, Int.natCast_mul, Int.natCast_pow]; rfl
  rw [hNI, rnd_nat] at hv
  have hNlt : N < 2 ^ (64 + n) := by
    rw [← hN, Nat.pow_add]
    exact Nat.mul_lt_mul_of_pos_right (by omega) (Nat.two_pow_pos n)
  have w63 : IntKind.i64.wrap (63 + (n : Int)) = ((64 + n : Nat) : Int) - 1 := by rw [wrapI (by omega)]; omega
  refine Call.ofC Tryz.func56 YtdknnaalfoongaaGreatDoor.b56 YtdknnaalfoongaaGreatDoor.d56 YtdknnaalfoongaaGreatDoor.e56 (by simp [Tryz.f56]) ?_
  dsimp only [YtdknnaalfoongaaGreatDoor.c56, Tryz.f56, Option.getD_some]
  iterate 3
    simp (maxSteps := 2000000) only [wk0, wk1, wk2, wk3, wk4, wk5, wk6, Fr.ev, Fr.put, Fr.get, storeA, List.replicate, IntKind.bits, sevalprocAttr, w63, decide_false, YtdknnaalfoongaaGreatDoor.D56, ty2, ty3, ty4, ty142]
    try first
      | refine callThen_of (z1 _) ?_
      | refine callThen_of (z2 _) ?_
  refine loopC_ind (fun m fr H => m ≤ 64 + n ∧ fr.get 0 = .int .i64 a ∧ fr.get 1 = .int .i64 b ∧ fr.get 2 = .int .i64 n ∧ fr.get 8 = .int .u64 (A : Int) ∧ fr.get 9 = .int .u64 (B : Int) ∧ fr.get 10 = .int .u64 ((N / 2 ^ m / B % 18446744073709551616 : Nat) : Int) ∧ fr.get 11 = .int .u64 ((N / 2 ^ m % B : Nat) : Int) ∧
    fr.get 12 = .bool (decide (9223372036854775808 ≤ N / 2 ^ m / B)) ∧ fr.get 13 = .int .i64 ((m : Int) - 1) ∧ H = S) ?_ (n := 64 + n)
    ⟨Nat.le_refl _, rfl, rfl, rfl, rfl, rfl, by rw [Nat.div_eq_of_lt hNlt]; simp [Fr.get], by rw [Nat.div_eq_of_lt hNlt]; simp [Fr.get], by rw [Nat.div_eq_of_lt hNlt]; simp [Fr.get], rfl, rfl⟩
  rintro m fr H ⟨hm, g0, g1, g2, g8, g9, g10, g11, g12, g13, rfl⟩ ih
  cases m with
  | zero =>
    have p1 : ¬ (0 : Int) ≤ ((0 : Nat) : Int) - 1 := by omega
    rw [Nat.pow_zero, Nat.div_one] at g10 g11 g12
    have hRl := Nat.mod_lt N hB0
    generalize hQ : N / B = Q at *
    generalize hR : N % B = R at *
    obtain ⟨V, hV0⟩ : ∃ V, V = Q + (if B < 2 * R ∨ B = 2 * R ∧ Q % 2 = 1 then 1 else 0) := ⟨_, rfl⟩
    rw [← hV0] at hv
    have w15 : IntKind.u64.wrap ((B : Int) - (R : Int)) = ((B - R : Nat) : Int) := by rw [wrapU (by omega)]; omega
    have etm : Int.tmod ((Q % 18446744073709551616 : Nat) : Int) 2 = ((Q % 2 : Nat) : Int) := by rw [Int.tmod_eq_emod_of_nonneg (by omega)]; omega
    have w18 : IntKind.u64.wrap (((Q % 18446744073709551616 : Nat) : Int) + 1) = (((Q + 1) % 18446744073709551616 : Nat) : Int) := by rw [wrapU64]; omega
    by_cases hc1 : B < 2 * R
    · have c1 : ((B - R : Nat) : Int) < (R : Int) := by omega
      have hV : V = (Q + 1) := by rw [hV0]; first | rw [if_pos (by omega)] | (rw [if_neg (by omega)]; omega)
      have etm2 := True.intro
      by_cases hg : 9223372036854775808 ≤ Q
      · have g12' := g12
        rw [decide_eq_true hg] at g12'
        cases nb with
        | true =>
          rw [if_neg (by simp)] at hv
          simp (maxSteps := 2000000) only [wk0, wk1, wk2, wk3, wk4, wk5, wk6, Fr.ev, Fr.put, Fr.get, storeA, List.replicate, IntKind.bits, sevalprocAttr, g0, g1, g8, g9, g10, g11, g12', g13, p1, w15, c1, w18, etm, hnb, decide_true, decide_false, YtdknnaalfoongaaGreatDoor.D56, ty2, ty3, ty4, ty142]
          exact retB_plain (by simp [nmd_int, nmd_bool]) (by rw [hv, bnd_low (by omega), ovr_low (by omega)]; rfl) (by simp)
        | false =>
          rw [if_pos (by simp)] at hv
          simp (maxSteps := 2000000) only [wk0, wk1, wk2, wk3, wk4, wk5, wk6, Fr.ev, Fr.put, Fr.get, storeA, List.replicate, IntKind.bits, sevalprocAttr, g0, g1, g8, g9, g10, g11, g12', g13, p1, w15, c1, w18, etm, hnb, decide_true, decide_false, YtdknnaalfoongaaGreatDoor.D56, ty2, ty3, ty4, ty142]
          exact retB_plain (by simp [nmd_int, nmd_bool]) (by rw [hv, bnd_high (by omega), ovr_high (by omega)]; rfl) (by simp)
      · have g12' := g12
        rw [decide_eq_false hg] at g12'
        have eQ : (((Q + 1) % 18446744073709551616 : Nat) : Int) = (V : Int) := by omega
        by_cases hT : (4611686018427387903 : Int) < (V : Int)
        · cases nb with
          | true =>
            rw [if_neg (by simp)] at hv
            simp (maxSteps := 2000000) only [wk0, wk1, wk2, wk3, wk4, wk5, wk6, Fr.ev, Fr.put, Fr.get, storeA, List.replicate, IntKind.bits, sevalprocAttr, g0, g1, g8, g9, g10, g11, g12', g13, p1, w15, c1, w18, etm, hnb, eQ, etm2, hT, decide_true, decide_false, YtdknnaalfoongaaGreatDoor.D56, ty2, ty3, ty4, ty142]
            exact retB_plain (by simp [nmd_int, nmd_bool]) (by rw [hv, bnd_low (by omega), ovr_low (by omega)]; rfl) (by simp)
          | false =>
            rw [if_pos (by simp)] at hv
            simp (maxSteps := 2000000) only [wk0, wk1, wk2, wk3, wk4, wk5, wk6, Fr.ev, Fr.put, Fr.get, storeA, List.replicate, IntKind.bits, sevalprocAttr, g0, g1, g8, g9, g10, g11, g12', g13, p1, w15, c1, w18, etm, hnb, eQ, etm2, hT, decide_true, decide_false, YtdknnaalfoongaaGreatDoor.D56, ty2, ty3, ty4, ty142]
            exact retB_plain (by simp [nmd_int, nmd_bool]) (by rw [hv, bnd_high (by omega), ovr_high (by omega)]; rfl) (by simp)
        · have wV : IntKind.i64.wrap (V : Int) = (V : Int) := wrapI (by omega)
          have wV' : IntKind.i64.wrap (0 - (V : Int)) = -(V : Int) := by rw [wrapI (by omega)]; omega
          cases nb with
          | true =>
            rw [if_neg (by simp)] at hv
            simp (maxSteps := 2000000) only [wk0, wk1, wk2, wk3, wk4, wk5, wk6, Fr.ev, Fr.put, Fr.get, storeA, List.replicate, IntKind.bits, sevalprocAttr, g0, g1, g8, g9, g10, g11, g12', g13, p1, w15, c1, w18, etm, hnb, eQ, etm2, hT, wV, wV', decide_true, decide_false, YtdknnaalfoongaaGreatDoor.D56, ty2, ty3, ty4, ty142]
            exact retB_plain (by simp [nmd_int, nmd_bool]) (by rw [hv, bnd_mid (by omega), ovr_mid (by omega)]; rfl) (by simp)
          | false =>
            rw [if_pos (by simp)] at hv
            simp (maxSteps := 2000000) only [wk0, wk1, wk2, wk3, wk4, wk5, wk6, Fr.ev, Fr.put, Fr.get, storeA, List.replicate, IntKind.bits, sevalprocAttr, g0, g1, g8, g9, g10, g11, g12', g13, p1, w15, c1, w18, etm, hnb, eQ, etm2, hT, wV, wV', decide_true, decide_false, YtdknnaalfoongaaGreatDoor.D56, ty2, ty3, ty4, ty142]
            exact retB_plain (by simp [nmd_int, nmd_bool]) (by rw [hv, bnd_mid (by omega), ovr_mid (by omega)]; rfl) (by simp)
    · have c1 : ¬ ((B - R : Nat) : Int) < (R : Int) := by omega
      by_cases hc2 : B = 2 * R
      · have c2 : ((R : Int) = ((B - R : Nat) : Int)) = True := eq_true (by omega)
        by_cases hc3 : Q % 2 = 1
        · have c3 : (((Q % 2 : Nat) : Int) = 1) = True := eq_true (by omega)
          have hV : V = (Q + 1) := by rw [hV0]; first | rw [if_pos (by omega)] | (rw [if_neg (by omega)]; omega)
          have etm2 := True.intro
          by_cases hg : 9223372036854775808 ≤ Q
          · have g12' := g12
            rw [decide_eq_true hg] at g12'
            cases nb with
            | true =>
              rw [if_neg (by simp)] at hv
              simp (maxSteps := 2000000) only [wk0, wk1, wk2, wk3, wk4, wk5, wk6, Fr.ev, Fr.put, Fr.get, storeA, List.replicate, IntKind.bits, sevalprocAttr, g0, g1, g8, g9, g10, g11, g12', g13, p1, w15, c1, c2, c3, w18, etm, hnb, decide_true, decide_false, YtdknnaalfoongaaGreatDoor.D56, ty2, ty3, ty4, ty142]
              exact retB_plain (by simp [nmd_int, nmd_bool]) (by rw [hv, bnd_low (by omega), ovr_low (by omega)]; rfl) (by simp)
            | false =>
              rw [if_pos (by simp)] at hv
              simp (maxSteps := 2000000) only [wk0, wk1, wk2, wk3, wk4, wk5, wk6, Fr.ev, Fr.put, Fr.get, storeA, List.replicate, IntKind.bits, sevalprocAttr, g0, g1, g8, g9, g10, g11, g12', g13, p1, w15, c1, c2, c3, w18, etm, hnb, decide_true, decide_false, YtdknnaalfoongaaGreatDoor.D56, ty2, ty3, ty4, ty142]
              exact retB_plain (by simp [nmd_int, nmd_bool]) (by rw [hv, bnd_high (by omega), ovr_high (by omega)]; rfl) (by simp)
          · have g12' := g12
            rw [decide_eq_false hg] at g12'
            have eQ : (((Q + 1) % 18446744073709551616 : Nat) : Int) = (V : Int) := by omega
            by_cases hT : (4611686018427387903 : Int) < (V : Int)
            · cases nb with
              | true =>
                rw [if_neg (by simp)] at hv
                simp (maxSteps := 2000000) only [wk0, wk1, wk2, wk3, wk4, wk5, wk6, Fr.ev, Fr.put, Fr.get, storeA, List.replicate, IntKind.bits, sevalprocAttr, g0, g1, g8, g9, g10, g11, g12', g13, p1, w15, c1, c2, c3, w18, etm, hnb, eQ, etm2, hT, decide_true, decide_false, YtdknnaalfoongaaGreatDoor.D56, ty2, ty3, ty4, ty142]
                exact retB_plain (by simp [nmd_int, nmd_bool]) (by rw [hv, bnd_low (by omega), ovr_low (by omega)]; rfl) (by simp)
              | false =>
                rw [if_pos (by simp)] at hv
                simp (maxSteps := 2000000) only [wk0, wk1, wk2, wk3, wk4, wk5, wk6, Fr.ev, Fr.put, Fr.get, storeA, List.replicate, IntKind.bits, sevalprocAttr, g0, g1, g8, g9, g10, g11, g12', g13, p1, w15, c1, c2, c3, w18, etm, hnb, eQ, etm2, hT, decide_true, decide_false, YtdknnaalfoongaaGreatDoor.D56, ty2, ty3, ty4, ty142]
                exact retB_plain (by simp [nmd_int, nmd_bool]) (by rw [hv, bnd_high (by omega), ovr_high (by omega)]; rfl) (by simp)
            · have wV : IntKind.i64.wrap (V : Int) = (V : Int) := wrapI (by omega)
              have wV' : IntKind.i64.wrap (0 - (V : Int)) = -(V : Int) := by rw [wrapI (by omega)]; omega
              cases nb with
              | true =>
                rw [if_neg (by simp)] at hv
                simp (maxSteps := 2000000) only [wk0, wk1, wk2, wk3, wk4, wk5, wk6, Fr.ev, Fr.put, Fr.get, storeA, List.replicate, IntKind.bits, sevalprocAttr, g0, g1, g8, g9, g10, g11, g12', g13, p1, w15, c1, c2, c3, w18, etm, hnb, eQ, etm2, hT, wV, wV', decide_true, decide_false, YtdknnaalfoongaaGreatDoor.D56, ty2, ty3, ty4, ty142]
                exact retB_plain (by simp [nmd_int, nmd_bool]) (by rw [hv, bnd_mid (by omega), ovr_mid (by omega)]; rfl) (by simp)
              | false =>
                rw [if_pos (by simp)] at hv
                simp (maxSteps := 2000000) only [wk0, wk1, wk2, wk3, wk4, wk5, wk6, Fr.ev, Fr.put, Fr.get, storeA, List.replicate, IntKind.bits, sevalprocAttr, g0, g1, g8, g9, g10, g11, g12', g13, p1, w15, c1, c2, c3, w18, etm, hnb, eQ, etm2, hT, wV, wV', decide_true, decide_false, YtdknnaalfoongaaGreatDoor.D56, ty2, ty3, ty4, ty142]
                exact retB_plain (by simp [nmd_int, nmd_bool]) (by rw [hv, bnd_mid (by omega), ovr_mid (by omega)]; rfl) (by simp)
        · have c3 : (((Q % 2 : Nat) : Int) = 1) = False := eq_false (by omega)
          have hV : V = Q := by rw [hV0]; first | rw [if_pos (by omega)] | (rw [if_neg (by omega)]; omega)
          have etm2 := (show Int.tmod (V : Int) 2 = ((Q % 2 : Nat) : Int) by rw [hV, Int.tmod_eq_emod_of_nonneg (by omega)]; omega)
          by_cases hg : 9223372036854775808 ≤ Q
          · have g12' := g12
            rw [decide_eq_true hg] at g12'
            cases nb with
            | true =>
              rw [if_neg (by simp)] at hv
              simp (maxSteps := 2000000) only [wk0, wk1, wk2, wk3, wk4, wk5, wk6, Fr.ev, Fr.put, Fr.get, storeA, List.replicate, IntKind.bits, sevalprocAttr, g0, g1, g8, g9, g10, g11, g12', g13, p1, w15, c1, c2, c3, w18, etm, hnb, decide_true, decide_false, YtdknnaalfoongaaGreatDoor.D56, ty2, ty3, ty4, ty142]
              exact retB_plain (by simp [nmd_int, nmd_bool]) (by rw [hv, bnd_low (by omega), ovr_low (by omega)]; rfl) (by simp)
            | false =>
              rw [if_pos (by simp)] at hv
              simp (maxSteps := 2000000) only [wk0, wk1, wk2, wk3, wk4, wk5, wk6, Fr.ev, Fr.put, Fr.get, storeA, List.replicate, IntKind.bits, sevalprocAttr, g0, g1, g8, g9, g10, g11, g12', g13, p1, w15, c1, c2, c3, w18, etm, hnb, decide_true, decide_false, YtdknnaalfoongaaGreatDoor.D56, ty2, ty3, ty4, ty142]
              exact retB_plain (by simp [nmd_int, nmd_bool]) (by rw [hv, bnd_high (by omega), ovr_high (by omega)]; rfl) (by simp)
          · have g12' := g12
            rw [decide_eq_false hg] at g12'
            have eQ : ((Q % 18446744073709551616 : Nat) : Int) = (V : Int) := by omega
            by_cases hT : (4611686018427387903 : Int) < (V : Int)
            · cases nb with
              | true =>
                rw [if_neg (by simp)] at hv
                simp (maxSteps := 2000000) only [wk0, wk1, wk2, wk3, wk4, wk5, wk6, Fr.ev, Fr.put, Fr.get, storeA, List.replicate, IntKind.bits, sevalprocAttr, g0, g1, g8, g9, g10, g11, g12', g13, p1, w15, c1, c2, c3, w18, etm, hnb, eQ, etm2, hT, decide_true, decide_false, YtdknnaalfoongaaGreatDoor.D56, ty2, ty3, ty4, ty142]
                exact retB_plain (by simp [nmd_int, nmd_bool]) (by rw [hv, bnd_low (by omega), ovr_low (by omega)]; rfl) (by simp)
              | false =>
                rw [if_pos (by simp)] at hv
                simp (maxSteps := 2000000) only [wk0, wk1, wk2, wk3, wk4, wk5, wk6, Fr.ev, Fr.put, Fr.get, storeA, List.replicate, IntKind.bits, sevalprocAttr, g0, g1, g8, g9, g10, g11, g12', g13, p1, w15, c1, c2, c3, w18, etm, hnb, eQ, etm2, hT, decide_true, decide_false, YtdknnaalfoongaaGreatDoor.D56, ty2, ty3, ty4, ty142]
                exact retB_plain (by simp [nmd_int, nmd_bool]) (by rw [hv, bnd_high (by omega), ovr_high (by omega)]; rfl) (by simp)
            · have wV : IntKind.i64.wrap (V : Int) = (V : Int) := wrapI (by omega)
              have wV' : IntKind.i64.wrap (0 - (V : Int)) = -(V : Int) := by rw [wrapI (by omega)]; omega
              cases nb with
              | true =>
                rw [if_neg (by simp)] at hv
                simp (maxSteps := 2000000) only [wk0, wk1, wk2, wk3, wk4, wk5, wk6, Fr.ev, Fr.put, Fr.get, storeA, List.replicate, IntKind.bits, sevalprocAttr, g0, g1, g8, g9, g10, g11, g12', g13, p1, w15, c1, c2, c3, w18, etm, hnb, eQ, etm2, hT, wV, wV', decide_true, decide_false, YtdknnaalfoongaaGreatDoor.D56, ty2, ty3, ty4, ty142]
                exact retB_plain (by simp [nmd_int, nmd_bool]) (by rw [hv, bnd_mid (by omega), ovr_mid (by omega)]; rfl) (by simp)
              | false =>
                rw [if_pos (by simp)] at hv
                simp (maxSteps := 2000000) only [wk0, wk1, wk2, wk3, wk4, wk5, wk6, Fr.ev, Fr.put, Fr.get, storeA, List.replicate, IntKind.bits, sevalprocAttr, g0, g1, g8, g9, g10, g11, g12', g13, p1, w15, c1, c2, c3, w18, etm, hnb, eQ, etm2, hT, wV, wV', decide_true, decide_false, YtdknnaalfoongaaGreatDoor.D56, ty2, ty3, ty4, ty142]
                exact retB_plain (by simp [nmd_int, nmd_bool]) (by rw [hv, bnd_mid (by omega), ovr_mid (by omega)]; rfl) (by simp)
      · have c2 : ((R : Int) = ((B - R : Nat) : Int)) = False := eq_false (by omega)
        have hV : V = Q := by rw [hV0]; first | rw [if_pos (by omega)] | (rw [if_neg (by omega)]; omega)
        have etm2 := (show Int.tmod (V : Int) 2 = ((Q % 2 : Nat) : Int) by rw [hV, Int.tmod_eq_emod_of_nonneg (by omega)]; omega)
        by_cases hg : 9223372036854775808 ≤ Q
        · have g12' := g12
          rw [decide_eq_true hg] at g12'
          cases nb with
          | true =>
            rw [if_neg (by simp)] at hv
            simp (maxSteps := 2000000) only [wk0, wk1, wk2, wk3, wk4, wk5, wk6, Fr.ev, Fr.put, Fr.get, storeA, List.replicate, IntKind.bits, sevalprocAttr, g0, g1, g8, g9, g10, g11, g12', g13, p1, w15, c1, c2, w18, etm, hnb, decide_true, decide_false, YtdknnaalfoongaaGreatDoor.D56, ty2, ty3, ty4, ty142]
            exact retB_plain (by simp [nmd_int, nmd_bool]) (by rw [hv, bnd_low (by omega), ovr_low (by omega)]; rfl) (by simp)
          | false =>
            rw [if_pos (by simp)] at hv
            simp (maxSteps := 2000000) only [wk0, wk1, wk2, wk3, wk4, wk5, wk6, Fr.ev, Fr.put, Fr.get, storeA, List.replicate, IntKind.bits, sevalprocAttr, g0, g1, g8, g9, g10, g11, g12', g13, p1, w15, c1, c2, w18, etm, hnb, decide_true, decide_false, YtdknnaalfoongaaGreatDoor.D56, ty2, ty3, ty4, ty142]
            exact retB_plain (by simp [nmd_int, nmd_bool]) (by rw [hv, bnd_high (by omega), ovr_high (by omega)]; rfl) (by simp)
        · have g12' := g12
          rw [decide_eq_false hg] at g12'
          have eQ : ((Q % 18446744073709551616 : Nat) : Int) = (V : Int) := by omega
          by_cases hT : (4611686018427387903 : Int) < (V : Int)
          · cases nb with
            | true =>
              rw [if_neg (by simp)] at hv
              simp (maxSteps := 2000000) only [wk0, wk1, wk2, wk3, wk4, wk5, wk6, Fr.ev, Fr.put, Fr.get, storeA, List.replicate, IntKind.bits, sevalprocAttr, g0, g1, g8, g9, g10, g11, g12', g13, p1, w15, c1, c2, w18, etm, hnb, eQ, etm2, hT, decide_true, decide_false, YtdknnaalfoongaaGreatDoor.D56, ty2, ty3, ty4, ty142]
              exact retB_plain (by simp [nmd_int, nmd_bool]) (by rw [hv, bnd_low (by omega), ovr_low (by omega)]; rfl) (by simp)
            | false =>
              rw [if_pos (by simp)] at hv
              simp (maxSteps := 2000000) only [wk0, wk1, wk2, wk3, wk4, wk5, wk6, Fr.ev, Fr.put, Fr.get, storeA, List.replicate, IntKind.bits, sevalprocAttr, g0, g1, g8, g9, g10, g11, g12', g13, p1, w15, c1, c2, w18, etm, hnb, eQ, etm2, hT, decide_true, decide_false, YtdknnaalfoongaaGreatDoor.D56, ty2, ty3, ty4, ty142]
              exact retB_plain (by simp [nmd_int, nmd_bool]) (by rw [hv, bnd_high (by omega), ovr_high (by omega)]; rfl) (by simp)
          · have wV : IntKind.i64.wrap (V : Int) = (V : Int) := wrapI (by omega)
            have wV' : IntKind.i64.wrap (0 - (V : Int)) = -(V : Int) := by rw [wrapI (by omega)]; omega
            cases nb with
            | true =>
              rw [if_neg (by simp)] at hv
              simp (maxSteps := 2000000) only [wk0, wk1, wk2, wk3, wk4, wk5, wk6, Fr.ev, Fr.put, Fr.get, storeA, List.replicate, IntKind.bits, sevalprocAttr, g0, g1, g8, g9, g10, g11, g12', g13, p1, w15, c1, c2, w18, etm, hnb, eQ, etm2, hT, wV, wV', decide_true, decide_false, YtdknnaalfoongaaGreatDoor.D56, ty2, ty3, ty4, ty142]
              exact retB_plain (by simp [nmd_int, nmd_bool]) (by rw [hv, bnd_mid (by omega), ovr_mid (by omega)]; rfl) (by simp)
            | false =>
              rw [if_pos (by simp)] at hv
              simp (maxSteps := 2000000) only [wk0, wk1, wk2, wk3, wk4, wk5, wk6, Fr.ev, Fr.put, Fr.get, storeA, List.replicate, IntKind.bits, sevalprocAttr, g0, g1, g8, g9, g10, g11, g12', g13, p1, w15, c1, c2, w18, etm, hnb, eQ, etm2, hT, wV, wV', decide_true, decide_false, YtdknnaalfoongaaGreatDoor.D56, ty2, ty3, ty4, ty142]
              exact retB_plain (by simp [nmd_int, nmd_bool]) (by rw [hv, bnd_mid (by omega), ovr_mid (by omega)]; rfl) (by simp)
  | succ k =>
    have e13 : ((k + 1 : Nat) : Int) - 1 = (k : Int) := by omega
    rw [e13] at g13
    have p1 : (0 : Int) ≤ (k : Int) := by omega
    have wi : IntKind.i64.wrap ((k : Int) - 1) = (k : Int) - 1 := wrapI (by omega)
    have hbit : N / 2 ^ k = 2 * (N / 2 ^ (k + 1)) + N / 2 ^ k % 2 := by
      rw [Nat.pow_succ, ← Nat.div_div_eq_div_mul]; omega
    have hb2 : N / 2 ^ k % 2 < 2 := Nat.mod_lt _ (by omega)
    have hst := lng_step (M := N / 2 ^ (k + 1)) (bit := N / 2 ^ k % 2) hB0 hb2
    rw [← hbit] at hst
    have hRl := Nat.mod_lt (N / 2 ^ (k + 1)) hB0
    generalize hQ : N / 2 ^ (k + 1) / B = Q at *
    generalize hR : N / 2 ^ (k + 1) % B = R at *
    have ptop : ¬ (9223372036854775808 : Int) ≤ (R : Int) := by omega
    have w8 : IntKind.u64.wrap (2 * (R : Int)) = 2 * (R : Int) := wrapU (by omega)
    have wq : IntKind.u64.wrap (2 * ((Q % 18446744073709551616 : Nat) : Int)) = ((2 * Q % 18446744073709551616 : Nat) : Int) := by rw [wrapU64]; omega
    have wq1 : IntKind.u64.wrap (((2 * Q % 18446744073709551616 : Nat) : Int) + 1) = (((2 * Q + 1) % 18446744073709551616 : Nat) : Int) := by rw [wrapU64]; omega
    by_cases hk : n ≤ k
    · have pk : (n : Int) ≤ (k : Int) := by omega
      have wk : IntKind.i64.wrap ((k : Int) - (n : Int)) = ((k - n : Nat) : Int) := by rw [wrapI (by omega)]; omega
      have pk2 : ¬ ((k - n : Nat) : Int) < 0 := by omega
      have mn : min (k - n) 64 = k - n := by omega
      have hAb : A / 2 ^ (k - n) = N / 2 ^ k := by
        rw [← hN, show k = (k - n) + n by omega, Nat.add_sub_cancel, Nat.pow_add]
        exact (Nat.mul_div_mul_right _ _ (Nat.two_pow_pos n)).symm
      have efd : (A : Int).fdiv (2 ^ (k - n)) = ((N / 2 ^ k : Nat) : Int) := by
        rw [Int.fdiv_eq_ediv_of_nonneg _ (Int.le_of_lt (Int.pow_pos (by decide))), ← hAb, Int.natCast_ediv, Int.natCast_pow]; rfl
      have etm : Int.tmod ((N / 2 ^ k : Nat) : Int) 2 = ((N / 2 ^ k % 2 : Nat) : Int) := by rw [Int.tmod_eq_emod_of_nonneg (by omega)]; rfl
      generalize hbt : N / 2 ^ k % 2 = bt at *
      have wb : IntKind.u64.wrap (2 * (R : Int) + (bt : Int)) = 2 * (R : Int) + (bt : Int) := wrapU (by omega)
      rcases hst with ⟨hB, hQ', hR'⟩ | ⟨hB, hQ', hR'⟩
      · have pB : (B : Int) ≤ (2 * (R : Int) + (bt : Int)) := by omega
        have w14 : IntKind.u64.wrap ((2 * (R : Int) + (bt : Int)) - (B : Int)) = ((2 * R + bt - B : Nat) : Int) := by rw [wrapU (by omega)]; omega
        by_cases hg : 9223372036854775808 ≤ Q
        · have hgn : 9223372036854775808 ≤ 2 * Q + 1 := by omega
          have g12' := g12
          rw [decide_eq_true hg] at g12'
          simp (maxSteps := 2000000) only [wk0, wk1, wk2, wk3, wk4, wk5, wk6, Fr.ev, Fr.put, Fr.get, storeA, List.replicate, IntKind.bits, sevalprocAttr, g0, g1, g2, g8, g9, g10, g11, g12', g13, p1, ptop, w8, wq, wi, pk, wk, pk2, mn, efd, etm, wb, Int.toNat_natCast, pB, w14, wq1, decide_false, decide_true, YtdknnaalfoongaaGreatDoor.D56, ty2, ty3, ty4, ty142]
          exact ih k _ _ (by omega) ⟨by omega, by simp [Fr.get, g0], by simp [Fr.get, g1], by simp [Fr.get, g2], by simp [Fr.get, g8], by simp [Fr.get, g9], by rw [hQ']; simp [Fr.get], by rw [hR']; simp [Fr.get], by rw [hQ']; simp [Fr.get, hgn], by simp [Fr.get], rfl⟩
        · have hgn : (9223372036854775808 ≤ 2 * Q + 1) ↔ (4611686018427387904 : Int) ≤ ((Q % 18446744073709551616 : Nat) : Int) := by omega
          have g12' := g12
          rw [decide_eq_false hg] at g12'
          simp (maxSteps := 2000000) only [wk0, wk1, wk2, wk3, wk4, wk5, wk6, Fr.ev, Fr.put, Fr.get, storeA, List.replicate, IntKind.bits, sevalprocAttr, g0, g1, g2, g8, g9, g10, g11, g12', g13, p1, ptop, w8, wq, wi, pk, wk, pk2, mn, efd, etm, wb, Int.toNat_natCast, pB, w14, wq1, decide_false, decide_true, YtdknnaalfoongaaGreatDoor.D56, ty2, ty3, ty4, ty142]
          exact ih k _ _ (by omega) ⟨by omega, by simp [Fr.get, g0], by simp [Fr.get, g1], by simp [Fr.get, g2], by simp [Fr.get, g8], by simp [Fr.get, g9], by rw [hQ']; simp [Fr.get], by rw [hR']; simp [Fr.get], by rw [hQ']; simp [Fr.get, hgn], by simp [Fr.get], rfl⟩
      · have pB : ¬ (B : Int) ≤ (2 * (R : Int) + (bt : Int)) := by omega
        by_cases hg : 9223372036854775808 ≤ Q
        · have hgn : 9223372036854775808 ≤ 2 * Q := by omega
          have g12' := g12
          rw [decide_eq_true hg] at g12'
          simp (maxSteps := 2000000) only [wk0, wk1, wk2, wk3, wk4, wk5, wk6, Fr.ev, Fr.put, Fr.get, storeA, List.replicate, IntKind.bits, sevalprocAttr, g0, g1, g2, g8, g9, g10, g11, g12', g13, p1, ptop, w8, wq, wi, pk, wk, pk2, mn, efd, etm, wb, Int.toNat_natCast, pB, decide_false, decide_true, YtdknnaalfoongaaGreatDoor.D56, ty2, ty3, ty4, ty142]
          exact ih k _ _ (by omega) ⟨by omega, by simp [Fr.get, g0], by simp [Fr.get, g1], by simp [Fr.get, g2], by simp [Fr.get, g8], by simp [Fr.get, g9], by rw [hQ']; simp [Fr.get], by rw [hR']; simp [Fr.get], by rw [hQ']; simp [Fr.get, hgn], by simp [Fr.get], rfl⟩
        · have hgn : (9223372036854775808 ≤ 2 * Q) ↔ (4611686018427387904 : Int) ≤ ((Q % 18446744073709551616 : Nat) : Int) := by omega
          have g12' := g12
          rw [decide_eq_false hg] at g12'
          simp (maxSteps := 2000000) only [wk0, wk1, wk2, wk3, wk4, wk5, wk6, Fr.ev, Fr.put, Fr.get, storeA, List.replicate, IntKind.bits, sevalprocAttr, g0, g1, g2, g8, g9, g10, g11, g12', g13, p1, ptop, w8, wq, wi, pk, wk, pk2, mn, efd, etm, wb, Int.toNat_natCast, pB, decide_false, decide_true, YtdknnaalfoongaaGreatDoor.D56, ty2, ty3, ty4, ty142]
          exact ih k _ _ (by omega) ⟨by omega, by simp [Fr.get, g0], by simp [Fr.get, g1], by simp [Fr.get, g2], by simp [Fr.get, g8], by simp [Fr.get, g9], by rw [hQ']; simp [Fr.get], by rw [hR']; simp [Fr.get], by rw [hQ']; simp [Fr.get, hgn], by simp [Fr.get], rfl⟩
    · have pk : ¬ (n : Int) ≤ (k : Int) := by omega
      have hb0 : N / 2 ^ k % 2 = 0 := by
        rw [← hN, show n = k + (n - k) by omega, Nat.pow_add, ← Nat.mul_assoc, Nat.mul_comm A, Nat.mul_assoc, Nat.mul_div_cancel_left _ (Nat.two_pow_pos k), show n - k = (n - k - 1) + 1 by omega, Nat.pow_succ, ← Nat.mul_assoc]
        exact Nat.mul_mod_left _ _
      rw [hb0] at hst
      rcases hst with ⟨hB, hQ', hR'⟩ | ⟨hB, hQ', hR'⟩
      · have pB : (B : Int) ≤ (2 * (R : Int)) := by omega
        have w14 : IntKind.u64.wrap ((2 * (R : Int)) - (B : Int)) = ((2 * R + 0 - B : Nat) : Int) := by rw [wrapU (by omega)]; omega
        by_cases hg : 9223372036854775808 ≤ Q
        · have hgn : 9223372036854775808 ≤ 2 * Q + 1 := by omega
          have g12' := g12
          rw [decide_eq_true hg] at g12'
          simp (maxSteps := 2000000) only [wk0, wk1, wk2, wk3, wk4, wk5, wk6, Fr.ev, Fr.put, Fr.get, storeA, List.replicate, IntKind.bits, sevalprocAttr, g0, g1, g2, g8, g9, g10, g11, g12', g13, p1, ptop, w8, wq, wi, pk, pB, w14, wq1, decide_false, decide_true, YtdknnaalfoongaaGreatDoor.D56, ty2, ty3, ty4, ty142]
          exact ih k _ _ (by omega) ⟨by omega, by simp [Fr.get, g0], by simp [Fr.get, g1], by simp [Fr.get, g2], by simp [Fr.get, g8], by simp [Fr.get, g9], by rw [hQ']; simp [Fr.get], by rw [hR']; simp [Fr.get], by rw [hQ']; simp [Fr.get, hgn], by simp [Fr.get], rfl⟩
        · have hgn : (9223372036854775808 ≤ 2 * Q + 1) ↔ (4611686018427387904 : Int) ≤ ((Q % 18446744073709551616 : Nat) : Int) := by omega
          have g12' := g12
          rw [decide_eq_false hg] at g12'
          simp (maxSteps := 2000000) only [wk0, wk1, wk2, wk3, wk4, wk5, wk6, Fr.ev, Fr.put, Fr.get, storeA, List.replicate, IntKind.bits, sevalprocAttr, g0, g1, g2, g8, g9, g10, g11, g12', g13, p1, ptop, w8, wq, wi, pk, pB, w14, wq1, decide_false, decide_true, YtdknnaalfoongaaGreatDoor.D56, ty2, ty3, ty4, ty142]
          exact ih k _ _ (by omega) ⟨by omega, by simp [Fr.get, g0], by simp [Fr.get, g1], by simp [Fr.get, g2], by simp [Fr.get, g8], by simp [Fr.get, g9], by rw [hQ']; simp [Fr.get], by rw [hR']; simp [Fr.get], by rw [hQ']; simp [Fr.get, hgn], by simp [Fr.get], rfl⟩
      · have pB : ¬ (B : Int) ≤ (2 * (R : Int)) := by omega
        by_cases hg : 9223372036854775808 ≤ Q
        · have hgn : 9223372036854775808 ≤ 2 * Q := by omega
          have g12' := g12
          rw [decide_eq_true hg] at g12'
          simp (maxSteps := 2000000) only [wk0, wk1, wk2, wk3, wk4, wk5, wk6, Fr.ev, Fr.put, Fr.get, storeA, List.replicate, IntKind.bits, sevalprocAttr, g0, g1, g2, g8, g9, g10, g11, g12', g13, p1, ptop, w8, wq, wi, pk, pB, decide_false, decide_true, YtdknnaalfoongaaGreatDoor.D56, ty2, ty3, ty4, ty142]
          exact ih k _ _ (by omega) ⟨by omega, by simp [Fr.get, g0], by simp [Fr.get, g1], by simp [Fr.get, g2], by simp [Fr.get, g8], by simp [Fr.get, g9], by rw [hQ']; simp [Fr.get], by rw [hR']; simp [Fr.get], by rw [hQ']; simp [Fr.get, hgn], by simp [Fr.get], rfl⟩
        · have hgn : (9223372036854775808 ≤ 2 * Q) ↔ (4611686018427387904 : Int) ≤ ((Q % 18446744073709551616 : Nat) : Int) := by omega
          have g12' := g12
          rw [decide_eq_false hg] at g12'
          simp (maxSteps := 2000000) only [wk0, wk1, wk2, wk3, wk4, wk5, wk6, Fr.ev, Fr.put, Fr.get, storeA, List.replicate, IntKind.bits, sevalprocAttr, g0, g1, g2, g8, g9, g10, g11, g12', g13, p1, ptop, w8, wq, wi, pk, pB, decide_false, decide_true, YtdknnaalfoongaaGreatDoor.D56, ty2, ty3, ty4, ty142]
          exact ih k _ _ (by omega) ⟨by omega, by simp [Fr.get, g0], by simp [Fr.get, g1], by simp [Fr.get, g2], by simp [Fr.get, g8], by simp [Fr.get, g9], by rw [hQ']; simp [Fr.get], by rw [hR']; simp [Fr.get], by rw [hQ']; simp [Fr.get, hgn], by simp [Fr.get], rfl⟩
end Go.Proofs.YtdknnaalfoongaaGreatDoor
