/- qnum: quotients. -/
import Derived.Test.YtoncolpkpgbfiaaDoorQ6
set_option linter.unusedSimpArgs false
set_option linter.unusedVariables false
set_option maxRecDepth 100000
set_option maxHeartbeats 4000000
namespace Go.Proofs.YtoncolpkpgbfiaaDoor
noncomputable def c106 : Code := Tryd.f106.body.getD .skip
theorem b106 : Tryd.f106.body = some c106 := rfl
theorem d106 : fnOk Tryd.f106 c106 = true := by kernel_rfl
def D106 : Nat → List Tag
  | 1 => [.pure, .pure, .pure, .pure, .pure, .pure, .pure, .pure, .pure]
  | _ => []
theorem e106 : drawsOk D106 c106 = true := by kernel_rfl
noncomputable def c78 : Code := Tryd.f78.body.getD .skip
theorem b78 : Tryd.f78.body = some c78 := rfl
theorem d78 : fnOk Tryd.f78 c78 = true := by kernel_rfl
def D78 : Nat → List Tag := fun _ => []
theorem e78 : drawsOk D78 c78 = true := by kernel_rfl
theorem div64_ok (hi lo y : Int) (S : Heap) (hh : 0 ≤ hi ∧ hi < y) (hl : 0 ≤ lo ∧ lo < 18446744073709551616) (hy : y < 18446744073709551616) : Call theE 118 [.int .u64 hi, .int .u64 lo, .int .u64 y] S (.tup [.int .u64 ((hi * 18446744073709551616 + lo) / y), .int .u64 ((hi * 18446744073709551616 + lo) % y)]) S := by
  by_cases h : hi = 0
  · subst h
    have := div64_low lo y S hl (by omega)
    simpa using this
  · exact div64_any hi lo y S (by omega) hl hy
def restI (N b : Int) : Int := if b - N % b < N % b then 1 else if N % b = b - N % b then 0 else -1
theorem quotient_ok (a b : Int) (n : Nat) (S : Heap) (ha : 0 ≤ a ∧ a < 18446744073709551616) (hb : 0 < b ∧ b < 18446744073709551616) (hn : n ≤ 62) :
    Call theE 106 [.int .u64 a, .int .u64 b, .int .i64 n] S (.tup [.int .u64 (a * 2 ^ n / b % 18446744073709551616), .bool (decide (18446744073709551616 ≤ a * 2 ^ n / b)), .int .i64 (restI (a * 2 ^ n) b)]) S := by
  have c1 : ¬ (64 : Int) - n < 0 := by omega
  have c2 : IntKind.i64.wrap (64 - (n : Int)) = 64 - n := wrapI (by omega)
  have c3 : ((64 : Int) - n).toNat = 64 - n := by omega
  have c4 : 64 - n ≤ 64 := by omega
  have c5 : ¬ (n : Int) < 0 := by omega
  have c6 : (n : Int).toNat = n := by omega
  have c7 : n ≤ 64 := by omega
  have c8 : ¬ b = 0 := by omega
  have hMN : (2 : Int) ^ (64 - n) * 2 ^ n = 18446744073709551616 := by
    rw [← Int.pow_add, show 64 - n + n = 64 by omega]; rfl
  have hp := pow62 n hn
  have hq0 : (0 : Int) < 2 ^ (64 - n) := Int.pow_pos (by decide)
  generalize hpp : (2 : Int) ^ n = p at *
  generalize hqq : (2 : Int) ^ (64 - n) = q at *
  have d1 : a.fdiv q = a / q := shr0 (by omega)
  have d2 : IntKind.u64.wrap (a * p) = a % q * p := shlU (by omega) hMN
  obtain ⟨hi, hhi⟩ : ∃ V, a / q = V := ⟨_, rfl⟩
  obtain ⟨lo, hlo⟩ : ∃ V, a % q * p = V := ⟨_, rfl⟩
  rw [hhi] at d1
  rw [hlo] at d2
  have hN : a * p = hi * 18446744073709551616 + lo := by
    have e := Int.mul_ediv_add_emod a q
    rw [← hlo, ← hhi, ← hMN, ← Int.mul_assoc, ← Int.add_mul, Int.mul_comm (a / q) q, e]
  have hl : 0 ≤ lo ∧ lo < 18446744073709551616 := by
    rw [← d2, wrapU64]; omega
  have hh0 : 0 ≤ hi := by rw [← hhi]; exact Int.ediv_nonneg ha.1 (by omega)
  have t1 : hi.tmod b = hi % b := Int.tmod_eq_emod_of_nonneg hh0
  have hd := fun S => div64_ok (hi % b) lo b S ⟨Int.emod_nonneg _ (by omega), Int.emod_lt_of_pos _ hb.1⟩ hl hb.2
  rw [hN]
  obtain ⟨N, hNN⟩ : ∃ N, hi * 18446744073709551616 + lo = N := ⟨_, rfl⟩
  have hS : N = (hi % b * 18446744073709551616 + lo) + b * (hi / b * 18446744073709551616) := by
    have e := Int.mul_ediv_add_emod hi b
    rw [← hNN, ← Int.mul_assoc]
    have : hi * 18446744073709551616 = (b * (hi / b) + hi % b) * 18446744073709551616 := by rw [e]
    rw [Int.add_mul] at this
    omega
  have hNq : N / b = (hi % b * 18446744073709551616 + lo) / b + hi / b * 18446744073709551616 := by rw [hS, Int.add_mul_ediv_left _ _ c8]
  have hNr : N % b = (hi % b * 18446744073709551616 + lo) % b := by rw [hS, Int.add_mul_emod_self_left]
  have hhm := Int.emod_lt_of_pos hi hb.1
  have hhm0 := Int.emod_nonneg hi c8
  have hQ : 0 ≤ (hi % b * 18446744073709551616 + lo) / b ∧ (hi % b * 18446744073709551616 + lo) / b < 18446744073709551616 := by
    refine ⟨Int.ediv_nonneg (by omega) (by omega), Int.ediv_lt_of_lt_mul hb.1 (by omega)⟩
  have hr := Int.emod_lt_of_pos (hi % b * 18446744073709551616 + lo) hb.1
  have hr0 := Int.emod_nonneg (hi % b * 18446744073709551616 + lo) c8
  obtain ⟨Z, hZ⟩ : ∃ Z, (hi % b * 18446744073709551616 + lo) / b = Z := ⟨_, rfl⟩
  obtain ⟨R, hR⟩ : ∃ R, (hi % b * 18446744073709551616 + lo) % b = R := ⟨_, rfl⟩
  simp only [hZ, hR] at hd hNq hNr hQ hr hr0
  have hge : (18446744073709551616 ≤ N / b) ↔ b ≤ hi := by
    rw [hNq]
    constructor
    · intro h
      have : 0 < hi / b := by omega
      have e := Int.mul_ediv_add_emod hi b
      have := mulLe (a := 1) (b := hi / b) (c := b) (by omega) (by omega)
      rw [Int.mul_comm b] at e
      omega
    · intro h
      have : 1 ≤ hi / b := (Int.le_ediv_iff_mul_le hb.1).2 (by omega)
      omega
  rw [hNN, show N / b % 18446744073709551616 = Z by rw [hNq]; omega, show decide (18446744073709551616 ≤ N / b) = decide (b ≤ hi) by rw [decide_eq_decide]; exact hge]
  have k1 : IntKind.u64.wrap (b - R) = b - R := wrapU (by omega)
  unfold restI
  rw [hNr]
  refine Call.ofC Tryd.func106 YtoncolpkpgbfiaaDoor.b106 YtoncolpkpgbfiaaDoor.d106 YtoncolpkpgbfiaaDoor.e106 (by simp [Tryd.f106]) ?_
  dsimp only [YtoncolpkpgbfiaaDoor.c106, Tryd.f106, Option.getD_some]
  by_cases hz : n = 0
  · subst hz
    have hp1 : p = 1 := by rw [← hpp]; rfl
    have hq1 : q = 18446744073709551616 := by rw [← hqq]; rfl
    have hi0 : hi = 0 := by rw [← hhi, hq1]; omega
    have lo0 : lo = a := by rw [← hlo, hq1, hp1]; omega
    rw [hi0, lo0, Int.zero_emod] at hd
    have u0 : ¬ b ≤ 0 := by omega
    have u0' : ¬ b ≤ hi := by omega
    simp (maxSteps := 2000000) only [wk0, wk1, wk2, wk3, wk4, wk5, wk6, Fr.ev, Fr.put, Fr.get, storeA, List.replicate, IntKind.bits, sevalprocAttr, c1, c2, c3, c4, c5, c6, c7, c8, hpp, hqq, d1, d2, Int.zero_tmod, YtoncolpkpgbfiaaDoor.D106, ty3, ty4, ty151]
    refine callThen_of (hd _) ?_
    by_cases u1 : b - R < R
    · simp (maxSteps := 2000000) only [wk0, wk1, wk2, wk3, wk4, wk5, wk6, Fr.ev, Fr.put, Fr.get, storeA, List.replicate, IntKind.bits, sevalprocAttr, k1, u1, u0, u0', YtoncolpkpgbfiaaDoor.D106, ty3, ty4, ty151]
      exact retB_plain (by simp [nmd_int, nmd_bool]) (by simp [packA, u1, u0']) (by simp)
    · by_cases u2 : R = b - R
      · simp (maxSteps := 2000000) only [wk0, wk1, wk2, wk3, wk4, wk5, wk6, Fr.ev, Fr.put, Fr.get, storeA, List.replicate, IntKind.bits, sevalprocAttr, k1, u1, eq_true u2, u0, u0', YtoncolpkpgbfiaaDoor.D106, ty3, ty4, ty151]
        exact retB_plain (by simp [nmd_int, nmd_bool]) (by simp [packA, u1, eq_true u2, u0']) (by simp)
      · simp (maxSteps := 2000000) only [wk0, wk1, wk2, wk3, wk4, wk5, wk6, Fr.ev, Fr.put, Fr.get, storeA, List.replicate, IntKind.bits, sevalprocAttr, k1, u1, u2, u0, u0', YtoncolpkpgbfiaaDoor.D106, ty3, ty4, ty151]
        exact retB_plain (by simp [nmd_int, nmd_bool]) (by simp [packA, u1, u2, u0']) (by simp)
  · have hz' : ¬ (n : Int) = 0 := by omega
    simp (maxSteps := 2000000) only [wk0, wk1, wk2, wk3, wk4, wk5, wk6, Fr.ev, Fr.put, Fr.get, storeA, List.replicate, IntKind.bits, sevalprocAttr, c1, c2, c3, c4, c5, c6, c7, c8, hpp, hqq, d1, d2, hz', t1, YtoncolpkpgbfiaaDoor.D106, ty3, ty4, ty151]
    refine callThen_of (hd _) ?_
    by_cases u1 : b - R < R
    · simp (maxSteps := 2000000) only [wk0, wk1, wk2, wk3, wk4, wk5, wk6, Fr.ev, Fr.put, Fr.get, storeA, List.replicate, IntKind.bits, sevalprocAttr, k1, u1, YtoncolpkpgbfiaaDoor.D106, ty3, ty4, ty151]
      exact retB_plain (by simp [nmd_int, nmd_bool]) (by simp [packA, u1]) (by simp)
    · by_cases u2 : R = b - R
      · simp (maxSteps := 2000000) only [wk0, wk1, wk2, wk3, wk4, wk5, wk6, Fr.ev, Fr.put, Fr.get, storeA, List.replicate, IntKind.bits, sevalprocAttr, k1, u1, eq_true u2, YtoncolpkpgbfiaaDoor.D106, ty3, ty4, ty151]
        exact retB_plain (by simp [nmd_int, nmd_bool]) (by simp [packA, u1, eq_true u2]) (by simp)
      · simp (maxSteps := 2000000) only [wk0, wk1, wk2, wk3, wk4, wk5, wk6, Fr.ev, Fr.put, Fr.get, storeA, List.replicate, IntKind.bits, sevalprocAttr, k1, u1, u2, YtoncolpkpgbfiaaDoor.D106, ty3, ty4, ty151]
        exact retB_plain (by simp [nmd_int, nmd_bool]) (by simp [packA, u1, u2]) (by simp)
end Go.Proofs.YtoncolpkpgbfiaaDoor
