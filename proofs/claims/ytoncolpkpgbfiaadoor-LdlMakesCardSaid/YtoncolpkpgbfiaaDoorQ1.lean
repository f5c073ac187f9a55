/- qnum: products, halves, sums of products. -/
import Derived.Test.YtoncolpkpgbfiaaDoorQ0
set_option linter.unusedSimpArgs false
set_option linter.unusedVariables false
set_option maxRecDepth 100000
set_option maxHeartbeats 4000000
namespace Go.Proofs.YtoncolpkpgbfiaaDoor
noncomputable def c116 : Code := Tryd.f116.body.getD .skip
theorem b116 : Tryd.f116.body = some c116 := rfl
theorem d116 : fnOk Tryd.f116 c116 = true := by kernel_rfl
def D116 : Nat → List Tag := fun _ => []
theorem e116 : drawsOk D116 c116 = true := by kernel_rfl
noncomputable def c107 : Code := Tryd.f107.body.getD .skip
theorem b107 : Tryd.f107.body = some c107 := rfl
theorem d107 : fnOk Tryd.f107 c107 = true := by kernel_rfl
def D107 : Nat → List Tag := fun _ => []
theorem e107 : drawsOk D107 c107 = true := by kernel_rfl
noncomputable def c100 : Code := Tryd.f100.body.getD .skip
theorem b100 : Tryd.f100.body = some c100 := rfl
theorem d100 : fnOk Tryd.f100 c100 = true := by kernel_rfl
def D100 : Nat → List Tag := fun _ => []
theorem e100 : drawsOk D100 c100 = true := by kernel_rfl
noncomputable def c101 : Code := Tryd.f101.body.getD .skip
theorem b101 : Tryd.f101.body = some c101 := rfl
theorem d101 : fnOk Tryd.f101 c101 = true := by kernel_rfl
def D101 : Nat → List Tag
  | 3 => [.pure, .seq, .pure, .pure, .pure, .pure, .pure]
  | _ => []
theorem e101 : drawsOk D101 c101 = true := by kernel_rfl
theorem size_ok (a : Int) (S : Heap) (ha : -9223372036854775808 ≤ a ∧ a < 9223372036854775808) : Call theE 107 [.int .i64 a] S (.int .u64 a.natAbs) S := by
  refine Call.ofC Tryd.func107 YtoncolpkpgbfiaaDoor.b107 YtoncolpkpgbfiaaDoor.d107 YtoncolpkpgbfiaaDoor.e107 (by simp [Tryd.f107]) ?_
  dsimp only [YtoncolpkpgbfiaaDoor.c107, Tryd.f107, Option.getD_some]
  by_cases h : a < 0
  · simp (maxSteps := 2000000) only [wk0, wk1, wk2, wk3, wk4, wk5, Fr.ev, Fr.put, Fr.get, pkB, pkT, pkF, storeA, if_false, if_true, Nat.reduceEqDiff, reduceIte, Nat.reduceAdd, List.replicate, Nat.reduceLeDiff, Nat.reduceMul, Nat.reduceSub, Nat.reducePow, Int.reduceLT, Int.reduceLE, Int.reduceToNat, Int.reducePow, IntKind.bits, Int.reduceEq, Int.reduceMul, Int.reduceNeg, ne_eq, reduceCtorEq, BEq.rfl, beq_self_eq_true, Int.reduceAdd, Int.reduceSub, Int.reduceMod, Int.reduceDiv, Nat.reduceMod, Nat.reduceDiv, Nat.reduceLT, cond_true, cond_false, gt_iff_lt, ge_iff_le, h, YtoncolpkpgbfiaaDoor.D107, ty2, ty4, ty151]
    refine retB_plain (by simp [nmd_int]) ?_ (by simp)
    rw [wrapU64, wrapU64]
    congr 2; omega
  · simp (maxSteps := 2000000) only [wk0, wk1, wk2, wk3, wk4, wk5, Fr.ev, Fr.put, Fr.get, pkB, pkT, pkF, storeA, if_false, if_true, Nat.reduceEqDiff, reduceIte, Nat.reduceAdd, List.replicate, Nat.reduceLeDiff, Nat.reduceMul, Nat.reduceSub, Nat.reducePow, Int.reduceLT, Int.reduceLE, Int.reduceToNat, Int.reducePow, IntKind.bits, Int.reduceEq, Int.reduceMul, Int.reduceNeg, ne_eq, reduceCtorEq, BEq.rfl, beq_self_eq_true, Int.reduceAdd, Int.reduceSub, Int.reduceMod, Int.reduceDiv, Nat.reduceMod, Nat.reduceDiv, Nat.reduceLT, cond_true, cond_false, gt_iff_lt, ge_iff_le, h, YtoncolpkpgbfiaaDoor.D107, ty2, ty4, ty151]
    refine retB_plain (by simp [nmd_int]) ?_ (by simp)
    rw [wrapU64]
    congr 2; omega
theorem mulParts (a b c d : Int) : (4294967296 * a + b) * (4294967296 * c + d) = 18446744073709551616 * (a * c) + 4294967296 * (a * d) + 4294967296 * (b * c) + b * d := by grind
theorem mulB {a b A B : Int} (ha : 0 ≤ a) (hA : a ≤ A) (hb : 0 ≤ b) (hB : b ≤ B) : 0 ≤ a * b ∧ a * b ≤ A * B :=
  ⟨Int.mul_nonneg ha hb, Int.mul_le_mul hA hB hb (by omega)⟩
theorem mul64_ok (x y : Int) (S : Heap) (hx : 0 ≤ x ∧ x < 18446744073709551616) (hy : 0 ≤ y ∧ y < 18446744073709551616) :
    Call theE 116 [.int .u64 x, .int .u64 y] S (.tup [.int .u64 (x * y / 18446744073709551616), .int .u64 (x * y % 18446744073709551616)]) S := by
  have m1 := andU (x := x) 32 (by decide) hx
  have m2 := andU (x := y) 32 (by decide) hy
  simp only [Int.reducePow, Int.reduceSub] at m1 m2
  obtain ⟨X1, hX1⟩ : ∃ X, X = x / 4294967296 := ⟨_, rfl⟩
  obtain ⟨X0, hX0⟩ : ∃ X, X = x % 4294967296 := ⟨_, rfl⟩
  obtain ⟨Y1, hY1⟩ : ∃ X, X = y / 4294967296 := ⟨_, rfl⟩
  obtain ⟨Y0, hY0⟩ : ∃ X, X = y % 4294967296 := ⟨_, rfl⟩
  have q1 : x.fdiv 4294967296 = X1 := by rw [shr0 (by decide), hX1]
  have q2 : y.fdiv 4294967296 = Y1 := by rw [shr0 (by decide), hY1]
  obtain ⟨p00, h00⟩ : ∃ p, X0 * Y0 = p := ⟨_, rfl⟩
  obtain ⟨p10, h10⟩ : ∃ p, X1 * Y0 = p := ⟨_, rfl⟩
  obtain ⟨p01, h01⟩ : ∃ p, X0 * Y1 = p := ⟨_, rfl⟩
  obtain ⟨p11, h11⟩ : ∃ p, X1 * Y1 = p := ⟨_, rfl⟩
  have b00 : 0 ≤ X0 * Y0 ∧ X0 * Y0 ≤ 4294967295 * 4294967295 := mulB (by omega) (by omega) (by omega) (by omega)
  have b10 : 0 ≤ X1 * Y0 ∧ X1 * Y0 ≤ 4294967295 * 4294967295 := mulB (by omega) (by omega) (by omega) (by omega)
  have b01 : 0 ≤ X0 * Y1 ∧ X0 * Y1 ≤ 4294967295 * 4294967295 := mulB (by omega) (by omega) (by omega) (by omega)
  have b11 : 0 ≤ X1 * Y1 ∧ X1 * Y1 ≤ 4294967295 * 4294967295 := mulB (by omega) (by omega) (by omega) (by omega)
  have hp := mulParts X1 X0 Y1 Y0
  rw [show 4294967296 * X1 + X0 = x by omega, show 4294967296 * Y1 + Y0 = y by omega] at hp
  rw [h00, h10, h01, h11] at hp
  rw [h00] at b00; rw [h10] at b10; rw [h01] at b01; rw [h11] at b11
  have e1 := wrapU (n := p00) (by omega)
  have e2 := wrapU (n := p10) (by omega)
  have e3 := wrapU (n := p01) (by omega)
  have e4 := wrapU (n := p11) (by omega)
  have e5 : p00.fdiv 4294967296 = p00 / 4294967296 := shr0 (by decide)
  obtain ⟨t, ht⟩ : ∃ t, p10 + p00 / 4294967296 = t := ⟨_, rfl⟩
  have e6 := wrapU (n := t) (by omega)
  have e7 : t.fdiv 4294967296 = t / 4294967296 := shr0 (by decide)
  have m3 := andU (x := t) 32 (by decide) (by omega)
  simp only [Int.reducePow, Int.reduceSub] at m3
  obtain ⟨u, hu⟩ : ∃ u, t % 4294967296 + p01 = u := ⟨_, rfl⟩
  have e8 := wrapU (n := u) (by omega)
  have e9 : u.fdiv 4294967296 = u / 4294967296 := shr0 (by decide)
  obtain ⟨v, hv⟩ : ∃ v, p11 + t / 4294967296 = v := ⟨_, rfl⟩
  have e10 := wrapU (n := v) (by omega)
  have e11 := wrapU (n := v + u / 4294967296) (by omega)
  refine Call.ofC Tryd.func116 YtoncolpkpgbfiaaDoor.b116 YtoncolpkpgbfiaaDoor.d116 YtoncolpkpgbfiaaDoor.e116 (by simp [Tryd.f116]) ?_
  dsimp only [YtoncolpkpgbfiaaDoor.c116, Tryd.f116, Option.getD_some]
  simp (maxSteps := 2000000) only [wk0, wk1, wk2, wk3, wk4, wk5, Fr.ev, Fr.put, Fr.get, pkB, pkT, pkF, storeA, if_false, if_true, Nat.reduceEqDiff, reduceIte, Nat.reduceAdd, List.replicate, Nat.reduceLeDiff, Nat.reduceMul, Nat.reduceSub, Nat.reducePow, Int.reduceLT, Int.reduceLE, Int.reduceToNat, Int.reducePow, IntKind.bits, Int.reduceEq, Int.reduceMul, Int.reduceNeg, ne_eq, reduceCtorEq, BEq.rfl, beq_self_eq_true, Int.reduceAdd, Int.reduceSub, Int.reduceMod, Int.reduceDiv, Nat.reduceMod, Nat.reduceDiv, Nat.reduceLT, cond_true, cond_false, gt_iff_lt, ge_iff_le, m1, m2, m3, q1, q2, ← hX0, ← hY0, h00, h10, h01, h11, e1, e2, e3, e4, e5, ht, e6, e7, hu, e8, e9, hv, e10, e11, YtoncolpkpgbfiaaDoor.D116, ty131, ty151]
  refine retB_plain (by simp [nmd_int]) ?_ (by simp)
  rw [wrapU64, show x * y / 18446744073709551616 = v + u / 4294967296 by omega]; rfl
theorem product_ok (a b : Int) (S : Heap) (ha : -9223372036854775808 ≤ a ∧ a < 9223372036854775808) (hb : -9223372036854775808 ≤ b ∧ b < 9223372036854775808) :
    Call theE 100 [.int .i64 a, .int .i64 b] S (enc3 (a * b)) S := by
  obtain ⟨P, hP⟩ : ∃ P : Int, (a.natAbs : Int) * (b.natAbs : Int) = P := ⟨_, rfl⟩
  have hB : 0 ≤ (a.natAbs : Int) * (b.natAbs : Int) ∧ (a.natAbs : Int) * (b.natAbs : Int) ≤ 9223372036854775808 * 9223372036854775808 := mulB (by omega) (by omega) (by omega) (by omega)
  have hm := mul64_ok (a.natAbs : Int) (b.natAbs : Int)
  rw [hP] at hB
  simp only [hP] at hm
  have hE : AV.agg [.int .u64 (P % 18446744073709551616), .int .u64 (P / 18446744073709551616), .int .u64 0] = enc3 P := by
    have h1 : P / 18446744073709551616 = w1 P := by unfold w1; omega
    have h2 : 0 = w2 P := by unfold w2; omega
    rw [h1, enc3, ← h2]; rfl
  have hs : a * b = if (a < 0) ↔ (b < 0) then P else -P := by
    rw [← hP]
    rcases Int.lt_or_le a 0 with h1 | h1 <;> rcases Int.lt_or_le b 0 with h2 | h2
    · rw [if_pos (by omega), show (a.natAbs : Int) = -a by omega, show (b.natAbs : Int) = -b by omega, Int.neg_mul_neg]
    · rw [if_neg (by omega), show (a.natAbs : Int) = -a by omega, show (b.natAbs : Int) = b by omega, Int.neg_mul, Int.neg_neg]
    · rw [if_neg (by omega), show (a.natAbs : Int) = a by omega, show (b.natAbs : Int) = -b by omega, Int.mul_neg, Int.neg_neg]
    · rw [if_pos (by omega), show (a.natAbs : Int) = a by omega, show (b.natAbs : Int) = b by omega]
  have hneg : ∀ S, Call theE 108 [AV.agg [.int .u64 (P % 18446744073709551616), .int .u64 (P / 18446744073709551616), .int .u64 0]] S (enc3 (-P)) S := fun S => by rw [hE]; exact neg_ok P S
  rw [hs]
  refine Call.ofC Tryd.func100 YtoncolpkpgbfiaaDoor.b100 YtoncolpkpgbfiaaDoor.d100 YtoncolpkpgbfiaaDoor.e100 (by simp [Tryd.f100]) ?_
  dsimp only [YtoncolpkpgbfiaaDoor.c100, Tryd.f100, Option.getD_some]
  simp (maxSteps := 2000000) only [wk0, wk1, wk2, wk3, wk4, wk5, Fr.ev, Fr.put, Fr.get, pkB, pkT, pkF, storeA, if_false, if_true, Nat.reduceEqDiff, reduceIte, Nat.reduceAdd, List.replicate, Nat.reduceLeDiff, Nat.reduceMul, Nat.reduceSub, Nat.reducePow, Int.reduceLT, Int.reduceLE, Int.reduceToNat, Int.reducePow, IntKind.bits, Int.reduceEq, Int.reduceMul, Int.reduceNeg, ne_eq, reduceCtorEq, BEq.rfl, beq_self_eq_true, Int.reduceAdd, Int.reduceSub, Int.reduceMod, Int.reduceDiv, Nat.reduceMod, Nat.reduceDiv, Nat.reduceLT, cond_true, cond_false, gt_iff_lt, ge_iff_le, YtoncolpkpgbfiaaDoor.D100, ty2, ty4, ty151, ty166]
  refine callThen_of (size_ok a _ ha) ?_
  simp (maxSteps := 2000000) only [wk0, wk1, wk2, wk3, wk4, wk5, Fr.ev, Fr.put, Fr.get, pkB, pkT, pkF, storeA, if_false, if_true, Nat.reduceEqDiff, reduceIte, Nat.reduceAdd, List.replicate, Nat.reduceLeDiff, Nat.reduceMul, Nat.reduceSub, Nat.reducePow, Int.reduceLT, Int.reduceLE, Int.reduceToNat, Int.reducePow, IntKind.bits, Int.reduceEq, Int.reduceMul, Int.reduceNeg, ne_eq, reduceCtorEq, BEq.rfl, beq_self_eq_true, Int.reduceAdd, Int.reduceSub, Int.reduceMod, Int.reduceDiv, Nat.reduceMod, Nat.reduceDiv, Nat.reduceLT, cond_true, cond_false, gt_iff_lt, ge_iff_le, YtoncolpkpgbfiaaDoor.D100, ty2, ty4, ty151, ty166]
  refine callThen_of (size_ok b _ hb) ?_
  simp (maxSteps := 2000000) only [wk0, wk1, wk2, wk3, wk4, wk5, Fr.ev, Fr.put, Fr.get, pkB, pkT, pkF, storeA, if_false, if_true, Nat.reduceEqDiff, reduceIte, Nat.reduceAdd, List.replicate, Nat.reduceLeDiff, Nat.reduceMul, Nat.reduceSub, Nat.reducePow, Int.reduceLT, Int.reduceLE, Int.reduceToNat, Int.reducePow, IntKind.bits, Int.reduceEq, Int.reduceMul, Int.reduceNeg, ne_eq, reduceCtorEq, BEq.rfl, beq_self_eq_true, Int.reduceAdd, Int.reduceSub, Int.reduceMod, Int.reduceDiv, Nat.reduceMod, Nat.reduceDiv, Nat.reduceLT, cond_true, cond_false, gt_iff_lt, ge_iff_le, YtoncolpkpgbfiaaDoor.D100, ty2, ty4, ty151, ty166]
  refine callThen_of (hm _ (by omega) (by omega)) ?_
  by_cases h1 : a < 0 <;> by_cases h2 : b < 0
  · simp (maxSteps := 2000000) only [wk0, wk1, wk2, wk3, wk4, wk5, Fr.ev, Fr.put, Fr.get, pkB, pkT, pkF, storeA, if_false, if_true, Nat.reduceEqDiff, reduceIte, Nat.reduceAdd, List.replicate, Nat.reduceLeDiff, Nat.reduceMul, Nat.reduceSub, Nat.reducePow, Int.reduceLT, Int.reduceLE, Int.reduceToNat, Int.reducePow, IntKind.bits, Int.reduceEq, Int.reduceMul, Int.reduceNeg, ne_eq, reduceCtorEq, BEq.rfl, beq_self_eq_true, Int.reduceAdd, Int.reduceSub, Int.reduceMod, Int.reduceDiv, Nat.reduceMod, Nat.reduceDiv, Nat.reduceLT, cond_true, cond_false, gt_iff_lt, ge_iff_le, h1, h2, YtoncolpkpgbfiaaDoor.D100, ty2, ty4, ty151, ty166]
    exact retB_plain (by simp [nmd_agg, nmd_int]) (by simp [packA, h1, h2, hE]) (by simp)
  · simp (maxSteps := 2000000) only [wk0, wk1, wk2, wk3, wk4, wk5, Fr.ev, Fr.put, Fr.get, pkB, pkT, pkF, storeA, if_false, if_true, Nat.reduceEqDiff, reduceIte, Nat.reduceAdd, List.replicate, Nat.reduceLeDiff, Nat.reduceMul, Nat.reduceSub, Nat.reducePow, Int.reduceLT, Int.reduceLE, Int.reduceToNat, Int.reducePow, IntKind.bits, Int.reduceEq, Int.reduceMul, Int.reduceNeg, ne_eq, reduceCtorEq, BEq.rfl, beq_self_eq_true, Int.reduceAdd, Int.reduceSub, Int.reduceMod, Int.reduceDiv, Nat.reduceMod, Nat.reduceDiv, Nat.reduceLT, cond_true, cond_false, gt_iff_lt, ge_iff_le, h1, h2, YtoncolpkpgbfiaaDoor.D100, ty2, ty4, ty151, ty166]
    refine callThen_of (hneg _) ?_
    simp (maxSteps := 2000000) only [wk0, wk1, wk2, wk3, wk4, wk5, Fr.ev, Fr.put, Fr.get, pkB, pkT, pkF, storeA, if_false, if_true, Nat.reduceEqDiff, reduceIte, Nat.reduceAdd, List.replicate, Nat.reduceLeDiff, Nat.reduceMul, Nat.reduceSub, Nat.reducePow, Int.reduceLT, Int.reduceLE, Int.reduceToNat, Int.reducePow, IntKind.bits, Int.reduceEq, Int.reduceMul, Int.reduceNeg, ne_eq, reduceCtorEq, BEq.rfl, beq_self_eq_true, Int.reduceAdd, Int.reduceSub, Int.reduceMod, Int.reduceDiv, Nat.reduceMod, Nat.reduceDiv, Nat.reduceLT, cond_true, cond_false, gt_iff_lt, ge_iff_le, enc3, YtoncolpkpgbfiaaDoor.D100, ty2, ty4, ty151, ty166]
    exact retB_plain (by simp [enc3, nmd_agg, nmd_int]) (by simp [enc3, packA, h1, h2]) (by simp)
  · simp (maxSteps := 2000000) only [wk0, wk1, wk2, wk3, wk4, wk5, Fr.ev, Fr.put, Fr.get, pkB, pkT, pkF, storeA, if_false, if_true, Nat.reduceEqDiff, reduceIte, Nat.reduceAdd, List.replicate, Nat.reduceLeDiff, Nat.reduceMul, Nat.reduceSub, Nat.reducePow, Int.reduceLT, Int.reduceLE, Int.reduceToNat, Int.reducePow, IntKind.bits, Int.reduceEq, Int.reduceMul, Int.reduceNeg, ne_eq, reduceCtorEq, BEq.rfl, beq_self_eq_true, Int.reduceAdd, Int.reduceSub, Int.reduceMod, Int.reduceDiv, Nat.reduceMod, Nat.reduceDiv, Nat.reduceLT, cond_true, cond_false, gt_iff_lt, ge_iff_le, h1, h2, YtoncolpkpgbfiaaDoor.D100, ty2, ty4, ty151, ty166]
    refine callThen_of (hneg _) ?_
    simp (maxSteps := 2000000) only [wk0, wk1, wk2, wk3, wk4, wk5, Fr.ev, Fr.put, Fr.get, pkB, pkT, pkF, storeA, if_false, if_true, Nat.reduceEqDiff, reduceIte, Nat.reduceAdd, List.replicate, Nat.reduceLeDiff, Nat.reduceMul, Nat.reduceSub, Nat.reducePow, Int.reduceLT, Int.reduceLE, Int.reduceToNat, Int.reducePow, IntKind.bits, Int.reduceEq, Int.reduceMul, Int.reduceNeg, ne_eq, reduceCtorEq, BEq.rfl, beq_self_eq_true, Int.reduceAdd, Int.reduceSub, Int.reduceMod, Int.reduceDiv, Nat.reduceMod, Nat.reduceDiv, Nat.reduceLT, cond_true, cond_false, gt_iff_lt, ge_iff_le, enc3, YtoncolpkpgbfiaaDoor.D100, ty2, ty4, ty151, ty166]
    exact retB_plain (by simp [enc3, nmd_agg, nmd_int]) (by simp [enc3, packA, h1, h2]) (by simp)
  · simp (maxSteps := 2000000) only [wk0, wk1, wk2, wk3, wk4, wk5, Fr.ev, Fr.put, Fr.get, pkB, pkT, pkF, storeA, if_false, if_true, Nat.reduceEqDiff, reduceIte, Nat.reduceAdd, List.replicate, Nat.reduceLeDiff, Nat.reduceMul, Nat.reduceSub, Nat.reducePow, Int.reduceLT, Int.reduceLE, Int.reduceToNat, Int.reducePow, IntKind.bits, Int.reduceEq, Int.reduceMul, Int.reduceNeg, ne_eq, reduceCtorEq, BEq.rfl, beq_self_eq_true, Int.reduceAdd, Int.reduceSub, Int.reduceMod, Int.reduceDiv, Nat.reduceMod, Nat.reduceDiv, Nat.reduceLT, cond_true, cond_false, gt_iff_lt, ge_iff_le, h1, h2, YtoncolpkpgbfiaaDoor.D100, ty2, ty4, ty151, ty166]
    exact retB_plain (by simp [nmd_agg, nmd_int]) (by simp [packA, h1, h2, hE]) (by simp)
theorem half_zero (z : Int) (S : Heap) : Call theE 101 [enc3 z, .int .i64 0] S (enc3 z) S := by
  refine Call.ofC Tryd.func101 YtoncolpkpgbfiaaDoor.b101 YtoncolpkpgbfiaaDoor.d101 YtoncolpkpgbfiaaDoor.e101 (by simp [Tryd.f101]) ?_
  dsimp only [YtoncolpkpgbfiaaDoor.c101, Tryd.f101, Option.getD_some]
  simp (maxSteps := 2000000) only [wk0, wk1, wk2, wk3, wk4, wk5, Fr.ev, Fr.put, Fr.get, pkB, pkT, pkF, storeA, if_false, if_true, Nat.reduceEqDiff, reduceIte, Nat.reduceAdd, List.replicate, Nat.reduceLeDiff, Nat.reduceMul, Nat.reduceSub, Nat.reducePow, Int.reduceLT, Int.reduceLE, Int.reduceToNat, Int.reducePow, IntKind.bits, Int.reduceEq, Int.reduceMul, Int.reduceNeg, ne_eq, reduceCtorEq, BEq.rfl, beq_self_eq_true, Int.reduceAdd, Int.reduceSub, Int.reduceMod, Int.reduceDiv, Nat.reduceMod, Nat.reduceDiv, Nat.reduceLT, cond_true, cond_false, gt_iff_lt, ge_iff_le, enc3, YtoncolpkpgbfiaaDoor.D101, ty3, ty4, ty151, ty166]
  exact retB_plain (by simp [enc3, nmd_agg, nmd_int]) rfl (by simp)
theorem wordP {p q z : Int} (hp : 0 < p) (hq : 0 < q) (hM : p * q = 18446744073709551616) : (z % 18446744073709551616) / p + (z / 18446744073709551616 % 18446744073709551616 % p) * q = z / p % 18446744073709551616 := by
  obtain ⟨a, ha⟩ : ∃ a, z % 18446744073709551616 = a := ⟨_, rfl⟩
  obtain ⟨b, hb⟩ : ∃ b, z / 18446744073709551616 = b := ⟨_, rfl⟩
  have hz : z = a + p * (q * b) := by rw [← Int.mul_assoc, hM]; omega
  have hd : p ∣ 18446744073709551616 := ⟨q, hM.symm⟩
  rw [ha, hb, Int.emod_emod_of_dvd b hd]
  have h1 : z / p = a / p + q * b := by rw [hz, Int.add_mul_ediv_left _ _ (by omega)]
  have h2 : b = p * (b / p) + b % p := (Int.mul_ediv_add_emod b p).symm
  have h3 : 0 ≤ b % p := Int.emod_nonneg _ (by omega)
  have h4 : b % p < p := Int.emod_lt_of_pos _ hp
  have h5 : 0 ≤ a / p := Int.ediv_nonneg (by omega) (by omega)
  have h6 : a / p < q := Int.ediv_lt_of_lt_mul hp (by rw [Int.mul_comm]; omega)
  have h7 : q * b = 18446744073709551616 * (b / p) + b % p * q := by
    rw [← hM]; 
    have : q * b = q * (p * (b / p) + b % p) := by rw [← h2]
    rw [this]; grind
  rw [h1, h7]
  have h8 : 0 ≤ b % p * q := Int.mul_nonneg h3 (by omega)
  have h9 : b % p * q ≤ (p - 1) * q := Int.mul_le_mul_of_nonneg_right (by omega) (by omega)
  have h10 : (p - 1) * q = 18446744073709551616 - q := by rw [Int.sub_mul, hM]; omega
  omega
theorem ediv_comm' (z p : Int) (hp : 0 < p) : z / p / 18446744073709551616 = z / 18446744073709551616 / p := by
  rw [Int.ediv_ediv_of_nonneg (by omega), Int.ediv_ediv_of_nonneg (by omega), Int.mul_comm]
theorem and1 {x : Int} (hx : 0 ≤ x ∧ x < 18446744073709551616) : bitsI .and .u64 x 1 = some (.int .u64 (x % 2)) := by
  have h := andU (x := x) 1 (by decide) hx
  simpa using h
theorem or0 {x : Int} (hx : 0 ≤ x ∧ x < 18446744073709551616) : bitsI .or .u64 x 0 = some (.int .u64 x) := by
  have h := orU (x := x) (y := 0) 64 (by simpa using hx) (by decide) (by omega)
  simpa using h
theorem shlU {p q b : Int} (hq : 0 < q) (hM : p * q = 18446744073709551616) : IntKind.u64.wrap (b * q) = b % p * q := by
  rw [wrapU64, ← hM, Int.mul_comm b q, Int.mul_comm p q, Int.mul_emod_mul_of_pos _ _ hq, Int.mul_comm]
theorem half_ok (z : Int) (n : Nat) (S : Heap) (hn : 1 ≤ n ∧ n ≤ 62) (hz : -1569275433846670190958947355801916604025588861116008628224 ≤ z ∧ z < 1569275433846670190958947355801916604025588861116008628224) :
    Call theE 101 [enc3 z, .int .i64 n] S (enc3 (rnd z (2 ^ n))) S := by
  have c1 : ¬ (n : Int) = 0 := by omega
  have c2 : ¬ (n : Int) < 0 := by omega
  have c3 : ¬ (64 : Int) - n < 0 := by omega
  have c4 : IntKind.i64.wrap (64 - n) = 64 - n := wrapI (by omega)
  have c5 : (n : Int).toNat = n := by omega
  have c6 : ((64 : Int) - n).toNat = 64 - n := by omega
  have c7 : n ≤ 64 := by omega
  have c8 : 64 - n ≤ 64 := by omega
  have c9 : ¬ (n : Int) - 1 < 0 := by omega
  have c10 : IntKind.i64.wrap ((n : Int) - 1) = n - 1 := wrapI (by omega)
  have c11 : ((n : Int) - 1).toNat = n - 1 := by omega
  have c12 : n - 1 ≤ 64 := by omega
  obtain ⟨m, rfl⟩ : ∃ m, n = m + 1 := ⟨n - 1, by omega⟩
  have hmm : (2 : Int) ^ (m + 1) = 2 ^ m * 2 := Int.pow_succ ..
  have hMN : (2 : Int) ^ (m + 1) * 2 ^ (64 - (m + 1)) = 18446744073709551616 := by
    rw [← Int.pow_add, show m + 1 + (64 - (m + 1)) = 64 by omega]; rfl
  have hm0 : (0 : Int) < 2 ^ m := Int.pow_pos (by decide)
  have hq0 : (0 : Int) < 2 ^ (64 - (m + 1)) := Int.pow_pos (by decide)
  have hm1 : m + 1 - 1 = m := by omega
  have dOr := fun (x y : Int) => @orU x y (64 - (m + 1))
  have dAnd := andU (x := w0 z) (m + 1) (by omega) (w0_in z)
  generalize hp : (2 : Int) ^ (m + 1) = p at *
  generalize hq : (2 : Int) ^ (64 - (m + 1)) = q at *
  generalize hr : (2 : Int) ^ m = r at *
  have hqp : p = 2 * r := by omega
  have hq4 : 4 ≤ q := by
    have : (2 : Int) ^ 2 ≤ 2 ^ (64 - (m + 1)) := by
      have h1 := Nat.pow_le_pow_right (n := 2) (by decide) (show 2 ≤ 64 - (m + 1) by omega)
      have h2 : ((2 ^ 2 : Nat) : Int) ≤ ((2 ^ (64 - (m + 1)) : Nat) : Int) := Int.ofNat_le.2 h1
      simpa using h2
    rw [hq] at this; simpa using this
  have hpM : p ≤ 4611686018427387904 := by
    have h1 : p * 4 ≤ p * q := Int.mul_le_mul_of_nonneg_left hq4 (show 0 ≤ p by omega)
    omega
  have d1 : IntKind.u64.wrap (1 * p) = p := by rw [Int.one_mul]; exact wrapU (by omega)
  have d2 : IntKind.u64.wrap (p - 1) = p - 1 := wrapU (by omega)
  have d3 : IntKind.u64.wrap (1 * r) = r := by rw [Int.one_mul]; exact wrapU (by omega)
  have e0 : (w0 z).fdiv p = w0 z / p := shr0 (by omega)
  have e1 : (w1 z).fdiv p = w1 z / p := shr0 (by omega)
  have e2 : (w2 z).fdiv p = w2 z / p := shr0 (by omega)
  have l1 : IntKind.u64.wrap (w1 z * q) = w1 z % p * q := shlU hq0 hMN
  have l2 : IntKind.u64.wrap (w2 z * q) = w2 z % p * q := shlU hq0 hMN
  have l3 : IntKind.u64.wrap (18446744073709551615 * q) = (p - 1) * q := by
    rw [shlU hq0 hMN, show (18446744073709551615 : Int) = (p - 1) + p * (q - 1) by rw [Int.mul_sub, hMN]; omega, Int.add_mul_emod_self_left, Int.emod_eq_of_lt (show (0 : Int) ≤ p - 1 by omega) (by omega)]
  have hp0 : 0 < p := by omega
  have hlt : ∀ x : Int, 0 ≤ x ∧ x < 18446744073709551616 → 0 ≤ x / p ∧ x / p < q := fun x hx =>
    ⟨Int.ediv_nonneg hx.1 (by omega), Int.ediv_lt_of_lt_mul hp0 (by rw [Int.mul_comm, hMN]; exact hx.2)⟩
  have hpm : ∀ x : Int, 0 ≤ x % p ∧ x % p ≤ p - 1 := fun x => ⟨Int.emod_nonneg _ (by omega), by have := Int.emod_lt_of_pos x (show 0 < p by omega); omega⟩
  have hsum : ∀ x y : Int, 0 ≤ x ∧ x < q → 0 ≤ y ∧ y ≤ p - 1 → x + y * q < 18446744073709551616 := fun x y hx hy => by
    have h9 : y * q ≤ (p - 1) * q := Int.mul_le_mul_of_nonneg_right hy.2 (show 0 ≤ q by omega)
    have h10 : (p - 1) * q = 18446744073709551616 - q := by rw [Int.sub_mul, hMN]; omega
    omega
  have o1 : bitsI .or .u64 (w0 z / p) (w1 z % p * q) = some (.int .u64 (w0 (z / p))) := by
    rw [dOr _ _ (hlt _ (w0_in z)) (hpm _).1 (hsum _ _ (hlt _ (w0_in z)) (hpm _))]
    congr 2
    exact wordP hp0 hq0 hMN
  have o2 : bitsI .or .u64 (w1 z / p) (w2 z % p * q) = some (.int .u64 (w1 (z / p))) := by
    rw [dOr _ _ (hlt _ (w1_in z)) (hpm _).1 (hsum _ _ (hlt _ (w1_in z)) (hpm _))]
    congr 2
    unfold w1
    rw [ediv_comm' z p (by omega)]
    exact wordP hp0 hq0 hMN
  have ww : w2 z / p + (z / 18446744073709551616 / 18446744073709551616 / 18446744073709551616 % 18446744073709551616 % p) * q = w2 (z / p) := by
    unfold w2
    rw [ediv_comm' z p (by omega), ediv_comm' _ p (by omega)]
    exact wordP hp0 hq0 hMN
  have o3 : z < 0 → bitsI .or .u64 (w2 z / p) ((p - 1) * q) = some (.int .u64 (w2 (z / p))) := fun hneg => by
    rw [dOr _ _ (hlt _ (w2_in z)) (by omega) (hsum _ _ (hlt _ (w2_in z)) (by omega))]
    congr 2
    rw [← ww, show z / 18446744073709551616 / 18446744073709551616 / 18446744073709551616 = -1 by omega]
    rw [show (-1 : Int) % 18446744073709551616 = (p - 1) + p * (q - 1) by rw [Int.mul_sub, hMN]; omega, Int.add_mul_emod_self_left, Int.emod_eq_of_lt (show (0 : Int) ≤ p - 1 by omega) (by omega)]
  have o4 : ¬ z < 0 → bitsI .or .u64 (w2 z / p) 0 = some (.int .u64 (w2 (z / p))) := fun hpos => by
    have h := hlt _ (w2_in z)
    have h' : 0 ≤ w2 z / p ∧ w2 z / p < 18446744073709551616 := by
      have := Int.ediv_le_self p (w2_in z).1
      have := w2_in z
      omega
    rw [or0 h']
    congr 2
    rw [← ww, show z / 18446744073709551616 / 18446744073709551616 / 18446744073709551616 = 0 by omega]
    simp
  have a1 := and1 (w0_in (z / p))
  have r1 : (w0 (z / p)) % 2 = z / p % 2 := by unfold w0; omega
  rw [r1] at a1
  have r2 : w0 z % p = z % p := by unfold w0; exact Int.emod_emod_of_dvd z ⟨q, hMN.symm⟩
  have hplus : ∀ S, Call theE 99 [.agg [.int .u64 (w0 (z / p)), .int .u64 (w1 (z / p)), .int .u64 (w2 (z / p))], .agg [.int .u64 1, .int .u64 0, .int .u64 0]] S (enc3 (z / p + 1)) S := fun S => plus_ok (z / p) 1 S
  have hbelow : ∀ x0 x1 S, Call theE 117 [.agg [.int .u64 x0, .int .u64 x1, .int .u64 (w2 z)]] S (.bool (decide (z < 0))) S := fun x0 x1 S => by
    have h : decide (z < 0) = decide ((w2 z).fdiv 9223372036854775808 = 1) := by
      rw [shr0 (by decide)]
      congr 1
      apply propext
      unfold w2
      omega
    rw [h]
    exact below_raw _ _ _ S (w2_in z)
  have key : rnd z p = if r < z % p ∨ r = z % p ∧ z / p % 2 = 1 then z / p + 1 else z / p := by
    unfold rnd
    split <;> split <;> omega
  refine Call.ofC Tryd.func101 YtoncolpkpgbfiaaDoor.b101 YtoncolpkpgbfiaaDoor.d101 YtoncolpkpgbfiaaDoor.e101 (by simp [Tryd.f101]) ?_
  dsimp only [YtoncolpkpgbfiaaDoor.c101, Tryd.f101, Option.getD_some]
  simp (maxSteps := 2000000) only [wk0, wk1, wk2, wk3, wk4, wk5, Fr.ev, Fr.put, Fr.get, pkB, pkT, pkF, storeA, if_false, if_true, Nat.reduceEqDiff, reduceIte, Nat.reduceAdd, List.replicate, Nat.reduceLeDiff, Nat.reduceMul, Nat.reduceSub, Nat.reducePow, Int.reduceLT, Int.reduceLE, Int.reduceToNat, Int.reducePow, IntKind.bits, Int.reduceEq, Int.reduceMul, Int.reduceNeg, ne_eq, reduceCtorEq, BEq.rfl, beq_self_eq_true, Int.reduceAdd, Int.reduceSub, Int.reduceMod, Int.reduceDiv, Nat.reduceMod, Nat.reduceDiv, Nat.reduceLT, cond_true, cond_false, gt_iff_lt, ge_iff_le, enc3, c1, c2, c3, c4, c5, c6, c7, c8, c9, c10, c11, c12, hp, hq, hr, hm1, d1, d2, d3, dAnd, e0, e1, e2, r2, YtoncolpkpgbfiaaDoor.D101, ty3, ty4, ty151, ty166]
  refine loopC_of ?_
  simp (maxSteps := 2000000) only [wk0, wk1, wk2, wk3, wk4, wk5, Fr.ev, Fr.put, Fr.get, pkB, pkT, pkF, storeA, if_false, if_true, Nat.reduceEqDiff, reduceIte, Nat.reduceAdd, List.replicate, Nat.reduceLeDiff, Nat.reduceMul, Nat.reduceSub, Nat.reducePow, Int.reduceLT, Int.reduceLE, Int.reduceToNat, Int.reducePow, IntKind.bits, Int.reduceEq, Int.reduceMul, Int.reduceNeg, ne_eq, reduceCtorEq, BEq.rfl, beq_self_eq_true, Int.reduceAdd, Int.reduceSub, Int.reduceMod, Int.reduceDiv, Nat.reduceMod, Nat.reduceDiv, Nat.reduceLT, cond_true, cond_false, gt_iff_lt, ge_iff_le, enc3, c1, c2, c3, c4, c5, c6, c7, c8, c9, c10, c11, c12, hp, hq, hr, hm1, e0, l1, o1, YtoncolpkpgbfiaaDoor.D101, ty3, ty4, ty151, ty166]
  refine loopC_of ?_
  simp (maxSteps := 2000000) only [wk0, wk1, wk2, wk3, wk4, wk5, Fr.ev, Fr.put, Fr.get, pkB, pkT, pkF, storeA, if_false, if_true, Nat.reduceEqDiff, reduceIte, Nat.reduceAdd, List.replicate, Nat.reduceLeDiff, Nat.reduceMul, Nat.reduceSub, Nat.reducePow, Int.reduceLT, Int.reduceLE, Int.reduceToNat, Int.reducePow, IntKind.bits, Int.reduceEq, Int.reduceMul, Int.reduceNeg, ne_eq, reduceCtorEq, BEq.rfl, beq_self_eq_true, Int.reduceAdd, Int.reduceSub, Int.reduceMod, Int.reduceDiv, Nat.reduceMod, Nat.reduceDiv, Nat.reduceLT, cond_true, cond_false, gt_iff_lt, ge_iff_le, enc3, c1, c2, c3, c4, c5, c6, c7, c8, c9, c10, c11, c12, hp, hq, hr, hm1, e1, l2, o2, YtoncolpkpgbfiaaDoor.D101, ty3, ty4, ty151, ty166]
  refine loopC_of ?_
  simp (maxSteps := 2000000) only [wk0, wk1, wk2, wk3, wk4, wk5, Fr.ev, Fr.put, Fr.get, pkB, pkT, pkF, storeA, if_false, if_true, Nat.reduceEqDiff, reduceIte, Nat.reduceAdd, List.replicate, Nat.reduceLeDiff, Nat.reduceMul, Nat.reduceSub, Nat.reducePow, Int.reduceLT, Int.reduceLE, Int.reduceToNat, Int.reducePow, IntKind.bits, Int.reduceEq, Int.reduceMul, Int.reduceNeg, ne_eq, reduceCtorEq, BEq.rfl, beq_self_eq_true, Int.reduceAdd, Int.reduceSub, Int.reduceMod, Int.reduceDiv, Nat.reduceMod, Nat.reduceDiv, Nat.reduceLT, cond_true, cond_false, gt_iff_lt, ge_iff_le, enc3, c1, c2, c3, c4, c5, c6, c7, c8, c9, c10, c11, c12, hp, hq, hr, hm1, e2, YtoncolpkpgbfiaaDoor.D101, ty3, ty4, ty151, ty166]
  refine callThen_of (hbelow _ _ _) ?_
  have c13 : m ≤ 64 := by omega
  by_cases hneg : z < 0
  · have o := o3 hneg
    simp (maxSteps := 2000000) only [wk0, wk1, wk2, wk3, wk4, wk5, Fr.ev, Fr.put, Fr.get, pkB, pkT, pkF, storeA, if_false, if_true, Nat.reduceEqDiff, reduceIte, Nat.reduceAdd, List.replicate, Nat.reduceLeDiff, Nat.reduceMul, Nat.reduceSub, Nat.reducePow, Int.reduceLT, Int.reduceLE, Int.reduceToNat, Int.reducePow, IntKind.bits, Int.reduceEq, Int.reduceMul, Int.reduceNeg, ne_eq, reduceCtorEq, BEq.rfl, beq_self_eq_true, Int.reduceAdd, Int.reduceSub, Int.reduceMod, Int.reduceDiv, Nat.reduceMod, Nat.reduceDiv, Nat.reduceLT, cond_true, cond_false, gt_iff_lt, ge_iff_le, enc3, c1, c2, c3, c4, c5, c6, c7, c8, c9, c10, c11, c12, c13, hp, hq, hr, hm1, e2, d3, hneg, l3, o, YtoncolpkpgbfiaaDoor.D101, ty3, ty4, ty151, ty166]
    refine loopC_of ?_
    by_cases g1 : r < z % p
    · simp (maxSteps := 2000000) only [wk0, wk1, wk2, wk3, wk4, wk5, Fr.ev, Fr.put, Fr.get, pkB, pkT, pkF, storeA, if_false, if_true, Nat.reduceEqDiff, reduceIte, Nat.reduceAdd, List.replicate, Nat.reduceLeDiff, Nat.reduceMul, Nat.reduceSub, Nat.reducePow, Int.reduceLT, Int.reduceLE, Int.reduceToNat, Int.reducePow, IntKind.bits, Int.reduceEq, Int.reduceMul, Int.reduceNeg, ne_eq, reduceCtorEq, BEq.rfl, beq_self_eq_true, Int.reduceAdd, Int.reduceSub, Int.reduceMod, Int.reduceDiv, Nat.reduceMod, Nat.reduceDiv, Nat.reduceLT, cond_true, cond_false, gt_iff_lt, ge_iff_le, enc3, c1, c2, c3, c4, c5, c6, c7, c8, c9, c10, c11, c12, c13, hp, hq, hr, hm1, e2, d3, a1, g1, YtoncolpkpgbfiaaDoor.D101, ty3, ty4, ty151, ty166]
      refine callThen_of (hplus _) ?_
      simp (maxSteps := 2000000) only [wk0, wk1, wk2, wk3, wk4, wk5, Fr.ev, Fr.put, Fr.get, pkB, pkT, pkF, storeA, if_false, if_true, Nat.reduceEqDiff, reduceIte, Nat.reduceAdd, List.replicate, Nat.reduceLeDiff, Nat.reduceMul, Nat.reduceSub, Nat.reducePow, Int.reduceLT, Int.reduceLE, Int.reduceToNat, Int.reducePow, IntKind.bits, Int.reduceEq, Int.reduceMul, Int.reduceNeg, ne_eq, reduceCtorEq, BEq.rfl, beq_self_eq_true, Int.reduceAdd, Int.reduceSub, Int.reduceMod, Int.reduceDiv, Nat.reduceMod, Nat.reduceDiv, Nat.reduceLT, cond_true, cond_false, gt_iff_lt, ge_iff_le, enc3, YtoncolpkpgbfiaaDoor.D101, ty3, ty4, ty151, ty166]
      exact retB_plain (by simp [nmd_agg, nmd_int]) (by rw [key, if_pos (Or.inl g1)]; rfl) (by simp)
    · by_cases g2 : z % p = r
      · by_cases g3 : z / p % 2 = 1
        · simp (maxSteps := 2000000) only [wk0, wk1, wk2, wk3, wk4, wk5, Fr.ev, Fr.put, Fr.get, pkB, pkT, pkF, storeA, if_false, if_true, Nat.reduceEqDiff, reduceIte, Nat.reduceAdd, List.replicate, Nat.reduceLeDiff, Nat.reduceMul, Nat.reduceSub, Nat.reducePow, Int.reduceLT, Int.reduceLE, Int.reduceToNat, Int.reducePow, IntKind.bits, Int.reduceEq, Int.reduceMul, Int.reduceNeg, ne_eq, reduceCtorEq, BEq.rfl, beq_self_eq_true, Int.reduceAdd, Int.reduceSub, Int.reduceMod, Int.reduceDiv, Nat.reduceMod, Nat.reduceDiv, Nat.reduceLT, cond_true, cond_false, gt_iff_lt, ge_iff_le, enc3, c1, c2, c3, c4, c5, c6, c7, c8, c9, c10, c11, c12, c13, hp, hq, hr, hm1, e2, d3, a1, g1, g2, Int.lt_irrefl, g3, YtoncolpkpgbfiaaDoor.D101, ty3, ty4, ty151, ty166]
          refine callThen_of (hplus _) ?_
          simp (maxSteps := 2000000) only [wk0, wk1, wk2, wk3, wk4, wk5, Fr.ev, Fr.put, Fr.get, pkB, pkT, pkF, storeA, if_false, if_true, Nat.reduceEqDiff, reduceIte, Nat.reduceAdd, List.replicate, Nat.reduceLeDiff, Nat.reduceMul, Nat.reduceSub, Nat.reducePow, Int.reduceLT, Int.reduceLE, Int.reduceToNat, Int.reducePow, IntKind.bits, Int.reduceEq, Int.reduceMul, Int.reduceNeg, ne_eq, reduceCtorEq, BEq.rfl, beq_self_eq_true, Int.reduceAdd, Int.reduceSub, Int.reduceMod, Int.reduceDiv, Nat.reduceMod, Nat.reduceDiv, Nat.reduceLT, cond_true, cond_false, gt_iff_lt, ge_iff_le, enc3, YtoncolpkpgbfiaaDoor.D101, ty3, ty4, ty151, ty166]
          exact retB_plain (by simp [nmd_agg, nmd_int]) (by rw [key, if_pos (Or.inr ⟨g2.symm, g3⟩)]; rfl) (by simp)
        · simp (maxSteps := 2000000) only [wk0, wk1, wk2, wk3, wk4, wk5, Fr.ev, Fr.put, Fr.get, pkB, pkT, pkF, storeA, if_false, if_true, Nat.reduceEqDiff, reduceIte, Nat.reduceAdd, List.replicate, Nat.reduceLeDiff, Nat.reduceMul, Nat.reduceSub, Nat.reducePow, Int.reduceLT, Int.reduceLE, Int.reduceToNat, Int.reducePow, IntKind.bits, Int.reduceEq, Int.reduceMul, Int.reduceNeg, ne_eq, reduceCtorEq, BEq.rfl, beq_self_eq_true, Int.reduceAdd, Int.reduceSub, Int.reduceMod, Int.reduceDiv, Nat.reduceMod, Nat.reduceDiv, Nat.reduceLT, cond_true, cond_false, gt_iff_lt, ge_iff_le, enc3, c1, c2, c3, c4, c5, c6, c7, c8, c9, c10, c11, c12, c13, hp, hq, hr, hm1, e2, d3, a1, g1, g2, Int.lt_irrefl, g3, YtoncolpkpgbfiaaDoor.D101, ty3, ty4, ty151, ty166]
          exact retB_plain (by simp [nmd_agg, nmd_int]) (by rw [key, if_neg (by omega)]; rfl) (by simp)
      · simp (maxSteps := 2000000) only [wk0, wk1, wk2, wk3, wk4, wk5, Fr.ev, Fr.put, Fr.get, pkB, pkT, pkF, storeA, if_false, if_true, Nat.reduceEqDiff, reduceIte, Nat.reduceAdd, List.replicate, Nat.reduceLeDiff, Nat.reduceMul, Nat.reduceSub, Nat.reducePow, Int.reduceLT, Int.reduceLE, Int.reduceToNat, Int.reducePow, IntKind.bits, Int.reduceEq, Int.reduceMul, Int.reduceNeg, ne_eq, reduceCtorEq, BEq.rfl, beq_self_eq_true, Int.reduceAdd, Int.reduceSub, Int.reduceMod, Int.reduceDiv, Nat.reduceMod, Nat.reduceDiv, Nat.reduceLT, cond_true, cond_false, gt_iff_lt, ge_iff_le, enc3, c1, c2, c3, c4, c5, c6, c7, c8, c9, c10, c11, c12, c13, hp, hq, hr, hm1, e2, d3, a1, g1, g2, Int.lt_irrefl, YtoncolpkpgbfiaaDoor.D101, ty3, ty4, ty151, ty166]
        exact retB_plain (by simp [nmd_agg, nmd_int]) (by rw [key, if_neg (by omega)]; rfl) (by simp)
  · have o := o4 hneg
    simp (maxSteps := 2000000) only [wk0, wk1, wk2, wk3, wk4, wk5, Fr.ev, Fr.put, Fr.get, pkB, pkT, pkF, storeA, if_false, if_true, Nat.reduceEqDiff, reduceIte, Nat.reduceAdd, List.replicate, Nat.reduceLeDiff, Nat.reduceMul, Nat.reduceSub, Nat.reducePow, Int.reduceLT, Int.reduceLE, Int.reduceToNat, Int.reducePow, IntKind.bits, Int.reduceEq, Int.reduceMul, Int.reduceNeg, ne_eq, reduceCtorEq, BEq.rfl, beq_self_eq_true, Int.reduceAdd, Int.reduceSub, Int.reduceMod, Int.reduceDiv, Nat.reduceMod, Nat.reduceDiv, Nat.reduceLT, cond_true, cond_false, gt_iff_lt, ge_iff_le, enc3, c1, c2, c3, c4, c5, c6, c7, c8, c9, c10, c11, c12, c13, hp, hq, hr, hm1, e2, d3, hneg, o, YtoncolpkpgbfiaaDoor.D101, ty3, ty4, ty151, ty166]
    refine loopC_of ?_
    by_cases g1 : r < z % p
    · simp (maxSteps := 2000000) only [wk0, wk1, wk2, wk3, wk4, wk5, Fr.ev, Fr.put, Fr.get, pkB, pkT, pkF, storeA, if_false, if_true, Nat.reduceEqDiff, reduceIte, Nat.reduceAdd, List.replicate, Nat.reduceLeDiff, Nat.reduceMul, Nat.reduceSub, Nat.reducePow, Int.reduceLT, Int.reduceLE, Int.reduceToNat, Int.reducePow, IntKind.bits, Int.reduceEq, Int.reduceMul, Int.reduceNeg, ne_eq, reduceCtorEq, BEq.rfl, beq_self_eq_true, Int.reduceAdd, Int.reduceSub, Int.reduceMod, Int.reduceDiv, Nat.reduceMod, Nat.reduceDiv, Nat.reduceLT, cond_true, cond_false, gt_iff_lt, ge_iff_le, enc3, c1, c2, c3, c4, c5, c6, c7, c8, c9, c10, c11, c12, c13, hp, hq, hr, hm1, e2, d3, a1, g1, YtoncolpkpgbfiaaDoor.D101, ty3, ty4, ty151, ty166]
      refine callThen_of (hplus _) ?_
      simp (maxSteps := 2000000) only [wk0, wk1, wk2, wk3, wk4, wk5, Fr.ev, Fr.put, Fr.get, pkB, pkT, pkF, storeA, if_false, if_true, Nat.reduceEqDiff, reduceIte, Nat.reduceAdd, List.replicate, Nat.reduceLeDiff, Nat.reduceMul, Nat.reduceSub, Nat.reducePow, Int.reduceLT, Int.reduceLE, Int.reduceToNat, Int.reducePow, IntKind.bits, Int.reduceEq, Int.reduceMul, Int.reduceNeg, ne_eq, reduceCtorEq, BEq.rfl, beq_self_eq_true, Int.reduceAdd, Int.reduceSub, Int.reduceMod, Int.reduceDiv, Nat.reduceMod, Nat.reduceDiv, Nat.reduceLT, cond_true, cond_false, gt_iff_lt, ge_iff_le, enc3, YtoncolpkpgbfiaaDoor.D101, ty3, ty4, ty151, ty166]
      exact retB_plain (by simp [nmd_agg, nmd_int]) (by rw [key, if_pos (Or.inl g1)]; rfl) (by simp)
    · by_cases g2 : z % p = r
      · by_cases g3 : z / p % 2 = 1
        · simp (maxSteps := 2000000) only [wk0, wk1, wk2, wk3, wk4, wk5, Fr.ev, Fr.put, Fr.get, pkB, pkT, pkF, storeA, if_false, if_true, Nat.reduceEqDiff, reduceIte, Nat.reduceAdd, List.replicate, Nat.reduceLeDiff, Nat.reduceMul, Nat.reduceSub, Nat.reducePow, Int.reduceLT, Int.reduceLE, Int.reduceToNat, Int.reducePow, IntKind.bits, Int.reduceEq, Int.reduceMul, Int.reduceNeg, ne_eq, reduceCtorEq, BEq.rfl, beq_self_eq_true, Int.reduceAdd, Int.reduceSub, Int.reduceMod, Int.reduceDiv, Nat.reduceMod, Nat.reduceDiv, Nat.reduceLT, cond_true, cond_false, gt_iff_lt, ge_iff_le, enc3, c1, c2, c3, c4, c5, c6, c7, c8, c9, c10, c11, c12, c13, hp, hq, hr, hm1, e2, d3, a1, g1, g2, Int.lt_irrefl, g3, YtoncolpkpgbfiaaDoor.D101, ty3, ty4, ty151, ty166]
          refine callThen_of (hplus _) ?_
          simp (maxSteps := 2000000) only [wk0, wk1, wk2, wk3, wk4, wk5, Fr.ev, Fr.put, Fr.get, pkB, pkT, pkF, storeA, if_false, if_true, Nat.reduceEqDiff, reduceIte, Nat.reduceAdd, List.replicate, Nat.reduceLeDiff, Nat.reduceMul, Nat.reduceSub, Nat.reducePow, Int.reduceLT, Int.reduceLE, Int.reduceToNat, Int.reducePow, IntKind.bits, Int.reduceEq, Int.reduceMul, Int.reduceNeg, ne_eq, reduceCtorEq, BEq.rfl, beq_self_eq_true, Int.reduceAdd, Int.reduceSub, Int.reduceMod, Int.reduceDiv, Nat.reduceMod, Nat.reduceDiv, Nat.reduceLT, cond_true, cond_false, gt_iff_lt, ge_iff_le, enc3, YtoncolpkpgbfiaaDoor.D101, ty3, ty4, ty151, ty166]
          exact retB_plain (by simp [nmd_agg, nmd_int]) (by rw [key, if_pos (Or.inr ⟨g2.symm, g3⟩)]; rfl) (by simp)
        · simp (maxSteps := 2000000) only [wk0, wk1, wk2, wk3, wk4, wk5, Fr.ev, Fr.put, Fr.get, pkB, pkT, pkF, storeA, if_false, if_true, Nat.reduceEqDiff, reduceIte, Nat.reduceAdd, List.replicate, Nat.reduceLeDiff, Nat.reduceMul, Nat.reduceSub, Nat.reducePow, Int.reduceLT, Int.reduceLE, Int.reduceToNat, Int.reducePow, IntKind.bits, Int.reduceEq, Int.reduceMul, Int.reduceNeg, ne_eq, reduceCtorEq, BEq.rfl, beq_self_eq_true, Int.reduceAdd, Int.reduceSub, Int.reduceMod, Int.reduceDiv, Nat.reduceMod, Nat.reduceDiv, Nat.reduceLT, cond_true, cond_false, gt_iff_lt, ge_iff_le, enc3, c1, c2, c3, c4, c5, c6, c7, c8, c9, c10, c11, c12, c13, hp, hq, hr, hm1, e2, d3, a1, g1, g2, Int.lt_irrefl, g3, YtoncolpkpgbfiaaDoor.D101, ty3, ty4, ty151, ty166]
          exact retB_plain (by simp [nmd_agg, nmd_int]) (by rw [key, if_neg (by omega)]; rfl) (by simp)
      · simp (maxSteps := 2000000) only [wk0, wk1, wk2, wk3, wk4, wk5, Fr.ev, Fr.put, Fr.get, pkB, pkT, pkF, storeA, if_false, if_true, Nat.reduceEqDiff, reduceIte, Nat.reduceAdd, List.replicate, Nat.reduceLeDiff, Nat.reduceMul, Nat.reduceSub, Nat.reducePow, Int.reduceLT, Int.reduceLE, Int.reduceToNat, Int.reducePow, IntKind.bits, Int.reduceEq, Int.reduceMul, Int.reduceNeg, ne_eq, reduceCtorEq, BEq.rfl, beq_self_eq_true, Int.reduceAdd, Int.reduceSub, Int.reduceMod, Int.reduceDiv, Nat.reduceMod, Nat.reduceDiv, Nat.reduceLT, cond_true, cond_false, gt_iff_lt, ge_iff_le, enc3, c1, c2, c3, c4, c5, c6, c7, c8, c9, c10, c11, c12, c13, hp, hq, hr, hm1, e2, d3, a1, g1, g2, Int.lt_irrefl, YtoncolpkpgbfiaaDoor.D101, ty3, ty4, ty151, ty166]
        exact retB_plain (by simp [nmd_agg, nmd_int]) (by rw [key, if_neg (by omega)]; rfl) (by simp)
end Go.Proofs.YtoncolpkpgbfiaaDoor
