/- qnum: the root. -/
import Derived.Test.YtimdnnlfkkkpbaaQ3
set_option linter.unusedSimpArgs false
set_option linter.unusedVariables false
set_option maxRecDepth 100000
set_option maxHeartbeats 4000000
namespace Go.Proofs.Ytimdnnlfkkkpbaa
noncomputable def c83 : Code := Try.f83.body.getD .skip
theorem b83 : Try.f83.body = some c83 := rfl
theorem d83 : fnOk Try.f83 c83 = true := by kernel_rfl
def D83 : Nat → List Tag := fun _ => []
theorem e83 : drawsOk D83 c83 = true := by kernel_rfl
theorem root_bad (a n : Int) (S : Heap) (h : a < 0 ∨ ¬ (0 ≤ n ∧ n ≤ 62)) : Call theE 83 [.int .i64 a, .int .i64 n] S (.tup [.int .i64 0, errA 1]) S := by
  refine Call.ofC Try.func83 Ytimdnnlfkkkpbaa.b83 Ytimdnnlfkkkpbaa.d83 Ytimdnnlfkkkpbaa.e83 (by simp [Try.f83]) ?_
  dsimp only [Ytimdnnlfkkkpbaa.c83, Try.f83, Option.getD_some]
  by_cases h1 : a < 0
  · simp (maxSteps := 2000000) only [wk0, wk1, wk2, wk3, keepA, keepT, Fr.keep, frzT, flatT, arrayAtA, ownT, extT, Fr.ev, Fr.put, Fr.get, initFr, buildSliceA, zeros, pkB, pkT, pkF, ownDst, Env.kd, ofConst, isConst, binA, intI, cmpI, shiftI, convertA, buildA, fillA, fillS, splice, AV.cells?, storeA, readAt, fieldAddrA, fieldA, indexA, extractA, unA, builtinA, appendA, lenA, sliceCells, isSliceK, makeInterfaceA, nilCheckA, eqA, AV.one, AV.plain, if_false, if_true, Nat.reduceEqDiff, reduceIte, Nat.reduceAdd, List.replicate, Nat.reduceLeDiff, Nat.reduceMul, Nat.reduceSub, Nat.reducePow, Int.reduceLT, Int.reduceLE, Int.reduceToNat, Int.reducePow, IntKind.bits, Int.reduceEq, Int.reduceMul, Int.reduceNeg, ne_eq, reduceCtorEq, escT, BEq.rfl, beq_self_eq_true, Int.reduceAdd, Int.reduceSub, Int.reduceMod, Int.reduceDiv, Nat.reduceMod, Nat.reduceDiv, Nat.reduceLT, cond_true, cond_false, gt_iff_lt, ge_iff_le, h1, Ytimdnnlfkkkpbaa.D83, ty2, ty3, ty4, ty24, ty55, ty95, ty113]
    exact retB_plain (by simp [nmd_int, nmd_ifc]) rfl (by simp)
  · have h2 : ¬ (0 ≤ n ∧ n ≤ 62) := by omega
    simp (maxSteps := 2000000) only [wk0, wk1, wk2, wk3, keepA, keepT, Fr.keep, frzT, flatT, arrayAtA, ownT, extT, Fr.ev, Fr.put, Fr.get, initFr, buildSliceA, zeros, pkB, pkT, pkF, ownDst, Env.kd, ofConst, isConst, binA, intI, cmpI, shiftI, convertA, buildA, fillA, fillS, splice, AV.cells?, storeA, readAt, fieldAddrA, fieldA, indexA, extractA, unA, builtinA, appendA, lenA, sliceCells, isSliceK, makeInterfaceA, nilCheckA, eqA, AV.one, AV.plain, if_false, if_true, Nat.reduceEqDiff, reduceIte, Nat.reduceAdd, List.replicate, Nat.reduceLeDiff, Nat.reduceMul, Nat.reduceSub, Nat.reducePow, Int.reduceLT, Int.reduceLE, Int.reduceToNat, Int.reducePow, IntKind.bits, Int.reduceEq, Int.reduceMul, Int.reduceNeg, ne_eq, reduceCtorEq, escT, BEq.rfl, beq_self_eq_true, Int.reduceAdd, Int.reduceSub, Int.reduceMod, Int.reduceDiv, Nat.reduceMod, Nat.reduceDiv, Nat.reduceLT, cond_true, cond_false, gt_iff_lt, ge_iff_le, h1, Ytimdnnlfkkkpbaa.D83, ty2, ty3, ty4, ty24, ty55, ty95, ty113]
    refine callThen_of (pointed_ok n _) ?_
    simp (maxSteps := 2000000) only [wk0, wk1, wk2, wk3, keepA, keepT, Fr.keep, frzT, flatT, arrayAtA, ownT, extT, Fr.ev, Fr.put, Fr.get, initFr, buildSliceA, zeros, pkB, pkT, pkF, ownDst, Env.kd, ofConst, isConst, binA, intI, cmpI, shiftI, convertA, buildA, fillA, fillS, splice, AV.cells?, storeA, readAt, fieldAddrA, fieldA, indexA, extractA, unA, builtinA, appendA, lenA, sliceCells, isSliceK, makeInterfaceA, nilCheckA, eqA, AV.one, AV.plain, if_false, if_true, Nat.reduceEqDiff, reduceIte, Nat.reduceAdd, List.replicate, Nat.reduceLeDiff, Nat.reduceMul, Nat.reduceSub, Nat.reducePow, Int.reduceLT, Int.reduceLE, Int.reduceToNat, Int.reducePow, IntKind.bits, Int.reduceEq, Int.reduceMul, Int.reduceNeg, ne_eq, reduceCtorEq, escT, BEq.rfl, beq_self_eq_true, Int.reduceAdd, Int.reduceSub, Int.reduceMod, Int.reduceDiv, Nat.reduceMod, Nat.reduceDiv, Nat.reduceLT, cond_true, cond_false, gt_iff_lt, ge_iff_le, h2, Ytimdnnlfkkkpbaa.D83, ty2, ty3, ty4, ty24, ty55, ty95, ty113]
    exact retB_plain (by simp [nmd_int, nmd_ifc]) rfl (by simp)
theorem sqrt_ex (N : Nat) : ∃ r : Nat, r * r ≤ N ∧ N < (r + 1) * (r + 1) := by
  induction N with
  | zero => exact ⟨0, by decide, by decide⟩
  | succ N ih =>
    obtain ⟨r, h1, h2⟩ := ih
    by_cases h : N + 1 < (r + 1) * (r + 1)
    · exact ⟨r, by omega, h⟩
    · refine ⟨r + 1, by omega, ?_⟩
      have : (r + 1 + 1) * (r + 1 + 1) = (r + 1) * (r + 1) + 2 * (r + 1) + 1 := by grind
      omega
theorem orC {x y : Int} (hx : 0 ≤ x ∧ x < 18446744073709551616) (hy : 0 ≤ y ∧ y < 18446744073709551616) : bitsI .or .u64 x y = bitsI .or .u64 y x := by
  rw [bitsU_or hx hy, bitsU_or hy hx, Nat.or_comm]
theorem sq_le {x r N : Int} (hx : 0 ≤ x) (hr : 0 ≤ r) (h1 : r * r ≤ N) (h2 : N < (r + 1) * (r + 1)) : x * x ≤ N ↔ x ≤ r := by
  constructor
  · intro h
    rcases Int.lt_or_le r x with h3 | h3
    · have := (mulB (a := r + 1) (b := r + 1) (A := x) (B := x) (by omega) (by omega) (by omega) (by omega)).2
      omega
    · exact h3
  · intro h
    have := (mulB (a := x) (b := x) (A := r) (B := r) (by omega) (by omega) (by omega) (by omega)).2
    omega
theorem root_ok (a : Int) (n : Nat) (S : Heap) (ha : 0 ≤ a ∧ a < 9223372036854775808) (hn : n ≤ 62) :
    ∃ r : Int, (0 ≤ r ∧ r < 9223372036854775808) ∧ r * r ≤ a * 2 ^ n ∧ a * 2 ^ n < (r + 1) * (r + 1) ∧ Call theE 83 [.int .i64 a, .int .i64 n] S (.tup [.int .i64 r, .nili]) S := by
  have hp := pow62 n hn
  have c0 : ¬ a < 0 := by omega
  have c1 : (0 : Int) ≤ n ∧ (n : Int) ≤ 62 := by omega
  have c2 : ¬ (n : Int) < 0 := by omega
  have c3 : (n : Int).toNat = n := by omega
  have c4 : n ≤ 64 := by omega
  have c5 : IntKind.u64.wrap (1 * 2 ^ n) = 2 ^ n := by rw [Int.one_mul]; exact wrapU (by omega)
  have c6 : IntKind.u64.wrap a = a := wrapU (by omega)
  have hq := fun S => mul64_ok a (2 ^ n) S (by omega) (by omega)
  have hB : 0 ≤ a * 2 ^ n ∧ a * 2 ^ n ≤ 9223372036854775807 * 4611686018427387904 := mulB (by omega) (by omega) (by omega) (by omega)
  generalize hN : a * 2 ^ n = N at *
  obtain ⟨r', h1', h2'⟩ := sqrt_ex N.toNat
  obtain ⟨r, hr⟩ : ∃ r : Int, r = r' := ⟨_, rfl⟩
  have h0 : 0 ≤ r := by omega
  have h1 : r * r ≤ N := by
    have : ((r' * r' : Nat) : Int) ≤ N := by omega
    rw [hr]; simpa using this
  have h2 : N < (r + 1) * (r + 1) := by
    have : N < (((r' + 1) * (r' + 1) : Nat) : Int) := by omega
    rw [hr]; simpa using this
  have h3 : r < 9223372036854775808 := by
    rcases Int.lt_or_le r 9223372036854775808 with h | h
    · exact h
    · have := (mulB (a := 9223372036854775808) (b := 9223372036854775808) (A := r) (B := r) (by omega) h (by omega) h).2
      omega
  refine ⟨r, ⟨h0, h3⟩, h1, h2, ?_⟩
  refine Call.ofC Try.func83 Ytimdnnlfkkkpbaa.b83 Ytimdnnlfkkkpbaa.d83 Ytimdnnlfkkkpbaa.e83 (by simp [Try.f83]) ?_
  dsimp only [Ytimdnnlfkkkpbaa.c83, Try.f83, Option.getD_some]
  simp (maxSteps := 2000000) only [wk0, wk1, wk2, wk3, keepA, keepT, Fr.keep, frzT, flatT, arrayAtA, ownT, extT, Fr.ev, Fr.put, Fr.get, initFr, buildSliceA, zeros, pkB, pkT, pkF, ownDst, Env.kd, ofConst, isConst, binA, intI, cmpI, shiftI, convertA, buildA, fillA, fillS, splice, AV.cells?, storeA, readAt, fieldAddrA, fieldA, indexA, extractA, unA, builtinA, appendA, lenA, sliceCells, isSliceK, makeInterfaceA, nilCheckA, eqA, AV.one, AV.plain, if_false, if_true, Nat.reduceEqDiff, reduceIte, Nat.reduceAdd, List.replicate, Nat.reduceLeDiff, Nat.reduceMul, Nat.reduceSub, Nat.reducePow, Int.reduceLT, Int.reduceLE, Int.reduceToNat, Int.reducePow, IntKind.bits, Int.reduceEq, Int.reduceMul, Int.reduceNeg, ne_eq, reduceCtorEq, escT, BEq.rfl, beq_self_eq_true, Int.reduceAdd, Int.reduceSub, Int.reduceMod, Int.reduceDiv, Nat.reduceMod, Nat.reduceDiv, Nat.reduceLT, cond_true, cond_false, gt_iff_lt, ge_iff_le, c0, Ytimdnnlfkkkpbaa.D83, ty2, ty3, ty4, ty24, ty55, ty95, ty113]
  refine callThen_of (pointed_ok n _) ?_
  simp (maxSteps := 2000000) only [wk0, wk1, wk2, wk3, keepA, keepT, Fr.keep, frzT, flatT, arrayAtA, ownT, extT, Fr.ev, Fr.put, Fr.get, initFr, buildSliceA, zeros, pkB, pkT, pkF, ownDst, Env.kd, ofConst, isConst, binA, intI, cmpI, shiftI, convertA, buildA, fillA, fillS, splice, AV.cells?, storeA, readAt, fieldAddrA, fieldA, indexA, extractA, unA, builtinA, appendA, lenA, sliceCells, isSliceK, makeInterfaceA, nilCheckA, eqA, AV.one, AV.plain, if_false, if_true, Nat.reduceEqDiff, reduceIte, Nat.reduceAdd, List.replicate, Nat.reduceLeDiff, Nat.reduceMul, Nat.reduceSub, Nat.reducePow, Int.reduceLT, Int.reduceLE, Int.reduceToNat, Int.reducePow, IntKind.bits, Int.reduceEq, Int.reduceMul, Int.reduceNeg, ne_eq, reduceCtorEq, escT, BEq.rfl, beq_self_eq_true, Int.reduceAdd, Int.reduceSub, Int.reduceMod, Int.reduceDiv, Nat.reduceMod, Nat.reduceDiv, Nat.reduceLT, cond_true, cond_false, gt_iff_lt, ge_iff_le, c0, c1, c2, c3, c4, c5, c6, Ytimdnnlfkkkpbaa.D83, ty2, ty3, ty4, ty24, ty55, ty95, ty113]
  refine callThen_of (hq _) ?_
  simp (maxSteps := 2000000) only [wk0, wk1, wk2, wk3, keepA, keepT, Fr.keep, frzT, flatT, arrayAtA, ownT, extT, Fr.ev, Fr.put, Fr.get, initFr, buildSliceA, zeros, pkB, pkT, pkF, ownDst, Env.kd, ofConst, isConst, binA, intI, cmpI, shiftI, convertA, buildA, fillA, fillS, splice, AV.cells?, storeA, readAt, fieldAddrA, fieldA, indexA, extractA, unA, builtinA, appendA, lenA, sliceCells, isSliceK, makeInterfaceA, nilCheckA, eqA, AV.one, AV.plain, if_false, if_true, Nat.reduceEqDiff, reduceIte, Nat.reduceAdd, List.replicate, Nat.reduceLeDiff, Nat.reduceMul, Nat.reduceSub, Nat.reducePow, Int.reduceLT, Int.reduceLE, Int.reduceToNat, Int.reducePow, IntKind.bits, Int.reduceEq, Int.reduceMul, Int.reduceNeg, ne_eq, reduceCtorEq, escT, BEq.rfl, beq_self_eq_true, Int.reduceAdd, Int.reduceSub, Int.reduceMod, Int.reduceDiv, Nat.reduceMod, Nat.reduceDiv, Nat.reduceLT, cond_true, cond_false, gt_iff_lt, ge_iff_le, Ytimdnnlfkkkpbaa.D83, ty2, ty3, ty4, ty24, ty55, ty95, ty113]
  refine loopC_ind (fun m fr H => m ≤ 63 ∧ fr.get 9 = .int .u64 (if m = 0 then 0 else 2 ^ (m - 1)) ∧ fr.get 8 = .int .u64 (r / 2 ^ m * 2 ^ m) ∧ fr.get 7 = .int .u64 (N % 18446744073709551616) ∧ fr.get 6 = .int .u64 (N / 18446744073709551616) ∧ H = S) ?_ (n := 63)
    ⟨by decide, rfl, by rw [show r / 2 ^ 63 = 0 from Int.ediv_eq_zero_of_lt h0 h3]; rfl, rfl, rfl, rfl⟩
  rintro m fr H ⟨hm, g9, g8, g7, g6, rfl⟩ ih
  match m, hm, g9, g8, ih with
  | 0, _, g9, g8, _ =>
    rw [if_pos rfl] at g9
    have e : r / 2 ^ 0 * 2 ^ 0 = r := by simp
    rw [e] at g8
    have w : IntKind.i64.wrap r = r := wrapI (by omega)
    simp (maxSteps := 2000000) only [wk0, wk1, wk2, wk3, keepA, keepT, Fr.keep, frzT, flatT, arrayAtA, ownT, extT, Fr.ev, Fr.put, Fr.get, initFr, buildSliceA, zeros, pkB, pkT, pkF, ownDst, Env.kd, ofConst, isConst, binA, intI, cmpI, shiftI, convertA, buildA, fillA, fillS, splice, AV.cells?, storeA, readAt, fieldAddrA, fieldA, indexA, extractA, unA, builtinA, appendA, lenA, sliceCells, isSliceK, makeInterfaceA, nilCheckA, eqA, AV.one, AV.plain, if_false, if_true, Nat.reduceEqDiff, reduceIte, Nat.reduceAdd, List.replicate, Nat.reduceLeDiff, Nat.reduceMul, Nat.reduceSub, Nat.reducePow, Int.reduceLT, Int.reduceLE, Int.reduceToNat, Int.reducePow, IntKind.bits, Int.reduceEq, Int.reduceMul, Int.reduceNeg, ne_eq, reduceCtorEq, escT, BEq.rfl, beq_self_eq_true, Int.reduceAdd, Int.reduceSub, Int.reduceMod, Int.reduceDiv, Nat.reduceMod, Nat.reduceDiv, Nat.reduceLT, cond_true, cond_false, gt_iff_lt, ge_iff_le, g9, g8, g7, g6, Int.lt_irrefl, w, Ytimdnnlfkkkpbaa.D83, ty2, ty3, ty4, ty24, ty55, ty95, ty113]
    exact retB_plain (by simp [nmd_int, nmd_nili]) rfl (by simp)
  | j + 1, hm, g9, g8, ih =>
    rw [if_neg (by omega), Nat.add_sub_cancel] at g9
    have hpj := pow62 j (by omega)
    have hpp : (2 : Int) ^ (j + 1) = 2 ^ j * 2 := Int.pow_succ ..
    have hor := fun (y : Int) => @orU (2 ^ j) y (j + 1)
    have hnx : ((2 : Int) ^ j).fdiv 2 = if j = 0 then 0 else 2 ^ (j - 1) := by
      rw [shr0 (by decide)]
      by_cases hj : j = 0
      · subst hj; rfl
      · obtain ⟨i, rfl⟩ : ∃ i, j = i + 1 := ⟨j - 1, by omega⟩
        rw [if_neg hj, Nat.add_sub_cancel, Int.pow_succ]; omega
    have hih := ih j
    clear ih
    rw [hpp] at g8 hor
    generalize hpd : (2 : Int) ^ j = p at *
    have hd2 : r / (p * 2) = r / p / 2 := by rw [Int.ediv_ediv_of_nonneg (by omega)]
    rw [hd2] at g8
    obtain ⟨d, hd⟩ : ∃ d, r / p = d := ⟨_, rfl⟩
    rw [hd] at g8
    have hdp : d * p ≤ r ∧ r < (d + 1) * p := by
      rw [← hd]
      have e1 := Int.mul_ediv_add_emod r p
      have e2 := Int.emod_nonneg r (show p ≠ 0 by omega)
      have e3 := Int.emod_lt_of_pos r (show 0 < p by omega)
      rw [Int.mul_comm] at e1
      rw [Int.add_mul]
      omega
    have hd0 : 0 ≤ d := by rw [← hd]; exact Int.ediv_nonneg h0 (by omega)
    have hx1 : d / 2 * (p * 2) = (d / 2 * 2) * p := by grind
    have hx2 : (d / 2 * 2) * p ≤ d * p := Int.mul_le_mul_of_nonneg_right (by omega) (by omega)
    have hx0 : 0 ≤ (d / 2 * 2) * p := Int.mul_nonneg (by omega) (by omega)
    obtain ⟨x, hx⟩ : ∃ x, x = d / 2 * (p * 2) + p := ⟨_, rfl⟩
    have hO : bitsI .or .u64 (d / 2 * (p * 2)) p = some (.int .u64 x) := by
      rw [orC (by omega) (by omega), hor _ ⟨by omega, by omega⟩ (by omega) (by omega), hx, Int.add_comm]
    have hm64 := fun S => mul64_ok x x S (by omega) (by omega)
    have hle : x * x ≤ N ↔ x ≤ r := sq_le (by omega) h0 h1 h2
    generalize hX : x * x = X at *
    have hb : (0 : Int) < p := by omega
    simp (maxSteps := 2000000) only [wk0, wk1, wk2, wk3, keepA, keepT, Fr.keep, frzT, flatT, arrayAtA, ownT, extT, Fr.ev, Fr.put, Fr.get, initFr, buildSliceA, zeros, pkB, pkT, pkF, ownDst, Env.kd, ofConst, isConst, binA, intI, cmpI, shiftI, convertA, buildA, fillA, fillS, splice, AV.cells?, storeA, readAt, fieldAddrA, fieldA, indexA, extractA, unA, builtinA, appendA, lenA, sliceCells, isSliceK, makeInterfaceA, nilCheckA, eqA, AV.one, AV.plain, if_false, if_true, Nat.reduceEqDiff, reduceIte, Nat.reduceAdd, List.replicate, Nat.reduceLeDiff, Nat.reduceMul, Nat.reduceSub, Nat.reducePow, Int.reduceLT, Int.reduceLE, Int.reduceToNat, Int.reducePow, IntKind.bits, Int.reduceEq, Int.reduceMul, Int.reduceNeg, ne_eq, reduceCtorEq, escT, BEq.rfl, beq_self_eq_true, Int.reduceAdd, Int.reduceSub, Int.reduceMod, Int.reduceDiv, Nat.reduceMod, Nat.reduceDiv, Nat.reduceLT, cond_true, cond_false, gt_iff_lt, ge_iff_le, g9, g8, g7, g6, hb, hO, Ytimdnnlfkkkpbaa.D83, ty2, ty3, ty4, ty24, ty55, ty95, ty113]
    refine callThen_of (hm64 _) ?_
    by_cases q : x ≤ r
    · have hxd : x = d * p := by
        have e1 : (d / 2 * 2 + 1) * p < (d + 1) * p := by rw [Int.add_mul (d / 2 * 2)]; omega
        have e2 := Int.lt_of_mul_lt_mul_right e1 (by omega)
        have e3 : d / 2 * 2 + 1 = d := by omega
        rw [hx, hx1, ← e3, Int.add_mul (d / 2 * 2)]
        rw [show (d / 2 * 2 + 1) / 2 = d / 2 by omega]
        omega
      have hXN := hle.2 q
      by_cases u1 : X / 18446744073709551616 < N / 18446744073709551616
      · skip
        simp (maxSteps := 2000000) only [wk0, wk1, wk2, wk3, keepA, keepT, Fr.keep, frzT, flatT, arrayAtA, ownT, extT, Fr.ev, Fr.put, Fr.get, initFr, buildSliceA, zeros, pkB, pkT, pkF, ownDst, Env.kd, ofConst, isConst, binA, intI, cmpI, shiftI, convertA, buildA, fillA, fillS, splice, AV.cells?, storeA, readAt, fieldAddrA, fieldA, indexA, extractA, unA, builtinA, appendA, lenA, sliceCells, isSliceK, makeInterfaceA, nilCheckA, eqA, AV.one, AV.plain, if_false, if_true, Nat.reduceEqDiff, reduceIte, Nat.reduceAdd, List.replicate, Nat.reduceLeDiff, Nat.reduceMul, Nat.reduceSub, Nat.reducePow, Int.reduceLT, Int.reduceLE, Int.reduceToNat, Int.reducePow, IntKind.bits, Int.reduceEq, Int.reduceMul, Int.reduceNeg, ne_eq, reduceCtorEq, escT, BEq.rfl, beq_self_eq_true, Int.reduceAdd, Int.reduceSub, Int.reduceMod, Int.reduceDiv, Nat.reduceMod, Nat.reduceDiv, Nat.reduceLT, cond_true, cond_false, gt_iff_lt, ge_iff_le, g9, g8, g7, g6, u1, hnx, Int.lt_irrefl, Ytimdnnlfkkkpbaa.D83, ty2, ty3, ty4, ty24, ty55, ty95, ty113]
        exact hih _ _ (by omega) ⟨by omega, by simp [Fr.get], by simp [Fr.get, hxd, hd], by simp [Fr.get, g7], by simp [Fr.get, g6], rfl⟩
      · have u2 : X / 18446744073709551616 = N / 18446744073709551616 := by omega
        have u3 : X % 18446744073709551616 ≤ N % 18446744073709551616 := by omega
        simp (maxSteps := 2000000) only [wk0, wk1, wk2, wk3, keepA, keepT, Fr.keep, frzT, flatT, arrayAtA, ownT, extT, Fr.ev, Fr.put, Fr.get, initFr, buildSliceA, zeros, pkB, pkT, pkF, ownDst, Env.kd, ofConst, isConst, binA, intI, cmpI, shiftI, convertA, buildA, fillA, fillS, splice, AV.cells?, storeA, readAt, fieldAddrA, fieldA, indexA, extractA, unA, builtinA, appendA, lenA, sliceCells, isSliceK, makeInterfaceA, nilCheckA, eqA, AV.one, AV.plain, if_false, if_true, Nat.reduceEqDiff, reduceIte, Nat.reduceAdd, List.replicate, Nat.reduceLeDiff, Nat.reduceMul, Nat.reduceSub, Nat.reducePow, Int.reduceLT, Int.reduceLE, Int.reduceToNat, Int.reducePow, IntKind.bits, Int.reduceEq, Int.reduceMul, Int.reduceNeg, ne_eq, reduceCtorEq, escT, BEq.rfl, beq_self_eq_true, Int.reduceAdd, Int.reduceSub, Int.reduceMod, Int.reduceDiv, Nat.reduceMod, Nat.reduceDiv, Nat.reduceLT, cond_true, cond_false, gt_iff_lt, ge_iff_le, g9, g8, g7, g6, u1, u2, u3, hnx, Int.lt_irrefl, Ytimdnnlfkkkpbaa.D83, ty2, ty3, ty4, ty24, ty55, ty95, ty113]
        exact hih _ _ (by omega) ⟨by omega, by simp [Fr.get], by simp [Fr.get, hxd, hd], by simp [Fr.get, g7], by simp [Fr.get, g6], rfl⟩
    · have hxd : d / 2 * (p * 2) = d * p := by
        have e1 : d * p < (d / 2 * 2 + 1) * p := by rw [Int.add_mul (d / 2 * 2)]; omega
        have e2 := Int.lt_of_mul_lt_mul_right e1 (by omega)
        rw [hx1, show d / 2 * 2 = d by omega]
      have hXN : ¬ X ≤ N := fun h => q (hle.1 h)
      have u1 : ¬ X / 18446744073709551616 < N / 18446744073709551616 := by omega
      by_cases u2 : X / 18446744073709551616 = N / 18446744073709551616
      · have u3 : ¬ X % 18446744073709551616 ≤ N % 18446744073709551616 := by omega
        simp (maxSteps := 2000000) only [wk0, wk1, wk2, wk3, keepA, keepT, Fr.keep, frzT, flatT, arrayAtA, ownT, extT, Fr.ev, Fr.put, Fr.get, initFr, buildSliceA, zeros, pkB, pkT, pkF, ownDst, Env.kd, ofConst, isConst, binA, intI, cmpI, shiftI, convertA, buildA, fillA, fillS, splice, AV.cells?, storeA, readAt, fieldAddrA, fieldA, indexA, extractA, unA, builtinA, appendA, lenA, sliceCells, isSliceK, makeInterfaceA, nilCheckA, eqA, AV.one, AV.plain, if_false, if_true, Nat.reduceEqDiff, reduceIte, Nat.reduceAdd, List.replicate, Nat.reduceLeDiff, Nat.reduceMul, Nat.reduceSub, Nat.reducePow, Int.reduceLT, Int.reduceLE, Int.reduceToNat, Int.reducePow, IntKind.bits, Int.reduceEq, Int.reduceMul, Int.reduceNeg, ne_eq, reduceCtorEq, escT, BEq.rfl, beq_self_eq_true, Int.reduceAdd, Int.reduceSub, Int.reduceMod, Int.reduceDiv, Nat.reduceMod, Nat.reduceDiv, Nat.reduceLT, cond_true, cond_false, gt_iff_lt, ge_iff_le, g9, g8, g7, g6, u1, u2, u3, hnx, Int.lt_irrefl, Ytimdnnlfkkkpbaa.D83, ty2, ty3, ty4, ty24, ty55, ty95, ty113]
        exact hih _ _ (by omega) ⟨by omega, by simp [Fr.get], by simp [Fr.get, g8, hxd, hd], by simp [Fr.get, g7], by simp [Fr.get, g6], rfl⟩
      · skip
        simp (maxSteps := 2000000) only [wk0, wk1, wk2, wk3, keepA, keepT, Fr.keep, frzT, flatT, arrayAtA, ownT, extT, Fr.ev, Fr.put, Fr.get, initFr, buildSliceA, zeros, pkB, pkT, pkF, ownDst, Env.kd, ofConst, isConst, binA, intI, cmpI, shiftI, convertA, buildA, fillA, fillS, splice, AV.cells?, storeA, readAt, fieldAddrA, fieldA, indexA, extractA, unA, builtinA, appendA, lenA, sliceCells, isSliceK, makeInterfaceA, nilCheckA, eqA, AV.one, AV.plain, if_false, if_true, Nat.reduceEqDiff, reduceIte, Nat.reduceAdd, List.replicate, Nat.reduceLeDiff, Nat.reduceMul, Nat.reduceSub, Nat.reducePow, Int.reduceLT, Int.reduceLE, Int.reduceToNat, Int.reducePow, IntKind.bits, Int.reduceEq, Int.reduceMul, Int.reduceNeg, ne_eq, reduceCtorEq, escT, BEq.rfl, beq_self_eq_true, Int.reduceAdd, Int.reduceSub, Int.reduceMod, Int.reduceDiv, Nat.reduceMod, Nat.reduceDiv, Nat.reduceLT, cond_true, cond_false, gt_iff_lt, ge_iff_le, g9, g8, g7, g6, u1, u2, hnx, Int.lt_irrefl, Ytimdnnlfkkkpbaa.D83, ty2, ty3, ty4, ty24, ty55, ty95, ty113]
        exact hih _ _ (by omega) ⟨by omega, by simp [Fr.get], by simp [Fr.get, g8, hxd, hd], by simp [Fr.get, g7], by simp [Fr.get, g6], rfl⟩
end Go.Proofs.Ytimdnnlfkkkpbaa
