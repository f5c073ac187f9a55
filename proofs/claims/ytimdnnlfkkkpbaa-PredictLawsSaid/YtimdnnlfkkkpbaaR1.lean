/- Layer 7's theorem. -/
import Derived.Test.YtimdnnlfkkkpbaaV2
set_option linter.unusedSimpArgs false
set_option linter.unusedVariables false
set_option maxRecDepth 100000
set_option maxHeartbeats 4000000
namespace Go.Proofs.Ytimdnnlfkkkpbaa
noncomputable def c12 : Code := Try.f12.body.getD .skip
theorem b12 : Try.f12.body = some c12 := rfl
theorem d12 : fnOk Try.f12 c12 = true := by kernel_rfl
def D12 : Nat → List Tag
  | 6 => [.pure, .pure, .pure, .quiet, .pure, .pure, .pure, .quiet, .pure]
  | _ => []
theorem e12 : drawsOk D12 c12 = true := by kernel_rfl
noncomputable def c15 : Code := Try.f15.body.getD .skip
theorem b15 : Try.f15.body = some c15 := rfl
theorem d15 : fnOk Try.f15 c15 = true := by kernel_rfl
def D15 : Nat → List Tag := fun _ => []
theorem e15 : drawsOk D15 c15 = true := by kernel_rfl
theorem nums07_ok (l r : List Int) (S : Heap) (hl : l.length ≤ maxLen) : Call theE 12 [lstI l, lstI r] S (.bool (decide (l = r))) S := by
  have hml : maxLen ≤ 9223372036854775807 := by decide
  refine Call.ofC Try.func12 Ytimdnnlfkkkpbaa.b12 Ytimdnnlfkkkpbaa.d12 Ytimdnnlfkkkpbaa.e12 (by simp [Try.f12]) ?_
  dsimp only [Ytimdnnlfkkkpbaa.c12, Try.f12, Option.getD_some]
  by_cases h6 : (l.length : Int) = r.length
  · simp (maxSteps := 2000000) only [wk0, wk1, wk2, wk3, keepA, keepT, Fr.keep, frzT, flatT, arrayAtA, ownT, extT, Fr.ev, Fr.put, Fr.get, initFr, buildSliceA, zeros, pkB, pkT, pkF, ownDst, Env.kd, ofConst, isConst, binA, intI, cmpI, shiftI, convertA, buildA, fillA, fillS, splice, AV.cells?, storeA, readAt, fieldAddrA, fieldA, indexA, extractA, unA, builtinA, appendA, lenA, sliceCells, isSliceK, makeInterfaceA, nilCheckA, eqA, AV.one, AV.plain, if_false, if_true, Nat.reduceEqDiff, reduceIte, Nat.reduceAdd, List.replicate, Nat.reduceLeDiff, Nat.reduceMul, Nat.reduceSub, Nat.reducePow, Int.reduceLT, Int.reduceLE, Int.reduceToNat, Int.reducePow, IntKind.bits, Int.reduceEq, Int.reduceMul, Int.reduceNeg, ne_eq, reduceCtorEq, escT, BEq.rfl, beq_self_eq_true, Int.reduceAdd, Int.reduceSub, Int.reduceMod, Int.reduceDiv, Nat.reduceMod, Nat.reduceDiv, Nat.reduceLT, cond_true, cond_false, gt_iff_lt, ge_iff_le, lstI, h6, Ytimdnnlfkkkpbaa.D12, ty2, ty3, ty4, ty22]
    refine loopC_ind (fun m fr H => ∃ i : Nat, i + m = l.length ∧ l.take i = r.take i ∧ fr.get 5 = .int .i64 i ∧ fr.get 0 = lstI l ∧ fr.get 1 = lstI r ∧ H = S) ?_ (n := l.length) ⟨0, by omega, by simp, rfl, rfl, rfl, rfl⟩
    rintro m fr H ⟨i, him, hall, g5, g0, g1, rfl⟩ ih
    by_cases hi : (i : Int) < l.length
    · have hin : i < l.length := by omega
      have hir : i < r.length := by omega
      have hi' : (i : Int) < r.length := by omega
      have k1 : (0 : Int) ≤ i := by omega
      have wi : IntKind.i64.wrap ((i : Int) + 1) = ((i + 1 : Nat) : Int) := wrapI (by omega)
      have gl := get_lstI hin
      have gr := get_lstI hir
      by_cases hr : l[i] = r[i]
      · simp (maxSteps := 2000000) only [wk0, wk1, wk2, wk3, keepA, keepT, Fr.keep, frzT, flatT, arrayAtA, ownT, extT, Fr.ev, Fr.put, Fr.get, initFr, buildSliceA, zeros, pkB, pkT, pkF, ownDst, Env.kd, ofConst, isConst, binA, intI, cmpI, shiftI, convertA, buildA, fillA, fillS, splice, AV.cells?, storeA, readAt, fieldAddrA, fieldA, indexA, extractA, unA, builtinA, appendA, lenA, sliceCells, isSliceK, makeInterfaceA, nilCheckA, eqA, AV.one, AV.plain, if_false, if_true, Nat.reduceEqDiff, reduceIte, Nat.reduceAdd, List.replicate, Nat.reduceLeDiff, Nat.reduceMul, Nat.reduceSub, Nat.reducePow, Int.reduceLT, Int.reduceLE, Int.reduceToNat, Int.reducePow, IntKind.bits, Int.reduceEq, Int.reduceMul, Int.reduceNeg, ne_eq, reduceCtorEq, escT, BEq.rfl, beq_self_eq_true, Int.reduceAdd, Int.reduceSub, Int.reduceMod, Int.reduceDiv, Nat.reduceMod, Nat.reduceDiv, Nat.reduceLT, cond_true, cond_false, gt_iff_lt, ge_iff_le, lstI, g5, g0, g1, hi, hi', k1, Int.toNat_natCast, Nat.mul_one, gl, gr, hr, wi, Ytimdnnlfkkkpbaa.D12, ty2, ty3, ty4, ty22]
        refine ih (m - 1) _ _ (by omega) ⟨i + 1, by omega, ?_, by simp [Fr.get], by simp [Fr.get, g0, lstI], by simp [Fr.get, g1, lstI], rfl⟩
        rw [List.take_succ_eq_append_getElem hin, List.take_succ_eq_append_getElem hir, hall, hr]
      · rw [decide_eq_false (fun h => hr (by simp [h]))]
        simp (maxSteps := 2000000) only [wk0, wk1, wk2, wk3, keepA, keepT, Fr.keep, frzT, flatT, arrayAtA, ownT, extT, Fr.ev, Fr.put, Fr.get, initFr, buildSliceA, zeros, pkB, pkT, pkF, ownDst, Env.kd, ofConst, isConst, binA, intI, cmpI, shiftI, convertA, buildA, fillA, fillS, splice, AV.cells?, storeA, readAt, fieldAddrA, fieldA, indexA, extractA, unA, builtinA, appendA, lenA, sliceCells, isSliceK, makeInterfaceA, nilCheckA, eqA, AV.one, AV.plain, if_false, if_true, Nat.reduceEqDiff, reduceIte, Nat.reduceAdd, List.replicate, Nat.reduceLeDiff, Nat.reduceMul, Nat.reduceSub, Nat.reducePow, Int.reduceLT, Int.reduceLE, Int.reduceToNat, Int.reducePow, IntKind.bits, Int.reduceEq, Int.reduceMul, Int.reduceNeg, ne_eq, reduceCtorEq, escT, BEq.rfl, beq_self_eq_true, Int.reduceAdd, Int.reduceSub, Int.reduceMod, Int.reduceDiv, Nat.reduceMod, Nat.reduceDiv, Nat.reduceLT, cond_true, cond_false, gt_iff_lt, ge_iff_le, lstI, g5, g0, g1, hi, hi', k1, Int.toNat_natCast, Nat.mul_one, gl, gr, hr, wi, Ytimdnnlfkkkpbaa.D12, ty2, ty3, ty4, ty22]
        exact retB_plain (by simp [nmd_bool]) rfl (by simp)
    · obtain rfl : i = l.length := by omega
      rw [List.take_length, List.take_of_length_le (by omega)] at hall
      rw [decide_eq_true hall]
      simp (maxSteps := 2000000) only [wk0, wk1, wk2, wk3, keepA, keepT, Fr.keep, frzT, flatT, arrayAtA, ownT, extT, Fr.ev, Fr.put, Fr.get, initFr, buildSliceA, zeros, pkB, pkT, pkF, ownDst, Env.kd, ofConst, isConst, binA, intI, cmpI, shiftI, convertA, buildA, fillA, fillS, splice, AV.cells?, storeA, readAt, fieldAddrA, fieldA, indexA, extractA, unA, builtinA, appendA, lenA, sliceCells, isSliceK, makeInterfaceA, nilCheckA, eqA, AV.one, AV.plain, if_false, if_true, Nat.reduceEqDiff, reduceIte, Nat.reduceAdd, List.replicate, Nat.reduceLeDiff, Nat.reduceMul, Nat.reduceSub, Nat.reducePow, Int.reduceLT, Int.reduceLE, Int.reduceToNat, Int.reducePow, IntKind.bits, Int.reduceEq, Int.reduceMul, Int.reduceNeg, ne_eq, reduceCtorEq, escT, BEq.rfl, beq_self_eq_true, Int.reduceAdd, Int.reduceSub, Int.reduceMod, Int.reduceDiv, Nat.reduceMod, Nat.reduceDiv, Nat.reduceLT, cond_true, cond_false, gt_iff_lt, ge_iff_le, lstI, g5, g0, g1, hi, Ytimdnnlfkkkpbaa.D12, ty2, ty3, ty4, ty22]
      exact retB_plain (by simp [nmd_bool]) rfl (by simp)
  · rw [decide_eq_false (fun h => h6 (by rw [h]))]
    simp (maxSteps := 2000000) only [wk0, wk1, wk2, wk3, keepA, keepT, Fr.keep, frzT, flatT, arrayAtA, ownT, extT, Fr.ev, Fr.put, Fr.get, initFr, buildSliceA, zeros, pkB, pkT, pkF, ownDst, Env.kd, ofConst, isConst, binA, intI, cmpI, shiftI, convertA, buildA, fillA, fillS, splice, AV.cells?, storeA, readAt, fieldAddrA, fieldA, indexA, extractA, unA, builtinA, appendA, lenA, sliceCells, isSliceK, makeInterfaceA, nilCheckA, eqA, AV.one, AV.plain, if_false, if_true, Nat.reduceEqDiff, reduceIte, Nat.reduceAdd, List.replicate, Nat.reduceLeDiff, Nat.reduceMul, Nat.reduceSub, Nat.reducePow, Int.reduceLT, Int.reduceLE, Int.reduceToNat, Int.reducePow, IntKind.bits, Int.reduceEq, Int.reduceMul, Int.reduceNeg, ne_eq, reduceCtorEq, escT, BEq.rfl, beq_self_eq_true, Int.reduceAdd, Int.reduceSub, Int.reduceMod, Int.reduceDiv, Nat.reduceMod, Nat.reduceDiv, Nat.reduceLT, cond_true, cond_false, gt_iff_lt, ge_iff_le, lstI, h6, Ytimdnnlfkkkpbaa.D12, ty2, ty3, ty4, ty22]
    exact retB_plain (by simp [nmd_bool]) rfl (by simp)
theorem sure07_ok (S : Heap) : Call theE 15 [] S (.bool true) S := by
  have ina : ∀ x : Int, x ∈ [(1572864 : Int), 2621440, 2097152, 4, 8, 536870912, 1, -9] → inI x := by
    intro x hx; simp at hx; unfold inI; omega
  have c1 : ∀ S, Call theE 10 [.lst [.int .i64 1572864] 1, .lst [.int .i64 2621440] 1] S (.tup [.lst [.int .i64 4194304] 1, .bool false, .nili]) S := fun S => by
    have := vecAdd_ok [1572864] [2621440] S (by decide) rfl (by simp [inI]) (by simp [inI])
    rw [show addL [1572864] [2621440] = [4194304] by decide, show addO [1572864] [2621440] = false by decide] at this
    exact this
  have c2 : ∀ S, Call theE 58 [.lst [.int .i64 2097152] 1, .int .i64 1572864] S (.tup [.lst [.int .i64 3145728] 1, .bool false, .nili]) S := fun S => by
    have := scale_ok [2097152] 1572864 S (by decide) (by simp [inI]) (by unfold inI; omega)
    rw [show sclL [2097152] 1572864 = [3145728] by decide, show sclO [2097152] 1572864 = false by decide] at this
    exact this
  have c3 : ∀ S, Call theE 13 [.lst [.lst [.int .i64 4] 1, .lst [.int .i64 8] 1] 2, .lst [.int .i64 536870912, .int .i64 536870912] 2] S (.tup [.lst [.int .i64 6] 1, .bool false, .nili]) S := fun S => by
    have := join_ok [[4], [8]] [536870912, 536870912] 1 S (by decide) rfl (by decide) (by simp) (by simp [inI]) (by simp [inI])
    rw [show joinL [[4], [8]] [536870912, 536870912] 1 = [6] by decide, show joinO [[4], [8]] [536870912, 536870912] 1 = false by decide] at this
    exact this
  have c4 : ∀ (x : Int) S, Call theE 12 [.lst [.int .i64 x] 1, .lst [.int .i64 x] 1] S (.bool true) S := fun x S => by
    have := nums07_ok [x] [x] S (by unfold maxLen; simp)
    rw [decide_eq_true rfl] at this
    exact this
  have c5 : ∀ S, Call theE 14 [.lst [.int .i64 1, .int .i64 (-9)] 2] S (.int .i64 9) S := fun S => by
    have := size_of [1, -9] S (by decide) (by simp [inI])
    rw [show sizeL [1, -9] = 9 by decide] at this
    exact this
  refine Call.ofC Try.func15 Ytimdnnlfkkkpbaa.b15 Ytimdnnlfkkkpbaa.d15 Ytimdnnlfkkkpbaa.e15 (by simp [Try.f15]) ?_
  dsimp only [Ytimdnnlfkkkpbaa.c15, Try.f15, Option.getD_some]
  simp (maxSteps := 2000000) only [wk0, wk1, wk2, wk3, keepA, keepT, Fr.keep, frzT, flatT, arrayAtA, ownT, extT, Fr.ev, Fr.put, Fr.get, initFr, buildSliceA, zeros, pkB, pkT, pkF, ownDst, Env.kd, ofConst, isConst, binA, intI, cmpI, shiftI, convertA, buildA, fillA, fillS, splice, AV.cells?, storeA, readAt, fieldAddrA, fieldA, indexA, extractA, unA, builtinA, appendA, lenA, sliceCells, isSliceK, makeInterfaceA, nilCheckA, eqA, AV.one, AV.plain, if_false, if_true, Nat.reduceEqDiff, reduceIte, Nat.reduceAdd, List.replicate, Nat.reduceLeDiff, Nat.reduceMul, Nat.reduceSub, Nat.reducePow, Int.reduceLT, Int.reduceLE, Int.reduceToNat, Int.reducePow, IntKind.bits, Int.reduceEq, Int.reduceMul, Int.reduceNeg, ne_eq, reduceCtorEq, escT, BEq.rfl, beq_self_eq_true, Int.reduceAdd, Int.reduceSub, Int.reduceMod, Int.reduceDiv, Nat.reduceMod, Nat.reduceDiv, Nat.reduceLT, cond_true, cond_false, gt_iff_lt, ge_iff_le, Ytimdnnlfkkkpbaa.D15, ty1, ty2, ty4, ty22, ty24, ty29]
  refine callThen_of (c1 _) ?_
  simp (maxSteps := 2000000) only [wk0, wk1, wk2, wk3, keepA, keepT, Fr.keep, frzT, flatT, arrayAtA, ownT, extT, Fr.ev, Fr.put, Fr.get, initFr, buildSliceA, zeros, pkB, pkT, pkF, ownDst, Env.kd, ofConst, isConst, binA, intI, cmpI, shiftI, convertA, buildA, fillA, fillS, splice, AV.cells?, storeA, readAt, fieldAddrA, fieldA, indexA, extractA, unA, builtinA, appendA, lenA, sliceCells, isSliceK, makeInterfaceA, nilCheckA, eqA, AV.one, AV.plain, if_false, if_true, Nat.reduceEqDiff, reduceIte, Nat.reduceAdd, List.replicate, Nat.reduceLeDiff, Nat.reduceMul, Nat.reduceSub, Nat.reducePow, Int.reduceLT, Int.reduceLE, Int.reduceToNat, Int.reducePow, IntKind.bits, Int.reduceEq, Int.reduceMul, Int.reduceNeg, ne_eq, reduceCtorEq, escT, BEq.rfl, beq_self_eq_true, Int.reduceAdd, Int.reduceSub, Int.reduceMod, Int.reduceDiv, Nat.reduceMod, Nat.reduceDiv, Nat.reduceLT, cond_true, cond_false, gt_iff_lt, ge_iff_le, Ytimdnnlfkkkpbaa.D15, ty1, ty2, ty4, ty22, ty24, ty29]
  refine callThen_of (c2 _) ?_
  simp (maxSteps := 2000000) only [wk0, wk1, wk2, wk3, keepA, keepT, Fr.keep, frzT, flatT, arrayAtA, ownT, extT, Fr.ev, Fr.put, Fr.get, initFr, buildSliceA, zeros, pkB, pkT, pkF, ownDst, Env.kd, ofConst, isConst, binA, intI, cmpI, shiftI, convertA, buildA, fillA, fillS, splice, AV.cells?, storeA, readAt, fieldAddrA, fieldA, indexA, extractA, unA, builtinA, appendA, lenA, sliceCells, isSliceK, makeInterfaceA, nilCheckA, eqA, AV.one, AV.plain, if_false, if_true, Nat.reduceEqDiff, reduceIte, Nat.reduceAdd, List.replicate, Nat.reduceLeDiff, Nat.reduceMul, Nat.reduceSub, Nat.reducePow, Int.reduceLT, Int.reduceLE, Int.reduceToNat, Int.reducePow, IntKind.bits, Int.reduceEq, Int.reduceMul, Int.reduceNeg, ne_eq, reduceCtorEq, escT, BEq.rfl, beq_self_eq_true, Int.reduceAdd, Int.reduceSub, Int.reduceMod, Int.reduceDiv, Nat.reduceMod, Nat.reduceDiv, Nat.reduceLT, cond_true, cond_false, gt_iff_lt, ge_iff_le, Ytimdnnlfkkkpbaa.D15, ty1, ty2, ty4, ty22, ty24, ty29]
  refine callThen_of (c3 _) ?_
  simp (maxSteps := 2000000) only [wk0, wk1, wk2, wk3, keepA, keepT, Fr.keep, frzT, flatT, arrayAtA, ownT, extT, Fr.ev, Fr.put, Fr.get, initFr, buildSliceA, zeros, pkB, pkT, pkF, ownDst, Env.kd, ofConst, isConst, binA, intI, cmpI, shiftI, convertA, buildA, fillA, fillS, splice, AV.cells?, storeA, readAt, fieldAddrA, fieldA, indexA, extractA, unA, builtinA, appendA, lenA, sliceCells, isSliceK, makeInterfaceA, nilCheckA, eqA, AV.one, AV.plain, if_false, if_true, Nat.reduceEqDiff, reduceIte, Nat.reduceAdd, List.replicate, Nat.reduceLeDiff, Nat.reduceMul, Nat.reduceSub, Nat.reducePow, Int.reduceLT, Int.reduceLE, Int.reduceToNat, Int.reducePow, IntKind.bits, Int.reduceEq, Int.reduceMul, Int.reduceNeg, ne_eq, reduceCtorEq, escT, BEq.rfl, beq_self_eq_true, Int.reduceAdd, Int.reduceSub, Int.reduceMod, Int.reduceDiv, Nat.reduceMod, Nat.reduceDiv, Nat.reduceLT, cond_true, cond_false, gt_iff_lt, ge_iff_le, Ytimdnnlfkkkpbaa.D15, ty1, ty2, ty4, ty22, ty24, ty29]
  refine callThen_of (c4 _ _) ?_
  simp (maxSteps := 2000000) only [wk0, wk1, wk2, wk3, keepA, keepT, Fr.keep, frzT, flatT, arrayAtA, ownT, extT, Fr.ev, Fr.put, Fr.get, initFr, buildSliceA, zeros, pkB, pkT, pkF, ownDst, Env.kd, ofConst, isConst, binA, intI, cmpI, shiftI, convertA, buildA, fillA, fillS, splice, AV.cells?, storeA, readAt, fieldAddrA, fieldA, indexA, extractA, unA, builtinA, appendA, lenA, sliceCells, isSliceK, makeInterfaceA, nilCheckA, eqA, AV.one, AV.plain, if_false, if_true, Nat.reduceEqDiff, reduceIte, Nat.reduceAdd, List.replicate, Nat.reduceLeDiff, Nat.reduceMul, Nat.reduceSub, Nat.reducePow, Int.reduceLT, Int.reduceLE, Int.reduceToNat, Int.reducePow, IntKind.bits, Int.reduceEq, Int.reduceMul, Int.reduceNeg, ne_eq, reduceCtorEq, escT, BEq.rfl, beq_self_eq_true, Int.reduceAdd, Int.reduceSub, Int.reduceMod, Int.reduceDiv, Nat.reduceMod, Nat.reduceDiv, Nat.reduceLT, cond_true, cond_false, gt_iff_lt, ge_iff_le, Ytimdnnlfkkkpbaa.D15, ty1, ty2, ty4, ty22, ty24, ty29]
  refine callThen_of (c4 _ _) ?_
  simp (maxSteps := 2000000) only [wk0, wk1, wk2, wk3, keepA, keepT, Fr.keep, frzT, flatT, arrayAtA, ownT, extT, Fr.ev, Fr.put, Fr.get, initFr, buildSliceA, zeros, pkB, pkT, pkF, ownDst, Env.kd, ofConst, isConst, binA, intI, cmpI, shiftI, convertA, buildA, fillA, fillS, splice, AV.cells?, storeA, readAt, fieldAddrA, fieldA, indexA, extractA, unA, builtinA, appendA, lenA, sliceCells, isSliceK, makeInterfaceA, nilCheckA, eqA, AV.one, AV.plain, if_false, if_true, Nat.reduceEqDiff, reduceIte, Nat.reduceAdd, List.replicate, Nat.reduceLeDiff, Nat.reduceMul, Nat.reduceSub, Nat.reducePow, Int.reduceLT, Int.reduceLE, Int.reduceToNat, Int.reducePow, IntKind.bits, Int.reduceEq, Int.reduceMul, Int.reduceNeg, ne_eq, reduceCtorEq, escT, BEq.rfl, beq_self_eq_true, Int.reduceAdd, Int.reduceSub, Int.reduceMod, Int.reduceDiv, Nat.reduceMod, Nat.reduceDiv, Nat.reduceLT, cond_true, cond_false, gt_iff_lt, ge_iff_le, Ytimdnnlfkkkpbaa.D15, ty1, ty2, ty4, ty22, ty24, ty29]
  refine callThen_of (c4 _ _) ?_
  simp (maxSteps := 2000000) only [wk0, wk1, wk2, wk3, keepA, keepT, Fr.keep, frzT, flatT, arrayAtA, ownT, extT, Fr.ev, Fr.put, Fr.get, initFr, buildSliceA, zeros, pkB, pkT, pkF, ownDst, Env.kd, ofConst, isConst, binA, intI, cmpI, shiftI, convertA, buildA, fillA, fillS, splice, AV.cells?, storeA, readAt, fieldAddrA, fieldA, indexA, extractA, unA, builtinA, appendA, lenA, sliceCells, isSliceK, makeInterfaceA, nilCheckA, eqA, AV.one, AV.plain, if_false, if_true, Nat.reduceEqDiff, reduceIte, Nat.reduceAdd, List.replicate, Nat.reduceLeDiff, Nat.reduceMul, Nat.reduceSub, Nat.reducePow, Int.reduceLT, Int.reduceLE, Int.reduceToNat, Int.reducePow, IntKind.bits, Int.reduceEq, Int.reduceMul, Int.reduceNeg, ne_eq, reduceCtorEq, escT, BEq.rfl, beq_self_eq_true, Int.reduceAdd, Int.reduceSub, Int.reduceMod, Int.reduceDiv, Nat.reduceMod, Nat.reduceDiv, Nat.reduceLT, cond_true, cond_false, gt_iff_lt, ge_iff_le, Ytimdnnlfkkkpbaa.D15, ty1, ty2, ty4, ty22, ty24, ty29]
  refine callThen_of (c5 _) ?_
  simp (maxSteps := 2000000) only [wk0, wk1, wk2, wk3, keepA, keepT, Fr.keep, frzT, flatT, arrayAtA, ownT, extT, Fr.ev, Fr.put, Fr.get, initFr, buildSliceA, zeros, pkB, pkT, pkF, ownDst, Env.kd, ofConst, isConst, binA, intI, cmpI, shiftI, convertA, buildA, fillA, fillS, splice, AV.cells?, storeA, readAt, fieldAddrA, fieldA, indexA, extractA, unA, builtinA, appendA, lenA, sliceCells, isSliceK, makeInterfaceA, nilCheckA, eqA, AV.one, AV.plain, if_false, if_true, Nat.reduceEqDiff, reduceIte, Nat.reduceAdd, List.replicate, Nat.reduceLeDiff, Nat.reduceMul, Nat.reduceSub, Nat.reducePow, Int.reduceLT, Int.reduceLE, Int.reduceToNat, Int.reducePow, IntKind.bits, Int.reduceEq, Int.reduceMul, Int.reduceNeg, ne_eq, reduceCtorEq, escT, BEq.rfl, beq_self_eq_true, Int.reduceAdd, Int.reduceSub, Int.reduceMod, Int.reduceDiv, Nat.reduceMod, Nat.reduceDiv, Nat.reduceLT, cond_true, cond_false, gt_iff_lt, ge_iff_le, Ytimdnnlfkkkpbaa.D15, ty1, ty2, ty4, ty22, ty24, ty29]
  exact retB_plain (by simp [nmd_bool]) rfl (by simp)
end Go.Proofs.Ytimdnnlfkkkpbaa
