/- vec: its errors. -/
import Derived.Test.YtimdnnlfkkkpbaaDoorV2
set_option linter.unusedSimpArgs false
set_option linter.unusedVariables false
set_option maxRecDepth 100000
set_option maxHeartbeats 4000000
namespace Go.Proofs.YtimdnnlfkkkpbaaDoor
/-- May these be joined? -/
def mayJ (l : List (List Int)) (ch : List Int) : Prop := 1 ≤ l.length ∧ l.length ≤ 4 ∧ l.length = ch.length ∧ (l.getD 0 []).length ≤ 6 ∧ ∀ r ∈ l, r.length = (l.getD 0 []).length
theorem join_bad (l : List (List Int)) (ch : List Int) (S : Heap) (h : ¬ mayJ l ch) : Call theE 9 [lstL l, lstI ch] S (.tup [.nils, .bool false, errA 1]) S := by
  unfold mayJ at h
  refine Call.ofC Tryd.func9 YtimdnnlfkkkpbaaDoor.b9 YtimdnnlfkkkpbaaDoor.d9 YtimdnnlfkkkpbaaDoor.e9 (by simp [Tryd.f9]) ?_
  dsimp only [YtimdnnlfkkkpbaaDoor.c9, Tryd.f9, Option.getD_some]
  by_cases q1 : (l.length : Int) < 1
  · simp (maxSteps := 2000000) only [wk0, wk1, wk2, wk3, keepA, keepT, Fr.keep, frzT, flatT, arrayAtA, ownT, extT, Fr.ev, Fr.put, Fr.get, initFr, buildSliceA, zeros, pkB, pkT, pkF, ownDst, Env.kd, ofConst, isConst, binA, intI, cmpI, shiftI, convertA, buildA, fillA, fillS, splice, AV.cells?, storeA, readAt, fieldAddrA, fieldA, indexA, extractA, unA, builtinA, appendA, lenA, sliceCells, isSliceK, makeInterfaceA, nilCheckA, eqA, AV.one, AV.plain, if_false, if_true, Nat.reduceEqDiff, reduceIte, Nat.reduceAdd, List.replicate, Nat.reduceLeDiff, Nat.reduceMul, Nat.reduceSub, Nat.reducePow, Int.reduceLT, Int.reduceLE, Int.reduceToNat, Int.reducePow, IntKind.bits, Int.reduceEq, Int.reduceMul, Int.reduceNeg, ne_eq, reduceCtorEq, escT, BEq.rfl, beq_self_eq_true, Int.reduceAdd, Int.reduceSub, Int.reduceMod, Int.reduceDiv, Nat.reduceMod, Nat.reduceDiv, Nat.reduceLT, cond_true, cond_false, gt_iff_lt, ge_iff_le, lstI, lstL, q1, YtimdnnlfkkkpbaaDoor.D9, ty3, ty4, ty22, ty23, ty25, ty85, ty87]
    exact retB_plain (by simp [nmd_nils, nmd_bool, nmd_ifc, nmd_int]) rfl (by simp)
  · by_cases q2 : (4 : Int) < l.length
    · simp (maxSteps := 2000000) only [wk0, wk1, wk2, wk3, keepA, keepT, Fr.keep, frzT, flatT, arrayAtA, ownT, extT, Fr.ev, Fr.put, Fr.get, initFr, buildSliceA, zeros, pkB, pkT, pkF, ownDst, Env.kd, ofConst, isConst, binA, intI, cmpI, shiftI, convertA, buildA, fillA, fillS, splice, AV.cells?, storeA, readAt, fieldAddrA, fieldA, indexA, extractA, unA, builtinA, appendA, lenA, sliceCells, isSliceK, makeInterfaceA, nilCheckA, eqA, AV.one, AV.plain, if_false, if_true, Nat.reduceEqDiff, reduceIte, Nat.reduceAdd, List.replicate, Nat.reduceLeDiff, Nat.reduceMul, Nat.reduceSub, Nat.reducePow, Int.reduceLT, Int.reduceLE, Int.reduceToNat, Int.reducePow, IntKind.bits, Int.reduceEq, Int.reduceMul, Int.reduceNeg, ne_eq, reduceCtorEq, escT, BEq.rfl, beq_self_eq_true, Int.reduceAdd, Int.reduceSub, Int.reduceMod, Int.reduceDiv, Nat.reduceMod, Nat.reduceDiv, Nat.reduceLT, cond_true, cond_false, gt_iff_lt, ge_iff_le, lstI, lstL, q1, q2, YtimdnnlfkkkpbaaDoor.D9, ty3, ty4, ty22, ty23, ty25, ty85, ty87]
      exact retB_plain (by simp [nmd_nils, nmd_bool, nmd_ifc, nmd_int]) rfl (by simp)
    · by_cases q3 : (l.length : Int) = ch.length
      · have hl0 : 0 < l.length := by omega
        have e0 : l.getD 0 [] = l[0] := by simp [List.getD_eq_getElem?_getD, List.getElem?_eq_getElem hl0]
        rw [e0] at h
        have hz := fun S => sizedL_ok (l[0]) l S (by omega)
        rw [decide_eq_false (fun h2 => h ⟨by omega, by omega, by omega, h2.1, h2.2⟩)] at hz
        have gl := get_lstL hl0
        have q4 : (0 : Int) < l.length := by omega
        have q5 : (0 : Int) < ch.length := by omega
        have q6 : ¬ (ch.length : Int) < 1 := by omega
        have q7 : ¬ (4 : Int) < ch.length := by omega
        simp only [lstI, lstL] at hz
        simp (maxSteps := 2000000) only [wk0, wk1, wk2, wk3, keepA, keepT, Fr.keep, frzT, flatT, arrayAtA, ownT, extT, Fr.ev, Fr.put, Fr.get, initFr, buildSliceA, zeros, pkB, pkT, pkF, ownDst, Env.kd, ofConst, isConst, binA, intI, cmpI, shiftI, convertA, buildA, fillA, fillS, splice, AV.cells?, storeA, readAt, fieldAddrA, fieldA, indexA, extractA, unA, builtinA, appendA, lenA, sliceCells, isSliceK, makeInterfaceA, nilCheckA, eqA, AV.one, AV.plain, if_false, if_true, Nat.reduceEqDiff, reduceIte, Nat.reduceAdd, List.replicate, Nat.reduceLeDiff, Nat.reduceMul, Nat.reduceSub, Nat.reducePow, Int.reduceLT, Int.reduceLE, Int.reduceToNat, Int.reducePow, IntKind.bits, Int.reduceEq, Int.reduceMul, Int.reduceNeg, ne_eq, reduceCtorEq, escT, BEq.rfl, beq_self_eq_true, Int.reduceAdd, Int.reduceSub, Int.reduceMod, Int.reduceDiv, Nat.reduceMod, Nat.reduceDiv, Nat.reduceLT, cond_true, cond_false, gt_iff_lt, ge_iff_le, lstI, lstL, q1, q2, q3, q4, q5, q6, q7, gl, YtimdnnlfkkkpbaaDoor.D9, ty3, ty4, ty22, ty23, ty25, ty85, ty87]
        refine callThen_of (hz _) ?_
        simp (maxSteps := 2000000) only [wk0, wk1, wk2, wk3, keepA, keepT, Fr.keep, frzT, flatT, arrayAtA, ownT, extT, Fr.ev, Fr.put, Fr.get, initFr, buildSliceA, zeros, pkB, pkT, pkF, ownDst, Env.kd, ofConst, isConst, binA, intI, cmpI, shiftI, convertA, buildA, fillA, fillS, splice, AV.cells?, storeA, readAt, fieldAddrA, fieldA, indexA, extractA, unA, builtinA, appendA, lenA, sliceCells, isSliceK, makeInterfaceA, nilCheckA, eqA, AV.one, AV.plain, if_false, if_true, Nat.reduceEqDiff, reduceIte, Nat.reduceAdd, List.replicate, Nat.reduceLeDiff, Nat.reduceMul, Nat.reduceSub, Nat.reducePow, Int.reduceLT, Int.reduceLE, Int.reduceToNat, Int.reducePow, IntKind.bits, Int.reduceEq, Int.reduceMul, Int.reduceNeg, ne_eq, reduceCtorEq, escT, BEq.rfl, beq_self_eq_true, Int.reduceAdd, Int.reduceSub, Int.reduceMod, Int.reduceDiv, Nat.reduceMod, Nat.reduceDiv, Nat.reduceLT, cond_true, cond_false, gt_iff_lt, ge_iff_le, lstI, lstL, YtimdnnlfkkkpbaaDoor.D9, ty3, ty4, ty22, ty23, ty25, ty85, ty87]
        exact retB_plain (by simp [nmd_nils, nmd_bool, nmd_ifc, nmd_int]) rfl (by simp)
      · simp (maxSteps := 2000000) only [wk0, wk1, wk2, wk3, keepA, keepT, Fr.keep, frzT, flatT, arrayAtA, ownT, extT, Fr.ev, Fr.put, Fr.get, initFr, buildSliceA, zeros, pkB, pkT, pkF, ownDst, Env.kd, ofConst, isConst, binA, intI, cmpI, shiftI, convertA, buildA, fillA, fillS, splice, AV.cells?, storeA, readAt, fieldAddrA, fieldA, indexA, extractA, unA, builtinA, appendA, lenA, sliceCells, isSliceK, makeInterfaceA, nilCheckA, eqA, AV.one, AV.plain, if_false, if_true, Nat.reduceEqDiff, reduceIte, Nat.reduceAdd, List.replicate, Nat.reduceLeDiff, Nat.reduceMul, Nat.reduceSub, Nat.reducePow, Int.reduceLT, Int.reduceLE, Int.reduceToNat, Int.reducePow, IntKind.bits, Int.reduceEq, Int.reduceMul, Int.reduceNeg, ne_eq, reduceCtorEq, escT, BEq.rfl, beq_self_eq_true, Int.reduceAdd, Int.reduceSub, Int.reduceMod, Int.reduceDiv, Nat.reduceMod, Nat.reduceDiv, Nat.reduceLT, cond_true, cond_false, gt_iff_lt, ge_iff_le, lstI, lstL, q1, q2, q3, YtimdnnlfkkkpbaaDoor.D9, ty3, ty4, ty22, ty23, ty25, ty85, ty87]
        exact retB_plain (by simp [nmd_nils, nmd_bool, nmd_ifc, nmd_int]) rfl (by simp)
end Go.Proofs.YtimdnnlfkkkpbaaDoor
