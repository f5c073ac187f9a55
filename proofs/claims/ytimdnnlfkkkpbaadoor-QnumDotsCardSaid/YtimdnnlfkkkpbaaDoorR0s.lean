/- What layer 3's statements are sure of. -/
import Derived.Test.YtimdnnlfkkkpbaaDoorQ8
set_option linter.unusedSimpArgs false
set_option linter.unusedVariables false
set_option maxRecDepth 100000
set_option maxHeartbeats 4000000
namespace Go.Proofs.YtimdnnlfkkkpbaaDoor
noncomputable def c53 : Code := Tryd.f53.body.getD .skip
theorem b53 : Tryd.f53.body = some c53 := rfl
theorem d53 : fnOk Tryd.f53 c53 = true := by kernel_rfl
def D53 : Nat → List Tag := fun _ => []
theorem e53 : drawsOk D53 c53 = true := by kernel_rfl
theorem sure3_ok (S : Heap) : Call theE 53 [] S (.bool true) S := by
  have m : ∀ S, Call theE 55 [.int .i64 3, .int .i64 1, .int .i64 1] S (.tup [.int .i64 2, .bool false, .nili]) S := fun S => by
    have := mul_ok 3 1 1 S (by decide) (by unfold inI; decide) (by unfold inI; decide)
    have e1 : bndI (rnd (3 * 1) (2 ^ 1)) = 2 := by decide
    have e2 : ovrB (rnd (3 * 1) (2 ^ 1)) = false := by decide
    rw [e1, e2] at this
    exact this
  have d : ∀ S, Call theE 87 [.int .i64 1, .int .i64 2, .int .i64 0] S (.tup [.int .i64 0, .bool false, .nili]) S := fun S => by
    obtain ⟨v, hv, this⟩ := div_ok 1 2 0 S (by unfold inI; decide) (by unfold inI; decide) (by decide) (by decide)
    have e0 : v = 0 := by rw [hv]; decide
    have e1 : bndI v = 0 := by rw [e0]; decide
    have e2 : ovrB v = false := by rw [e0]; decide
    rw [e1, e2] at this
    exact this
  have a : ∀ S, Call theE 61 [.int .i64 4611686018427387903, .int .i64 1] S (.tup [.int .i64 4611686018427387903, .bool true]) S := fun S => by
    have := add_ok 4611686018427387903 1 S (by decide) (by decide)
    have e1 : bndI (4611686018427387903 + 1) = 4611686018427387903 := by decide
    have e2 : ovrB (4611686018427387903 + 1) = true := by decide
    rw [e1, e2] at this
    exact this
  have r : ∀ S, Call theE 88 [.int .i64 2, .int .i64 2] S (.tup [.int .i64 2, .nili]) S := fun S => by
    obtain ⟨v, h0, h1, h2, this⟩ := root_ok 2 2 S (by decide) (by decide)
    have e0 : v = 2 := by
      have e : (2 : Int) * 2 ^ 2 = 8 := by decide
      rw [e] at h1 h2
      rcases Int.lt_or_le v 2 with h | h
      · have := (mulB (a := v + 1) (b := v + 1) (A := 2) (B := 2) (by omega) (by omega) (by omega) (by omega)).2
        omega
      · rcases Int.lt_or_le 2 v with h' | h'
        · have := (mulB (a := 3) (b := 3) (A := v) (B := v) (by omega) (by omega) (by omega) (by omega)).2
          omega
        · omega
    rw [e0] at this
    exact this
  refine Call.ofC Tryd.func53 YtimdnnlfkkkpbaaDoor.b53 YtimdnnlfkkkpbaaDoor.d53 YtimdnnlfkkkpbaaDoor.e53 (by simp [Tryd.f53]) ?_
  dsimp only [YtimdnnlfkkkpbaaDoor.c53, Tryd.f53, Option.getD_some]
  simp (maxSteps := 2000000) only [wk0, wk1, wk2, wk3, keepA, frzT, flatT, arrayAtA, ownT, extT, Fr.ev, Fr.put, Fr.get, initFr, buildSliceA, zeros, pkB, pkT, pkF, ownDst, Env.kd, ofConst, isConst, binA, intI, cmpI, shiftI, convertA, buildA, fillA, fillS, splice, AV.cells?, storeA, readAt, fieldAddrA, fieldA, indexA, extractA, unA, builtinA, appendA, lenA, sliceCells, isSliceK, makeInterfaceA, nilCheckA, eqA, AV.one, AV.plain, if_false, if_true, Nat.reduceEqDiff, reduceIte, Nat.reduceAdd, List.replicate, Nat.reduceLeDiff, Nat.reduceMul, Nat.reduceSub, Nat.reducePow, Int.reduceLT, Int.reduceLE, Int.reduceToNat, Int.reducePow, IntKind.bits, Int.reduceEq, Int.reduceMul, Int.reduceNeg, ne_eq, reduceCtorEq, escT, BEq.rfl, beq_self_eq_true, Int.reduceAdd, Int.reduceSub, Int.reduceMod, Int.reduceDiv, Nat.reduceMod, Nat.reduceDiv, Nat.reduceLT, cond_true, cond_false, gt_iff_lt, ge_iff_le, YtimdnnlfkkkpbaaDoor.D53, ty2, ty3, ty4, ty25]
  refine callThen_of (m _) ?_
  simp (maxSteps := 2000000) only [wk0, wk1, wk2, wk3, keepA, frzT, flatT, arrayAtA, ownT, extT, Fr.ev, Fr.put, Fr.get, initFr, buildSliceA, zeros, pkB, pkT, pkF, ownDst, Env.kd, ofConst, isConst, binA, intI, cmpI, shiftI, convertA, buildA, fillA, fillS, splice, AV.cells?, storeA, readAt, fieldAddrA, fieldA, indexA, extractA, unA, builtinA, appendA, lenA, sliceCells, isSliceK, makeInterfaceA, nilCheckA, eqA, AV.one, AV.plain, if_false, if_true, Nat.reduceEqDiff, reduceIte, Nat.reduceAdd, List.replicate, Nat.reduceLeDiff, Nat.reduceMul, Nat.reduceSub, Nat.reducePow, Int.reduceLT, Int.reduceLE, Int.reduceToNat, Int.reducePow, IntKind.bits, Int.reduceEq, Int.reduceMul, Int.reduceNeg, ne_eq, reduceCtorEq, escT, BEq.rfl, beq_self_eq_true, Int.reduceAdd, Int.reduceSub, Int.reduceMod, Int.reduceDiv, Nat.reduceMod, Nat.reduceDiv, Nat.reduceLT, cond_true, cond_false, gt_iff_lt, ge_iff_le, YtimdnnlfkkkpbaaDoor.D53, ty2, ty3, ty4, ty25]
  refine callThen_of (d _) ?_
  simp (maxSteps := 2000000) only [wk0, wk1, wk2, wk3, keepA, frzT, flatT, arrayAtA, ownT, extT, Fr.ev, Fr.put, Fr.get, initFr, buildSliceA, zeros, pkB, pkT, pkF, ownDst, Env.kd, ofConst, isConst, binA, intI, cmpI, shiftI, convertA, buildA, fillA, fillS, splice, AV.cells?, storeA, readAt, fieldAddrA, fieldA, indexA, extractA, unA, builtinA, appendA, lenA, sliceCells, isSliceK, makeInterfaceA, nilCheckA, eqA, AV.one, AV.plain, if_false, if_true, Nat.reduceEqDiff, reduceIte, Nat.reduceAdd, List.replicate, Nat.reduceLeDiff, Nat.reduceMul, Nat.reduceSub, Nat.reducePow, Int.reduceLT, Int.reduceLE, Int.reduceToNat, Int.reducePow, IntKind.bits, Int.reduceEq, Int.reduceMul, Int.reduceNeg, ne_eq, reduceCtorEq, escT, BEq.rfl, beq_self_eq_true, Int.reduceAdd, Int.reduceSub, Int.reduceMod, Int.reduceDiv, Nat.reduceMod, Nat.reduceDiv, Nat.reduceLT, cond_true, cond_false, gt_iff_lt, ge_iff_le, YtimdnnlfkkkpbaaDoor.D53, ty2, ty3, ty4, ty25]
  refine callThen_of (r _) ?_
  simp (maxSteps := 2000000) only [wk0, wk1, wk2, wk3, keepA, frzT, flatT, arrayAtA, ownT, extT, Fr.ev, Fr.put, Fr.get, initFr, buildSliceA, zeros, pkB, pkT, pkF, ownDst, Env.kd, ofConst, isConst, binA, intI, cmpI, shiftI, convertA, buildA, fillA, fillS, splice, AV.cells?, storeA, readAt, fieldAddrA, fieldA, indexA, extractA, unA, builtinA, appendA, lenA, sliceCells, isSliceK, makeInterfaceA, nilCheckA, eqA, AV.one, AV.plain, if_false, if_true, Nat.reduceEqDiff, reduceIte, Nat.reduceAdd, List.replicate, Nat.reduceLeDiff, Nat.reduceMul, Nat.reduceSub, Nat.reducePow, Int.reduceLT, Int.reduceLE, Int.reduceToNat, Int.reducePow, IntKind.bits, Int.reduceEq, Int.reduceMul, Int.reduceNeg, ne_eq, reduceCtorEq, escT, BEq.rfl, beq_self_eq_true, Int.reduceAdd, Int.reduceSub, Int.reduceMod, Int.reduceDiv, Nat.reduceMod, Nat.reduceDiv, Nat.reduceLT, cond_true, cond_false, gt_iff_lt, ge_iff_le, YtimdnnlfkkkpbaaDoor.D53, ty2, ty3, ty4, ty25]
  refine callThen_of (a _) ?_
  simp (maxSteps := 2000000) only [wk0, wk1, wk2, wk3, keepA, frzT, flatT, arrayAtA, ownT, extT, Fr.ev, Fr.put, Fr.get, initFr, buildSliceA, zeros, pkB, pkT, pkF, ownDst, Env.kd, ofConst, isConst, binA, intI, cmpI, shiftI, convertA, buildA, fillA, fillS, splice, AV.cells?, storeA, readAt, fieldAddrA, fieldA, indexA, extractA, unA, builtinA, appendA, lenA, sliceCells, isSliceK, makeInterfaceA, nilCheckA, eqA, AV.one, AV.plain, if_false, if_true, Nat.reduceEqDiff, reduceIte, Nat.reduceAdd, List.replicate, Nat.reduceLeDiff, Nat.reduceMul, Nat.reduceSub, Nat.reducePow, Int.reduceLT, Int.reduceLE, Int.reduceToNat, Int.reducePow, IntKind.bits, Int.reduceEq, Int.reduceMul, Int.reduceNeg, ne_eq, reduceCtorEq, escT, BEq.rfl, beq_self_eq_true, Int.reduceAdd, Int.reduceSub, Int.reduceMod, Int.reduceDiv, Nat.reduceMod, Nat.reduceDiv, Nat.reduceLT, cond_true, cond_false, gt_iff_lt, ge_iff_le, YtimdnnlfkkkpbaaDoor.D53, ty2, ty3, ty4, ty25]
  exact retB_plain (by simp [nmd_bool]) rfl (by simp)
end Go.Proofs.YtimdnnlfkkkpbaaDoor
