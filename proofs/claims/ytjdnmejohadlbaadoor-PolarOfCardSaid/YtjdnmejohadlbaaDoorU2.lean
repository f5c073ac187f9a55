/- The reference's turns: by halves, step by step. -/
import Derived.Test.YtjdnmejohadlbaaDoorU1
set_option linter.unusedSimpArgs false
set_option linter.unusedVariables false
set_option maxRecDepth 100000
set_option maxHeartbeats 4000000
namespace Go.Proofs.YtjdnmejohadlbaaDoor
noncomputable def c151 : Code := Tryd.f151.body.getD .skip
theorem b151 : Tryd.f151.body = some c151 := rfl
theorem d151 : fnOk Tryd.f151 c151 = true := by kernel_rfl
def D151 : Nat → List Tag := fun _ => []
theorem e151 : drawsOk D151 c151 = true := by kernel_rfl
noncomputable def c81 : Code := Tryd.f81.body.getD .skip
theorem b81 : Tryd.f81.body = some c81 := rfl
theorem d81 : fnOk Tryd.f81 c81 = true := by kernel_rfl
def D81 : Nat → List Tag := fun _ => []
theorem e81 : drawsOk D81 c81 = true := by kernel_rfl
noncomputable def c82 : Code := Tryd.f82.body.getD .skip
theorem b82 : Tryd.f82.body = some c82 := rfl
theorem d82 : fnOk Tryd.f82 c82 = true := by kernel_rfl
def D82 : Nat → List Tag := fun _ => []
theorem e82 : drawsOk D82 c82 = true := by kernel_rfl
noncomputable def c80 : Code := Tryd.f80.body.getD .skip
theorem b80 : Tryd.f80.body = some c80 := rfl
theorem d80 : fnOk Tryd.f80 c80 = true := by kernel_rfl
def D80 : Nat → List Tag := fun _ => []
theorem e80 : drawsOk D80 c80 = true := by kernel_rfl
noncomputable def c21 : Code := Tryd.f21.body.getD .skip
theorem b21 : Tryd.f21.body = some c21 := rfl
theorem d21 : fnOk Tryd.f21 c21 = true := by kernel_rfl
def D21 : Nat → List Tag := fun _ => []
theorem e21 : drawsOk D21 c21 = true := by kernel_rfl
noncomputable def c26 : Code := Tryd.f26.body.getD .skip
theorem b26 : Tryd.f26.body = some c26 := rfl
theorem d26 : fnOk Tryd.f26 c26 = true := by kernel_rfl
def D26 : Nat → List Tag := fun _ => []
theorem e26 : drawsOk D26 c26 = true := by kernel_rfl
noncomputable def c23 : Code := Tryd.f23.body.getD .skip
theorem b23 : Tryd.f23.body = some c23 := rfl
theorem d23 : fnOk Tryd.f23 c23 = true := by kernel_rfl
def D23 : Nat → List Tag := fun _ => []
theorem e23 : drawsOk D23 c23 = true := by kernel_rfl
theorem refBy_ok (n : Int) (k : Nat) (S : Heap) (hn : inI n) (hk : k ≤ 1000) : Call theE 151 [.int .i64 n, .int .i64 k] S (.int .i64 (n / 2 ^ k)) S := by
  refine Call.ofC Tryd.func151 YtjdnmejohadlbaaDoor.b151 YtjdnmejohadlbaaDoor.d151 YtjdnmejohadlbaaDoor.e151 (by simp [Tryd.f151]) ?_
  dsimp only [YtjdnmejohadlbaaDoor.c151, Tryd.f151, Option.getD_some]
  simp (maxSteps := 2000000) only [wk0, wk1, wk2, wk3, wk4, keepA, keepT, Fr.keep, frzT, flatT, arrayAtA, ownT, extT, Fr.ev, Fr.put, Fr.get, initFr, buildSliceA, zeros, pkB, pkT, pkF, ownDst, Env.kd, ofConst, isConst, binA, intI, cmpI, shiftI, convertA, buildA, fillA, fillS, splice, AV.cells?, storeA, readAt, fieldAddrA, fieldA, indexA, extractA, unA, builtinA, appendA, lenA, sliceCells, isSliceK, makeInterfaceA, nilCheckA, eqA, AV.one, AV.plain, if_false, if_true, Nat.reduceEqDiff, reduceIte, Nat.reduceAdd, List.replicate, Nat.reduceLeDiff, Nat.reduceMul, Nat.reduceSub, Nat.reducePow, Int.reduceLT, Int.reduceLE, Int.reduceToNat, Int.reducePow, IntKind.bits, Int.reduceEq, Int.reduceMul, Int.reduceNeg, ne_eq, reduceCtorEq, escT, BEq.rfl, beq_self_eq_true, Int.reduceAdd, Int.reduceSub, Int.reduceMod, Int.reduceDiv, Nat.reduceMod, Nat.reduceDiv, Nat.reduceLT, cond_true, cond_false, gt_iff_lt, ge_iff_le, YtjdnmejohadlbaaDoor.D151, ty2, ty3, ty4]
  refine loopC_ind (fun m fr H => ∃ i : Nat, i + m = k ∧ fr.get 0 = .int .i64 (n / 2 ^ i) ∧ fr.get 1 = .int .i64 k ∧ fr.get 5 = .int .i64 (i : Int) ∧ H = S) ?_ (n := k) ⟨0, by omega, by simp [Fr.get], rfl, rfl, rfl⟩
  rintro m fr H ⟨i, him, g0, g1, g5, rfl⟩ ih
  by_cases hi : (i : Int) < (k : Int)
  · have wi : IntKind.i64.wrap ((i : Int) + 1) = ((i + 1 : Nat) : Int) := wrapI (by omega)
    have hin := div_pow_inI hn i
    have e := div_pow_succ n i
    have hin2 := div_pow_inI hn (i + 1)
    rw [← e] at hin2
    have hin2' := hin2
    unfold inI at hin2'
    have wh := fun (x : Int) (h : x = n / 2 ^ i / 2) => show IntKind.i64.wrap x = n / 2 ^ i / 2 by rw [h]; exact wrapI hin2'
    by_cases ho : (n / 2 ^ i).tmod 2 = 0
    · have he := halve_even ho
      have w2 := wrapI hin2'
      simp (maxSteps := 2000000) only [wk0, wk1, wk2, wk3, wk4, keepA, keepT, Fr.keep, frzT, flatT, arrayAtA, ownT, extT, Fr.ev, Fr.put, Fr.get, initFr, buildSliceA, zeros, pkB, pkT, pkF, ownDst, Env.kd, ofConst, isConst, binA, intI, cmpI, shiftI, convertA, buildA, fillA, fillS, splice, AV.cells?, storeA, readAt, fieldAddrA, fieldA, indexA, extractA, unA, builtinA, appendA, lenA, sliceCells, isSliceK, makeInterfaceA, nilCheckA, eqA, AV.one, AV.plain, if_false, if_true, Nat.reduceEqDiff, reduceIte, Nat.reduceAdd, List.replicate, Nat.reduceLeDiff, Nat.reduceMul, Nat.reduceSub, Nat.reducePow, Int.reduceLT, Int.reduceLE, Int.reduceToNat, Int.reducePow, IntKind.bits, Int.reduceEq, Int.reduceMul, Int.reduceNeg, ne_eq, reduceCtorEq, escT, BEq.rfl, beq_self_eq_true, Int.reduceAdd, Int.reduceSub, Int.reduceMod, Int.reduceDiv, Nat.reduceMod, Nat.reduceDiv, Nat.reduceLT, cond_true, cond_false, gt_iff_lt, ge_iff_le, g0, g1, g5, hi, ho, he, w2, wi, YtjdnmejohadlbaaDoor.D151, ty2, ty3, ty4]
      exact ih (m - 1) _ _ (by omega) ⟨i + 1, by omega, by rw [← e]; simp [Fr.get], by simp [Fr.get, g1], by simp [Fr.get], rfl⟩
    · have he := halve_odd hin ho
      have w2 := wrapI hin2'
      simp (maxSteps := 2000000) only [wk0, wk1, wk2, wk3, wk4, keepA, keepT, Fr.keep, frzT, flatT, arrayAtA, ownT, extT, Fr.ev, Fr.put, Fr.get, initFr, buildSliceA, zeros, pkB, pkT, pkF, ownDst, Env.kd, ofConst, isConst, binA, intI, cmpI, shiftI, convertA, buildA, fillA, fillS, splice, AV.cells?, storeA, readAt, fieldAddrA, fieldA, indexA, extractA, unA, builtinA, appendA, lenA, sliceCells, isSliceK, makeInterfaceA, nilCheckA, eqA, AV.one, AV.plain, if_false, if_true, Nat.reduceEqDiff, reduceIte, Nat.reduceAdd, List.replicate, Nat.reduceLeDiff, Nat.reduceMul, Nat.reduceSub, Nat.reducePow, Int.reduceLT, Int.reduceLE, Int.reduceToNat, Int.reducePow, IntKind.bits, Int.reduceEq, Int.reduceMul, Int.reduceNeg, ne_eq, reduceCtorEq, escT, BEq.rfl, beq_self_eq_true, Int.reduceAdd, Int.reduceSub, Int.reduceMod, Int.reduceDiv, Nat.reduceMod, Nat.reduceDiv, Nat.reduceLT, cond_true, cond_false, gt_iff_lt, ge_iff_le, g0, g1, g5, hi, ho, he, w2, wi, YtjdnmejohadlbaaDoor.D151, ty2, ty3, ty4]
      exact ih (m - 1) _ _ (by omega) ⟨i + 1, by omega, by rw [← e]; simp [Fr.get], by simp [Fr.get, g1], by simp [Fr.get], rfl⟩
  · obtain rfl : i = k := by omega
    simp (maxSteps := 2000000) only [wk0, wk1, wk2, wk3, wk4, keepA, keepT, Fr.keep, frzT, flatT, arrayAtA, ownT, extT, Fr.ev, Fr.put, Fr.get, initFr, buildSliceA, zeros, pkB, pkT, pkF, ownDst, Env.kd, ofConst, isConst, binA, intI, cmpI, shiftI, convertA, buildA, fillA, fillS, splice, AV.cells?, storeA, readAt, fieldAddrA, fieldA, indexA, extractA, unA, builtinA, appendA, lenA, sliceCells, isSliceK, makeInterfaceA, nilCheckA, eqA, AV.one, AV.plain, if_false, if_true, Nat.reduceEqDiff, reduceIte, Nat.reduceAdd, List.replicate, Nat.reduceLeDiff, Nat.reduceMul, Nat.reduceSub, Nat.reducePow, Int.reduceLT, Int.reduceLE, Int.reduceToNat, Int.reducePow, IntKind.bits, Int.reduceEq, Int.reduceMul, Int.reduceNeg, ne_eq, reduceCtorEq, escT, BEq.rfl, beq_self_eq_true, Int.reduceAdd, Int.reduceSub, Int.reduceMod, Int.reduceDiv, Nat.reduceMod, Nat.reduceDiv, Nat.reduceLT, cond_true, cond_false, gt_iff_lt, ge_iff_le, g0, g1, g5, hi, YtjdnmejohadlbaaDoor.D151, ty2, ty3, ty4]
    exact retB_plain (by simp [nmd_int]) rfl (by simp)
theorem refTurnL_ok (x y : Int) (k : Nat) (S : Heap) (hx : inI x) (hy : inI y) (hk : k ≤ 1000) : Call theE 81 [.int .i64 x, .int .i64 y, .int .i64 k, .bool true] S (.tup [.int .i64 (IntKind.i64.wrap (x - y / 2 ^ k)), .int .i64 (IntKind.i64.wrap (y + x / 2 ^ k))]) S := by
  have b1 := fun S => refBy_ok y k S hy hk
  have b2 := fun S => refBy_ok x k S hx hk
  refine Call.ofC Tryd.func81 YtjdnmejohadlbaaDoor.b81 YtjdnmejohadlbaaDoor.d81 YtjdnmejohadlbaaDoor.e81 (by simp [Tryd.f81]) ?_
  dsimp only [YtjdnmejohadlbaaDoor.c81, Tryd.f81, Option.getD_some]
  simp (maxSteps := 2000000) only [wk0, wk1, wk2, wk3, wk4, keepA, keepT, Fr.keep, frzT, flatT, arrayAtA, ownT, extT, Fr.ev, Fr.put, Fr.get, initFr, buildSliceA, zeros, pkB, pkT, pkF, ownDst, Env.kd, ofConst, isConst, binA, intI, cmpI, shiftI, convertA, buildA, fillA, fillS, splice, AV.cells?, storeA, readAt, fieldAddrA, fieldA, indexA, extractA, unA, builtinA, appendA, lenA, sliceCells, isSliceK, makeInterfaceA, nilCheckA, eqA, AV.one, AV.plain, if_false, if_true, Nat.reduceEqDiff, reduceIte, Nat.reduceAdd, List.replicate, Nat.reduceLeDiff, Nat.reduceMul, Nat.reduceSub, Nat.reducePow, Int.reduceLT, Int.reduceLE, Int.reduceToNat, Int.reducePow, IntKind.bits, Int.reduceEq, Int.reduceMul, Int.reduceNeg, ne_eq, reduceCtorEq, escT, BEq.rfl, beq_self_eq_true, Int.reduceAdd, Int.reduceSub, Int.reduceMod, Int.reduceDiv, Nat.reduceMod, Nat.reduceDiv, Nat.reduceLT, cond_true, cond_false, gt_iff_lt, ge_iff_le, YtjdnmejohadlbaaDoor.D81, ty2, ty3, ty4]
  refine callThen_of (b1 _) ?_
  simp (maxSteps := 2000000) only [wk0, wk1, wk2, wk3, wk4, keepA, keepT, Fr.keep, frzT, flatT, arrayAtA, ownT, extT, Fr.ev, Fr.put, Fr.get, initFr, buildSliceA, zeros, pkB, pkT, pkF, ownDst, Env.kd, ofConst, isConst, binA, intI, cmpI, shiftI, convertA, buildA, fillA, fillS, splice, AV.cells?, storeA, readAt, fieldAddrA, fieldA, indexA, extractA, unA, builtinA, appendA, lenA, sliceCells, isSliceK, makeInterfaceA, nilCheckA, eqA, AV.one, AV.plain, if_false, if_true, Nat.reduceEqDiff, reduceIte, Nat.reduceAdd, List.replicate, Nat.reduceLeDiff, Nat.reduceMul, Nat.reduceSub, Nat.reducePow, Int.reduceLT, Int.reduceLE, Int.reduceToNat, Int.reducePow, IntKind.bits, Int.reduceEq, Int.reduceMul, Int.reduceNeg, ne_eq, reduceCtorEq, escT, BEq.rfl, beq_self_eq_true, Int.reduceAdd, Int.reduceSub, Int.reduceMod, Int.reduceDiv, Nat.reduceMod, Nat.reduceDiv, Nat.reduceLT, cond_true, cond_false, gt_iff_lt, ge_iff_le, YtjdnmejohadlbaaDoor.D81, ty2, ty3, ty4]
  refine callThen_of (b2 _) ?_
  simp (maxSteps := 2000000) only [wk0, wk1, wk2, wk3, wk4, keepA, keepT, Fr.keep, frzT, flatT, arrayAtA, ownT, extT, Fr.ev, Fr.put, Fr.get, initFr, buildSliceA, zeros, pkB, pkT, pkF, ownDst, Env.kd, ofConst, isConst, binA, intI, cmpI, shiftI, convertA, buildA, fillA, fillS, splice, AV.cells?, storeA, readAt, fieldAddrA, fieldA, indexA, extractA, unA, builtinA, appendA, lenA, sliceCells, isSliceK, makeInterfaceA, nilCheckA, eqA, AV.one, AV.plain, if_false, if_true, Nat.reduceEqDiff, reduceIte, Nat.reduceAdd, List.replicate, Nat.reduceLeDiff, Nat.reduceMul, Nat.reduceSub, Nat.reducePow, Int.reduceLT, Int.reduceLE, Int.reduceToNat, Int.reducePow, IntKind.bits, Int.reduceEq, Int.reduceMul, Int.reduceNeg, ne_eq, reduceCtorEq, escT, BEq.rfl, beq_self_eq_true, Int.reduceAdd, Int.reduceSub, Int.reduceMod, Int.reduceDiv, Nat.reduceMod, Nat.reduceDiv, Nat.reduceLT, cond_true, cond_false, gt_iff_lt, ge_iff_le, YtjdnmejohadlbaaDoor.D81, ty2, ty3, ty4]
  exact retB_plain (by simp [nmd_int]) rfl (by simp)
theorem refTurnR_ok (x y : Int) (k : Nat) (S : Heap) (hx : inI x) (hy : inI y) (hk : k ≤ 1000) : Call theE 81 [.int .i64 x, .int .i64 y, .int .i64 k, .bool false] S (.tup [.int .i64 (IntKind.i64.wrap (x + y / 2 ^ k)), .int .i64 (IntKind.i64.wrap (y - x / 2 ^ k))]) S := by
  have b1 := fun S => refBy_ok y k S hy hk
  have b2 := fun S => refBy_ok x k S hx hk
  refine Call.ofC Tryd.func81 YtjdnmejohadlbaaDoor.b81 YtjdnmejohadlbaaDoor.d81 YtjdnmejohadlbaaDoor.e81 (by simp [Tryd.f81]) ?_
  dsimp only [YtjdnmejohadlbaaDoor.c81, Tryd.f81, Option.getD_some]
  simp (maxSteps := 2000000) only [wk0, wk1, wk2, wk3, wk4, keepA, keepT, Fr.keep, frzT, flatT, arrayAtA, ownT, extT, Fr.ev, Fr.put, Fr.get, initFr, buildSliceA, zeros, pkB, pkT, pkF, ownDst, Env.kd, ofConst, isConst, binA, intI, cmpI, shiftI, convertA, buildA, fillA, fillS, splice, AV.cells?, storeA, readAt, fieldAddrA, fieldA, indexA, extractA, unA, builtinA, appendA, lenA, sliceCells, isSliceK, makeInterfaceA, nilCheckA, eqA, AV.one, AV.plain, if_false, if_true, Nat.reduceEqDiff, reduceIte, Nat.reduceAdd, List.replicate, Nat.reduceLeDiff, Nat.reduceMul, Nat.reduceSub, Nat.reducePow, Int.reduceLT, Int.reduceLE, Int.reduceToNat, Int.reducePow, IntKind.bits, Int.reduceEq, Int.reduceMul, Int.reduceNeg, ne_eq, reduceCtorEq, escT, BEq.rfl, beq_self_eq_true, Int.reduceAdd, Int.reduceSub, Int.reduceMod, Int.reduceDiv, Nat.reduceMod, Nat.reduceDiv, Nat.reduceLT, cond_true, cond_false, gt_iff_lt, ge_iff_le, YtjdnmejohadlbaaDoor.D81, ty2, ty3, ty4]
  refine callThen_of (b1 _) ?_
  simp (maxSteps := 2000000) only [wk0, wk1, wk2, wk3, wk4, keepA, keepT, Fr.keep, frzT, flatT, arrayAtA, ownT, extT, Fr.ev, Fr.put, Fr.get, initFr, buildSliceA, zeros, pkB, pkT, pkF, ownDst, Env.kd, ofConst, isConst, binA, intI, cmpI, shiftI, convertA, buildA, fillA, fillS, splice, AV.cells?, storeA, readAt, fieldAddrA, fieldA, indexA, extractA, unA, builtinA, appendA, lenA, sliceCells, isSliceK, makeInterfaceA, nilCheckA, eqA, AV.one, AV.plain, if_false, if_true, Nat.reduceEqDiff, reduceIte, Nat.reduceAdd, List.replicate, Nat.reduceLeDiff, Nat.reduceMul, Nat.reduceSub, Nat.reducePow, Int.reduceLT, Int.reduceLE, Int.reduceToNat, Int.reducePow, IntKind.bits, Int.reduceEq, Int.reduceMul, Int.reduceNeg, ne_eq, reduceCtorEq, escT, BEq.rfl, beq_self_eq_true, Int.reduceAdd, Int.reduceSub, Int.reduceMod, Int.reduceDiv, Nat.reduceMod, Nat.reduceDiv, Nat.reduceLT, cond_true, cond_false, gt_iff_lt, ge_iff_le, YtjdnmejohadlbaaDoor.D81, ty2, ty3, ty4]
  refine callThen_of (b2 _) ?_
  simp (maxSteps := 2000000) only [wk0, wk1, wk2, wk3, wk4, keepA, keepT, Fr.keep, frzT, flatT, arrayAtA, ownT, extT, Fr.ev, Fr.put, Fr.get, initFr, buildSliceA, zeros, pkB, pkT, pkF, ownDst, Env.kd, ofConst, isConst, binA, intI, cmpI, shiftI, convertA, buildA, fillA, fillS, splice, AV.cells?, storeA, readAt, fieldAddrA, fieldA, indexA, extractA, unA, builtinA, appendA, lenA, sliceCells, isSliceK, makeInterfaceA, nilCheckA, eqA, AV.one, AV.plain, if_false, if_true, Nat.reduceEqDiff, reduceIte, Nat.reduceAdd, List.replicate, Nat.reduceLeDiff, Nat.reduceMul, Nat.reduceSub, Nat.reducePow, Int.reduceLT, Int.reduceLE, Int.reduceToNat, Int.reducePow, IntKind.bits, Int.reduceEq, Int.reduceMul, Int.reduceNeg, ne_eq, reduceCtorEq, escT, BEq.rfl, beq_self_eq_true, Int.reduceAdd, Int.reduceSub, Int.reduceMod, Int.reduceDiv, Nat.reduceMod, Nat.reduceDiv, Nat.reduceLT, cond_true, cond_false, gt_iff_lt, ge_iff_le, YtjdnmejohadlbaaDoor.D81, ty2, ty3, ty4]
  exact retB_plain (by simp [nmd_int]) rfl (by simp)
theorem refRounded_ok (n : Int) (S : Heap) (hn : inI n) : Call theE 82 [.int .i64 n] S (.int .i64 (r30 n)) S := by
  have hl : lenD n.natAbs ≤ 20000 := lenD_lit (k := 20) (by unfold inI at hn; omega) (by omega)
  have o := fun S => decOf_ok n S hn
  have h := fun S => refHalf_ok n 30 S hl (by omega)
  change ∀ S, Call theE _ [_, .int .i64 30] S (.tup [.int .i64 (r30 n), _]) S at h
  generalize ovrB (rnd n (2 ^ 30)) = ov at h
  simp only [decA, lstI, digs_len] at o h
  refine Call.ofC Tryd.func82 YtjdnmejohadlbaaDoor.b82 YtjdnmejohadlbaaDoor.d82 YtjdnmejohadlbaaDoor.e82 (by simp [Tryd.f82]) ?_
  dsimp only [YtjdnmejohadlbaaDoor.c82, Tryd.f82, Option.getD_some]
  simp (maxSteps := 2000000) only [wk0, wk1, wk2, wk3, wk4, keepA, keepT, Fr.keep, frzT, flatT, arrayAtA, ownT, extT, Fr.ev, Fr.put, Fr.get, initFr, buildSliceA, zeros, pkB, pkT, pkF, ownDst, Env.kd, ofConst, isConst, binA, intI, cmpI, shiftI, convertA, buildA, fillA, fillS, splice, AV.cells?, storeA, readAt, fieldAddrA, fieldA, indexA, extractA, unA, builtinA, appendA, lenA, sliceCells, isSliceK, makeInterfaceA, nilCheckA, eqA, AV.one, AV.plain, if_false, if_true, Nat.reduceEqDiff, reduceIte, Nat.reduceAdd, List.replicate, Nat.reduceLeDiff, Nat.reduceMul, Nat.reduceSub, Nat.reducePow, Int.reduceLT, Int.reduceLE, Int.reduceToNat, Int.reducePow, IntKind.bits, Int.reduceEq, Int.reduceMul, Int.reduceNeg, ne_eq, reduceCtorEq, escT, BEq.rfl, beq_self_eq_true, Int.reduceAdd, Int.reduceSub, Int.reduceMod, Int.reduceDiv, Nat.reduceMod, Nat.reduceDiv, Nat.reduceLT, cond_true, cond_false, gt_iff_lt, ge_iff_le, YtjdnmejohadlbaaDoor.D82, ty2, ty3, ty4, ty149]
  refine callThen_of (o _) ?_
  simp (maxSteps := 2000000) only [wk0, wk1, wk2, wk3, wk4, keepA, keepT, Fr.keep, frzT, flatT, arrayAtA, ownT, extT, Fr.ev, Fr.put, Fr.get, initFr, buildSliceA, zeros, pkB, pkT, pkF, ownDst, Env.kd, ofConst, isConst, binA, intI, cmpI, shiftI, convertA, buildA, fillA, fillS, splice, AV.cells?, storeA, readAt, fieldAddrA, fieldA, indexA, extractA, unA, builtinA, appendA, lenA, sliceCells, isSliceK, makeInterfaceA, nilCheckA, eqA, AV.one, AV.plain, if_false, if_true, Nat.reduceEqDiff, reduceIte, Nat.reduceAdd, List.replicate, Nat.reduceLeDiff, Nat.reduceMul, Nat.reduceSub, Nat.reducePow, Int.reduceLT, Int.reduceLE, Int.reduceToNat, Int.reducePow, IntKind.bits, Int.reduceEq, Int.reduceMul, Int.reduceNeg, ne_eq, reduceCtorEq, escT, BEq.rfl, beq_self_eq_true, Int.reduceAdd, Int.reduceSub, Int.reduceMod, Int.reduceDiv, Nat.reduceMod, Nat.reduceDiv, Nat.reduceLT, cond_true, cond_false, gt_iff_lt, ge_iff_le, YtjdnmejohadlbaaDoor.D82, ty2, ty3, ty4, ty149]
  refine callThen_of (h _) ?_
  simp (maxSteps := 2000000) only [wk0, wk1, wk2, wk3, wk4, keepA, keepT, Fr.keep, frzT, flatT, arrayAtA, ownT, extT, Fr.ev, Fr.put, Fr.get, initFr, buildSliceA, zeros, pkB, pkT, pkF, ownDst, Env.kd, ofConst, isConst, binA, intI, cmpI, shiftI, convertA, buildA, fillA, fillS, splice, AV.cells?, storeA, readAt, fieldAddrA, fieldA, indexA, extractA, unA, builtinA, appendA, lenA, sliceCells, isSliceK, makeInterfaceA, nilCheckA, eqA, AV.one, AV.plain, if_false, if_true, Nat.reduceEqDiff, reduceIte, Nat.reduceAdd, List.replicate, Nat.reduceLeDiff, Nat.reduceMul, Nat.reduceSub, Nat.reducePow, Int.reduceLT, Int.reduceLE, Int.reduceToNat, Int.reducePow, IntKind.bits, Int.reduceEq, Int.reduceMul, Int.reduceNeg, ne_eq, reduceCtorEq, escT, BEq.rfl, beq_self_eq_true, Int.reduceAdd, Int.reduceSub, Int.reduceMod, Int.reduceDiv, Nat.reduceMod, Nat.reduceDiv, Nat.reduceLT, cond_true, cond_false, gt_iff_lt, ge_iff_le, YtjdnmejohadlbaaDoor.D82, ty2, ty3, ty4, ty149]
  exact retB_plain (by simp [nmd_int]) rfl (by simp)
theorem refAngles_ok (S : Heap) : Call theE 80 [] S (.lst (angL.map fun n => AV.int .i64 n) 40) S := by
  unfold angL
  simp only [List.map_cons, List.map_nil]
  refine Call.ofC Tryd.func80 YtjdnmejohadlbaaDoor.b80 YtjdnmejohadlbaaDoor.d80 YtjdnmejohadlbaaDoor.e80 (by simp [Tryd.f80]) ?_
  dsimp only [YtjdnmejohadlbaaDoor.c80, Tryd.f80, Option.getD_some]
  simp (maxSteps := 2000000) only [wk0, wk1, wk2, wk3, wk4, keepA, keepT, Fr.keep, frzT, flatT, arrayAtA, ownT, extT, Fr.ev, Fr.put, Fr.get, initFr, buildSliceA, zeros, pkB, pkT, pkF, ownDst, Env.kd, ofConst, isConst, binA, intI, cmpI, shiftI, convertA, buildA, fillA, fillS, splice, AV.cells?, storeA, readAt, fieldAddrA, fieldA, indexA, extractA, unA, builtinA, appendA, lenA, sliceCells, isSliceK, makeInterfaceA, nilCheckA, eqA, AV.one, AV.plain, if_false, if_true, Nat.reduceEqDiff, reduceIte, Nat.reduceAdd, List.replicate, Nat.reduceLeDiff, Nat.reduceMul, Nat.reduceSub, Nat.reducePow, Int.reduceLT, Int.reduceLE, Int.reduceToNat, Int.reducePow, IntKind.bits, Int.reduceEq, Int.reduceMul, Int.reduceNeg, ne_eq, reduceCtorEq, escT, BEq.rfl, beq_self_eq_true, Int.reduceAdd, Int.reduceSub, Int.reduceMod, Int.reduceDiv, Nat.reduceMod, Nat.reduceDiv, Nat.reduceLT, cond_true, cond_false, gt_iff_lt, ge_iff_le, YtjdnmejohadlbaaDoor.D80, ty40, ty95]
  exact retB_plain (by simp [nmd_lst]) rfl (by simp)
theorem refBoth_ok (t : Int) (S : Heap) (ht : 0 ≤ t ∧ t < 4294967296) : Call theE 21 [.int .i64 t] S (.tup [.int .i64 (sinT t), .int .i64 (cosT t)]) S := by
  have a0 := fun S => refAngles_ok S
  have em : t.tmod 1073741824 = t % 1073741824 := Int.tmod_eq_emod_of_nonneg ht.1
  have ed : t.tdiv 1073741824 = t / 1073741824 := Int.tdiv_eq_ediv_of_nonneg ht.1
  have w1 : IntKind.i64.wrap (t % 1073741824 * 1073741824) = t % 1073741824 * 1073741824 := wrapI (by omega)
  have w2 : IntKind.i64.wrap (t % 1073741824 * 1073741824 - 576460752303423488) = bothZ t := wrapI (by omega)
  have w3 : IntKind.i64.wrap (t / 1073741824) = t / 1073741824 := wrapI (by omega)
  have hz : inI (bothZ t) := by unfold inI bothZ; omega
  have h1 : -4611686018427387903 ≤ cosQ t ∧ cosQ t ≤ 4611686018427387903 := r30_in _
  have h2 : -4611686018427387903 ≤ sinQ t ∧ sinQ t ≤ 4611686018427387903 := r30_in _
  have n1 : IntKind.i64.wrap (0 - cosQ t) = -cosQ t := by rw [wrapI (by omega)]; omega
  have n2 : IntKind.i64.wrap (0 - sinQ t) = -sinQ t := by rw [wrapI (by omega)]; omega
  have hq : t / 1073741824 = 0 ∨ t / 1073741824 = 1 ∨ t / 1073741824 = 2 ∨ t / 1073741824 = 3 := by omega
  obtain ⟨run, hrun⟩ : ∃ run : Nat → P3, run = runP (fun p => decide (0 ≤ p.z)) ⟨495056041134655927, 495056041134655927, bothZ t⟩ := ⟨_, rfl⟩
  have hin : ∀ k, OkP (run k) := fun k => by rw [hrun]; exact runP_okP ⟨show inI 495056041134655927 by unfold inI; omega, show inI 495056041134655927 by unfold inI; omega, hz⟩ k
  have hst : ∀ k, run (k + 1) = stepP (decide (0 ≤ (run k).z)) k (run k) := fun k => by rw [hrun]; rfl
  have h0 : run 0 = ⟨495056041134655927, 495056041134655927, bothZ t⟩ := by rw [hrun]; rfl
  have r1 := fun S => refRounded_ok (run 40).x S (hin 40).x
  have r2 := fun S => refRounded_ok (run 40).y S (hin 40).y
  have ec : r30 (run 40).x = cosQ t := by rw [hrun]; rfl
  have es : r30 (run 40).y = sinQ t := by rw [hrun]; rfl
  rw [ec] at r1
  rw [es] at r2
  clear hrun ec es
  unfold sinT cosT
  generalize cosQ t = c at *
  generalize sinQ t = s at *
  refine Call.ofC Tryd.func21 YtjdnmejohadlbaaDoor.b21 YtjdnmejohadlbaaDoor.d21 YtjdnmejohadlbaaDoor.e21 (by simp [Tryd.f21]) ?_
  dsimp only [YtjdnmejohadlbaaDoor.c21, Tryd.f21, Option.getD_some]
  simp (maxSteps := 2000000) only [wk0, wk1, wk2, wk3, wk4, keepA, keepT, Fr.keep, frzT, flatT, arrayAtA, ownT, extT, Fr.ev, Fr.put, Fr.get, initFr, buildSliceA, zeros, pkB, pkT, pkF, ownDst, Env.kd, ofConst, isConst, binA, intI, cmpI, shiftI, convertA, buildA, fillA, fillS, splice, AV.cells?, storeA, readAt, fieldAddrA, fieldA, indexA, extractA, unA, builtinA, appendA, lenA, sliceCells, isSliceK, makeInterfaceA, nilCheckA, eqA, AV.one, AV.plain, if_false, if_true, Nat.reduceEqDiff, reduceIte, Nat.reduceAdd, List.replicate, Nat.reduceLeDiff, Nat.reduceMul, Nat.reduceSub, Nat.reducePow, Int.reduceLT, Int.reduceLE, Int.reduceToNat, Int.reducePow, IntKind.bits, Int.reduceEq, Int.reduceMul, Int.reduceNeg, ne_eq, reduceCtorEq, escT, BEq.rfl, beq_self_eq_true, Int.reduceAdd, Int.reduceSub, Int.reduceMod, Int.reduceDiv, Nat.reduceMod, Nat.reduceDiv, Nat.reduceLT, cond_true, cond_false, gt_iff_lt, ge_iff_le, em, w1, w2, YtjdnmejohadlbaaDoor.D21, ty2, ty3, ty4, ty95]
  refine callThen_of (a0 _) ?_
  simp (maxSteps := 2000000) only [wk0, wk1, wk2, wk3, wk4, keepA, keepT, Fr.keep, frzT, flatT, arrayAtA, ownT, extT, Fr.ev, Fr.put, Fr.get, initFr, buildSliceA, zeros, pkB, pkT, pkF, ownDst, Env.kd, ofConst, isConst, binA, intI, cmpI, shiftI, convertA, buildA, fillA, fillS, splice, AV.cells?, storeA, readAt, fieldAddrA, fieldA, indexA, extractA, unA, builtinA, appendA, lenA, sliceCells, isSliceK, makeInterfaceA, nilCheckA, eqA, AV.one, AV.plain, if_false, if_true, Nat.reduceEqDiff, reduceIte, Nat.reduceAdd, List.replicate, Nat.reduceLeDiff, Nat.reduceMul, Nat.reduceSub, Nat.reducePow, Int.reduceLT, Int.reduceLE, Int.reduceToNat, Int.reducePow, IntKind.bits, Int.reduceEq, Int.reduceMul, Int.reduceNeg, ne_eq, reduceCtorEq, escT, BEq.rfl, beq_self_eq_true, Int.reduceAdd, Int.reduceSub, Int.reduceMod, Int.reduceDiv, Nat.reduceMod, Nat.reduceDiv, Nat.reduceLT, cond_true, cond_false, gt_iff_lt, ge_iff_le, em, w1, w2, YtjdnmejohadlbaaDoor.D21, ty2, ty3, ty4, ty95]
  refine loopC_ind (fun m fr H => ∃ k : Nat, k + m = 40 ∧ fr.get 0 = .int .i64 t ∧ fr.get 4 = .int .i64 (run k).x ∧ fr.get 5 = .int .i64 (run k).y ∧ fr.get 6 = .int .i64 (run k).z ∧ fr.get 7 = .lst (angL.map fun n => AV.int .i64 n) 40 ∧ fr.get 8 = .int .i64 (k : Int) ∧ H = S) ?_ (n := 40)
    ⟨0, by omega, rfl, by rw [h0]; rfl, by rw [h0]; rfl, by rw [h0]; rfl, rfl, rfl, rfl⟩
  rintro m fr H ⟨k, hkm, g0, g4, g5, g6, g7, g8, rfl⟩ ih
  by_cases hk : (k : Int) < 40
  · have hkn : k < 40 := by omega
    have ga := ang_at k hkn
    have p1 : (0 : Int) ≤ (k : Int) := by omega
    have wi : IntKind.i64.wrap ((k : Int) + 1) = ((k + 1 : Nat) : Int) := wrapI (by omega)
    have hs := hst k
    by_cases hz0 : 0 ≤ (run k).z
    · have l := fun S => refTurnL_ok (run k).x (run k).y k S (hin k).x (hin k).y (by omega)
      rw [decide_eq_true hz0, stepP_left] at hs
      simp (maxSteps := 2000000) only [wk0, wk1, wk2, wk3, wk4, keepA, keepT, Fr.keep, frzT, flatT, arrayAtA, ownT, extT, Fr.ev, Fr.put, Fr.get, initFr, buildSliceA, zeros, pkB, pkT, pkF, ownDst, Env.kd, ofConst, isConst, binA, intI, cmpI, shiftI, convertA, buildA, fillA, fillS, splice, AV.cells?, storeA, readAt, fieldAddrA, fieldA, indexA, extractA, unA, builtinA, appendA, lenA, sliceCells, isSliceK, makeInterfaceA, nilCheckA, eqA, AV.one, AV.plain, if_false, if_true, Nat.reduceEqDiff, reduceIte, Nat.reduceAdd, List.replicate, Nat.reduceLeDiff, Nat.reduceMul, Nat.reduceSub, Nat.reducePow, Int.reduceLT, Int.reduceLE, Int.reduceToNat, Int.reducePow, IntKind.bits, Int.reduceEq, Int.reduceMul, Int.reduceNeg, ne_eq, reduceCtorEq, escT, BEq.rfl, beq_self_eq_true, Int.reduceAdd, Int.reduceSub, Int.reduceMod, Int.reduceDiv, Nat.reduceMod, Nat.reduceDiv, Nat.reduceLT, cond_true, cond_false, gt_iff_lt, ge_iff_le, g0, g4, g5, g6, g7, g8, hk, hz0, ga, p1, wi, decide_true, Int.toNat_natCast, Nat.mul_one, YtjdnmejohadlbaaDoor.D21, ty2, ty3, ty4, ty95]
      refine callThen_of (l _) ?_
      simp (maxSteps := 2000000) only [wk0, wk1, wk2, wk3, wk4, keepA, keepT, Fr.keep, frzT, flatT, arrayAtA, ownT, extT, Fr.ev, Fr.put, Fr.get, initFr, buildSliceA, zeros, pkB, pkT, pkF, ownDst, Env.kd, ofConst, isConst, binA, intI, cmpI, shiftI, convertA, buildA, fillA, fillS, splice, AV.cells?, storeA, readAt, fieldAddrA, fieldA, indexA, extractA, unA, builtinA, appendA, lenA, sliceCells, isSliceK, makeInterfaceA, nilCheckA, eqA, AV.one, AV.plain, if_false, if_true, Nat.reduceEqDiff, reduceIte, Nat.reduceAdd, List.replicate, Nat.reduceLeDiff, Nat.reduceMul, Nat.reduceSub, Nat.reducePow, Int.reduceLT, Int.reduceLE, Int.reduceToNat, Int.reducePow, IntKind.bits, Int.reduceEq, Int.reduceMul, Int.reduceNeg, ne_eq, reduceCtorEq, escT, BEq.rfl, beq_self_eq_true, Int.reduceAdd, Int.reduceSub, Int.reduceMod, Int.reduceDiv, Nat.reduceMod, Nat.reduceDiv, Nat.reduceLT, cond_true, cond_false, gt_iff_lt, ge_iff_le, g0, g4, g5, g6, g7, g8, hk, hz0, ga, p1, wi, decide_true, Int.toNat_natCast, Nat.mul_one, YtjdnmejohadlbaaDoor.D21, ty2, ty3, ty4, ty95]
      exact ih (m - 1) _ _ (by omega) ⟨k + 1, by omega, by simp [Fr.get, g0], by rw [hs]; simp [Fr.get], by rw [hs]; simp [Fr.get], by rw [hs]; simp [Fr.get], by simp [Fr.get, g7], by simp [Fr.get], rfl⟩
    · have l := fun S => refTurnR_ok (run k).x (run k).y k S (hin k).x (hin k).y (by omega)
      rw [decide_eq_false hz0, stepP_right] at hs
      simp (maxSteps := 2000000) only [wk0, wk1, wk2, wk3, wk4, keepA, keepT, Fr.keep, frzT, flatT, arrayAtA, ownT, extT, Fr.ev, Fr.put, Fr.get, initFr, buildSliceA, zeros, pkB, pkT, pkF, ownDst, Env.kd, ofConst, isConst, binA, intI, cmpI, shiftI, convertA, buildA, fillA, fillS, splice, AV.cells?, storeA, readAt, fieldAddrA, fieldA, indexA, extractA, unA, builtinA, appendA, lenA, sliceCells, isSliceK, makeInterfaceA, nilCheckA, eqA, AV.one, AV.plain, if_false, if_true, Nat.reduceEqDiff, reduceIte, Nat.reduceAdd, List.replicate, Nat.reduceLeDiff, Nat.reduceMul, Nat.reduceSub, Nat.reducePow, Int.reduceLT, Int.reduceLE, Int.reduceToNat, Int.reducePow, IntKind.bits, Int.reduceEq, Int.reduceMul, Int.reduceNeg, ne_eq, reduceCtorEq, escT, BEq.rfl, beq_self_eq_true, Int.reduceAdd, Int.reduceSub, Int.reduceMod, Int.reduceDiv, Nat.reduceMod, Nat.reduceDiv, Nat.reduceLT, cond_true, cond_false, gt_iff_lt, ge_iff_le, g0, g4, g5, g6, g7, g8, hk, hz0, ga, p1, wi, decide_false, Int.toNat_natCast, Nat.mul_one, YtjdnmejohadlbaaDoor.D21, ty2, ty3, ty4, ty95]
      refine callThen_of (l _) ?_
      simp (maxSteps := 2000000) only [wk0, wk1, wk2, wk3, wk4, keepA, keepT, Fr.keep, frzT, flatT, arrayAtA, ownT, extT, Fr.ev, Fr.put, Fr.get, initFr, buildSliceA, zeros, pkB, pkT, pkF, ownDst, Env.kd, ofConst, isConst, binA, intI, cmpI, shiftI, convertA, buildA, fillA, fillS, splice, AV.cells?, storeA, readAt, fieldAddrA, fieldA, indexA, extractA, unA, builtinA, appendA, lenA, sliceCells, isSliceK, makeInterfaceA, nilCheckA, eqA, AV.one, AV.plain, if_false, if_true, Nat.reduceEqDiff, reduceIte, Nat.reduceAdd, List.replicate, Nat.reduceLeDiff, Nat.reduceMul, Nat.reduceSub, Nat.reducePow, Int.reduceLT, Int.reduceLE, Int.reduceToNat, Int.reducePow, IntKind.bits, Int.reduceEq, Int.reduceMul, Int.reduceNeg, ne_eq, reduceCtorEq, escT, BEq.rfl, beq_self_eq_true, Int.reduceAdd, Int.reduceSub, Int.reduceMod, Int.reduceDiv, Nat.reduceMod, Nat.reduceDiv, Nat.reduceLT, cond_true, cond_false, gt_iff_lt, ge_iff_le, g0, g4, g5, g6, g7, g8, hk, hz0, ga, p1, wi, decide_false, Int.toNat_natCast, Nat.mul_one, YtjdnmejohadlbaaDoor.D21, ty2, ty3, ty4, ty95]
      exact ih (m - 1) _ _ (by omega) ⟨k + 1, by omega, by simp [Fr.get, g0], by rw [hs]; simp [Fr.get], by rw [hs]; simp [Fr.get], by rw [hs]; simp [Fr.get], by simp [Fr.get, g7], by simp [Fr.get], rfl⟩
  · obtain rfl : k = 40 := by omega
    have e0 : ¬ (1 : Int) = 0 := by decide
    have e1 : ¬ (2 : Int) = 0 := by decide
    have e2 : ¬ (2 : Int) = 1 := by decide
    have e3 : ¬ (3 : Int) = 0 := by decide
    have e4 : ¬ (3 : Int) = 1 := by decide
    have e5 : ¬ (3 : Int) = 2 := by decide
    rcases hq with hq | hq | hq | hq
    all_goals
      rw [hq] at ed w3
      simp only [hq, e0, e1, e2, e3, e4, e5, if_true, if_false]
      simp (maxSteps := 2000000) only [wk0, wk1, wk2, wk3, wk4, keepA, keepT, Fr.keep, frzT, flatT, arrayAtA, ownT, extT, Fr.ev, Fr.put, Fr.get, initFr, buildSliceA, zeros, pkB, pkT, pkF, ownDst, Env.kd, ofConst, isConst, binA, intI, cmpI, shiftI, convertA, buildA, fillA, fillS, splice, AV.cells?, storeA, readAt, fieldAddrA, fieldA, indexA, extractA, unA, builtinA, appendA, lenA, sliceCells, isSliceK, makeInterfaceA, nilCheckA, eqA, AV.one, AV.plain, if_false, if_true, Nat.reduceEqDiff, reduceIte, Nat.reduceAdd, List.replicate, Nat.reduceLeDiff, Nat.reduceMul, Nat.reduceSub, Nat.reducePow, Int.reduceLT, Int.reduceLE, Int.reduceToNat, Int.reducePow, IntKind.bits, Int.reduceEq, Int.reduceMul, Int.reduceNeg, ne_eq, reduceCtorEq, escT, BEq.rfl, beq_self_eq_true, Int.reduceAdd, Int.reduceSub, Int.reduceMod, Int.reduceDiv, Nat.reduceMod, Nat.reduceDiv, Nat.reduceLT, cond_true, cond_false, gt_iff_lt, ge_iff_le, g0, g4, g5, g6, g7, g8, hk, n1, n2, ed, w3, YtjdnmejohadlbaaDoor.D21, ty2, ty3, ty4, ty95]
      refine callThen_of (r1 _) ?_
      simp (maxSteps := 2000000) only [wk0, wk1, wk2, wk3, wk4, keepA, keepT, Fr.keep, frzT, flatT, arrayAtA, ownT, extT, Fr.ev, Fr.put, Fr.get, initFr, buildSliceA, zeros, pkB, pkT, pkF, ownDst, Env.kd, ofConst, isConst, binA, intI, cmpI, shiftI, convertA, buildA, fillA, fillS, splice, AV.cells?, storeA, readAt, fieldAddrA, fieldA, indexA, extractA, unA, builtinA, appendA, lenA, sliceCells, isSliceK, makeInterfaceA, nilCheckA, eqA, AV.one, AV.plain, if_false, if_true, Nat.reduceEqDiff, reduceIte, Nat.reduceAdd, List.replicate, Nat.reduceLeDiff, Nat.reduceMul, Nat.reduceSub, Nat.reducePow, Int.reduceLT, Int.reduceLE, Int.reduceToNat, Int.reducePow, IntKind.bits, Int.reduceEq, Int.reduceMul, Int.reduceNeg, ne_eq, reduceCtorEq, escT, BEq.rfl, beq_self_eq_true, Int.reduceAdd, Int.reduceSub, Int.reduceMod, Int.reduceDiv, Nat.reduceMod, Nat.reduceDiv, Nat.reduceLT, cond_true, cond_false, gt_iff_lt, ge_iff_le, g0, g4, g5, g6, g7, g8, hk, n1, n2, ed, w3, YtjdnmejohadlbaaDoor.D21, ty2, ty3, ty4, ty95]
      refine callThen_of (r2 _) ?_
      simp (maxSteps := 2000000) only [wk0, wk1, wk2, wk3, wk4, keepA, keepT, Fr.keep, frzT, flatT, arrayAtA, ownT, extT, Fr.ev, Fr.put, Fr.get, initFr, buildSliceA, zeros, pkB, pkT, pkF, ownDst, Env.kd, ofConst, isConst, binA, intI, cmpI, shiftI, convertA, buildA, fillA, fillS, splice, AV.cells?, storeA, readAt, fieldAddrA, fieldA, indexA, extractA, unA, builtinA, appendA, lenA, sliceCells, isSliceK, makeInterfaceA, nilCheckA, eqA, AV.one, AV.plain, if_false, if_true, Nat.reduceEqDiff, reduceIte, Nat.reduceAdd, List.replicate, Nat.reduceLeDiff, Nat.reduceMul, Nat.reduceSub, Nat.reducePow, Int.reduceLT, Int.reduceLE, Int.reduceToNat, Int.reducePow, IntKind.bits, Int.reduceEq, Int.reduceMul, Int.reduceNeg, ne_eq, reduceCtorEq, escT, BEq.rfl, beq_self_eq_true, Int.reduceAdd, Int.reduceSub, Int.reduceMod, Int.reduceDiv, Nat.reduceMod, Nat.reduceDiv, Nat.reduceLT, cond_true, cond_false, gt_iff_lt, ge_iff_le, g0, g4, g5, g6, g7, g8, hk, n1, n2, ed, w3, YtjdnmejohadlbaaDoor.D21, ty2, ty3, ty4, ty95]
      exact retB_plain (by simp [nmd_int]) rfl (by simp)
theorem refPlace_ok (t far : Int) (S : Heap) (ht : 0 ≤ t ∧ t < 4294967296) (hf : 0 ≤ far ∧ far ≤ 4611686018427387903) : Call theE 26 [.int .i64 t, .int .i64 far] S (.tup [.int .i64 (plX t far), .int .i64 (plY t far)]) S := by
  have b := fun S => refBoth_ok t S ht
  have h1 := sinT_in t
  have h2 := cosT_in t
  have m1 := fun S => refDot_ok _ _ [far] [sinT t] 30 S (SlI.lst _) (SlI.lst _) (by omega) rfl (by simp) (by simp; unfold inI; omega) (by simp; unfold inI; omega)
  have m2 := fun S => refDot_ok _ _ [far] [cosT t] 30 S (SlI.lst _) (SlI.lst _) (by omega) rfl (by simp) (by simp; unfold inI; omega) (by simp; unfold inI; omega)
  have e1 : dotZ [far] [sinT t] = far * sinT t := by simp [dotZ]
  have e2 : dotZ [far] [cosT t] = far * cosT t := by simp [dotZ]
  rw [e1] at m1
  rw [e2] at m2
  change ∀ S, Call theE _ [_, _, .int .i64 30] _ (.tup [.int .i64 (plX t far), _]) _ at m1
  change ∀ S, Call theE _ [_, _, .int .i64 30] _ (.tup [.int .i64 (plY t far), _]) _ at m2
  simp only [List.map_cons, List.map_nil, List.length_cons, List.length_nil, Nat.zero_add] at m1 m2
  refine Call.ofC Tryd.func26 YtjdnmejohadlbaaDoor.b26 YtjdnmejohadlbaaDoor.d26 YtjdnmejohadlbaaDoor.e26 (by simp [Tryd.f26]) ?_
  dsimp only [YtjdnmejohadlbaaDoor.c26, Tryd.f26, Option.getD_some]
  simp (maxSteps := 2000000) only [wk0, wk1, wk2, wk3, wk4, keepA, keepT, Fr.keep, frzT, flatT, arrayAtA, ownT, extT, Fr.ev, Fr.put, Fr.get, initFr, buildSliceA, zeros, pkB, pkT, pkF, ownDst, Env.kd, ofConst, isConst, binA, intI, cmpI, shiftI, convertA, buildA, fillA, fillS, splice, AV.cells?, storeA, readAt, fieldAddrA, fieldA, indexA, extractA, unA, builtinA, appendA, lenA, sliceCells, isSliceK, makeInterfaceA, nilCheckA, eqA, AV.one, AV.plain, if_false, if_true, Nat.reduceEqDiff, reduceIte, Nat.reduceAdd, List.replicate, Nat.reduceLeDiff, Nat.reduceMul, Nat.reduceSub, Nat.reducePow, Int.reduceLT, Int.reduceLE, Int.reduceToNat, Int.reducePow, IntKind.bits, Int.reduceEq, Int.reduceMul, Int.reduceNeg, ne_eq, reduceCtorEq, escT, BEq.rfl, beq_self_eq_true, Int.reduceAdd, Int.reduceSub, Int.reduceMod, Int.reduceDiv, Nat.reduceMod, Nat.reduceDiv, Nat.reduceLT, cond_true, cond_false, gt_iff_lt, ge_iff_le, YtjdnmejohadlbaaDoor.D26, ty1, ty2, ty3, ty4, ty95]
  refine callThen_of (b _) ?_
  simp (maxSteps := 2000000) only [wk0, wk1, wk2, wk3, wk4, keepA, keepT, Fr.keep, frzT, flatT, arrayAtA, ownT, extT, Fr.ev, Fr.put, Fr.get, initFr, buildSliceA, zeros, pkB, pkT, pkF, ownDst, Env.kd, ofConst, isConst, binA, intI, cmpI, shiftI, convertA, buildA, fillA, fillS, splice, AV.cells?, storeA, readAt, fieldAddrA, fieldA, indexA, extractA, unA, builtinA, appendA, lenA, sliceCells, isSliceK, makeInterfaceA, nilCheckA, eqA, AV.one, AV.plain, if_false, if_true, Nat.reduceEqDiff, reduceIte, Nat.reduceAdd, List.replicate, Nat.reduceLeDiff, Nat.reduceMul, Nat.reduceSub, Nat.reducePow, Int.reduceLT, Int.reduceLE, Int.reduceToNat, Int.reducePow, IntKind.bits, Int.reduceEq, Int.reduceMul, Int.reduceNeg, ne_eq, reduceCtorEq, escT, BEq.rfl, beq_self_eq_true, Int.reduceAdd, Int.reduceSub, Int.reduceMod, Int.reduceDiv, Nat.reduceMod, Nat.reduceDiv, Nat.reduceLT, cond_true, cond_false, gt_iff_lt, ge_iff_le, YtjdnmejohadlbaaDoor.D26, ty1, ty2, ty3, ty4, ty95]
  refine callThen_of (m1 _) ?_
  simp (maxSteps := 2000000) only [wk0, wk1, wk2, wk3, wk4, keepA, keepT, Fr.keep, frzT, flatT, arrayAtA, ownT, extT, Fr.ev, Fr.put, Fr.get, initFr, buildSliceA, zeros, pkB, pkT, pkF, ownDst, Env.kd, ofConst, isConst, binA, intI, cmpI, shiftI, convertA, buildA, fillA, fillS, splice, AV.cells?, storeA, readAt, fieldAddrA, fieldA, indexA, extractA, unA, builtinA, appendA, lenA, sliceCells, isSliceK, makeInterfaceA, nilCheckA, eqA, AV.one, AV.plain, if_false, if_true, Nat.reduceEqDiff, reduceIte, Nat.reduceAdd, List.replicate, Nat.reduceLeDiff, Nat.reduceMul, Nat.reduceSub, Nat.reducePow, Int.reduceLT, Int.reduceLE, Int.reduceToNat, Int.reducePow, IntKind.bits, Int.reduceEq, Int.reduceMul, Int.reduceNeg, ne_eq, reduceCtorEq, escT, BEq.rfl, beq_self_eq_true, Int.reduceAdd, Int.reduceSub, Int.reduceMod, Int.reduceDiv, Nat.reduceMod, Nat.reduceDiv, Nat.reduceLT, cond_true, cond_false, gt_iff_lt, ge_iff_le, YtjdnmejohadlbaaDoor.D26, ty1, ty2, ty3, ty4, ty95]
  refine callThen_of (m2 _) ?_
  simp (maxSteps := 2000000) only [wk0, wk1, wk2, wk3, wk4, keepA, keepT, Fr.keep, frzT, flatT, arrayAtA, ownT, extT, Fr.ev, Fr.put, Fr.get, initFr, buildSliceA, zeros, pkB, pkT, pkF, ownDst, Env.kd, ofConst, isConst, binA, intI, cmpI, shiftI, convertA, buildA, fillA, fillS, splice, AV.cells?, storeA, readAt, fieldAddrA, fieldA, indexA, extractA, unA, builtinA, appendA, lenA, sliceCells, isSliceK, makeInterfaceA, nilCheckA, eqA, AV.one, AV.plain, if_false, if_true, Nat.reduceEqDiff, reduceIte, Nat.reduceAdd, List.replicate, Nat.reduceLeDiff, Nat.reduceMul, Nat.reduceSub, Nat.reducePow, Int.reduceLT, Int.reduceLE, Int.reduceToNat, Int.reducePow, IntKind.bits, Int.reduceEq, Int.reduceMul, Int.reduceNeg, ne_eq, reduceCtorEq, escT, BEq.rfl, beq_self_eq_true, Int.reduceAdd, Int.reduceSub, Int.reduceMod, Int.reduceDiv, Nat.reduceMod, Nat.reduceDiv, Nat.reduceLT, cond_true, cond_false, gt_iff_lt, ge_iff_le, YtjdnmejohadlbaaDoor.D26, ty1, ty2, ty3, ty4, ty95]
  exact retB_plain (by simp [nmd_int]) rfl (by simp)
theorem refMay05_ok (n : Int) (S : Heap) : Call theE 23 [.int .i64 n] S (.bool (decide (topJ n))) S := by
  unfold topJ
  refine Call.ofC Tryd.func23 YtjdnmejohadlbaaDoor.b23 YtjdnmejohadlbaaDoor.d23 YtjdnmejohadlbaaDoor.e23 (by simp [Tryd.f23]) ?_
  dsimp only [YtjdnmejohadlbaaDoor.c23, Tryd.f23, Option.getD_some]
  by_cases h1 : -4611686018427387903 ≤ n
  · by_cases h2 : n ≤ 4611686018427387903
    · simp (maxSteps := 2000000) only [wk0, wk1, wk2, wk3, wk4, keepA, keepT, Fr.keep, frzT, flatT, arrayAtA, ownT, extT, Fr.ev, Fr.put, Fr.get, initFr, buildSliceA, zeros, pkB, pkT, pkF, ownDst, Env.kd, ofConst, isConst, binA, intI, cmpI, shiftI, convertA, buildA, fillA, fillS, splice, AV.cells?, storeA, readAt, fieldAddrA, fieldA, indexA, extractA, unA, builtinA, appendA, lenA, sliceCells, isSliceK, makeInterfaceA, nilCheckA, eqA, AV.one, AV.plain, if_false, if_true, Nat.reduceEqDiff, reduceIte, Nat.reduceAdd, List.replicate, Nat.reduceLeDiff, Nat.reduceMul, Nat.reduceSub, Nat.reducePow, Int.reduceLT, Int.reduceLE, Int.reduceToNat, Int.reducePow, IntKind.bits, Int.reduceEq, Int.reduceMul, Int.reduceNeg, ne_eq, reduceCtorEq, escT, BEq.rfl, beq_self_eq_true, Int.reduceAdd, Int.reduceSub, Int.reduceMod, Int.reduceDiv, Nat.reduceMod, Nat.reduceDiv, Nat.reduceLT, cond_true, cond_false, gt_iff_lt, ge_iff_le, h1, h2, decide_true, YtjdnmejohadlbaaDoor.D23, ty2, ty4]
      exact retB_plain (by simp [nmd_bool]) (by simp [packA, h1, h2]) (by simp)
    · simp (maxSteps := 2000000) only [wk0, wk1, wk2, wk3, wk4, keepA, keepT, Fr.keep, frzT, flatT, arrayAtA, ownT, extT, Fr.ev, Fr.put, Fr.get, initFr, buildSliceA, zeros, pkB, pkT, pkF, ownDst, Env.kd, ofConst, isConst, binA, intI, cmpI, shiftI, convertA, buildA, fillA, fillS, splice, AV.cells?, storeA, readAt, fieldAddrA, fieldA, indexA, extractA, unA, builtinA, appendA, lenA, sliceCells, isSliceK, makeInterfaceA, nilCheckA, eqA, AV.one, AV.plain, if_false, if_true, Nat.reduceEqDiff, reduceIte, Nat.reduceAdd, List.replicate, Nat.reduceLeDiff, Nat.reduceMul, Nat.reduceSub, Nat.reducePow, Int.reduceLT, Int.reduceLE, Int.reduceToNat, Int.reducePow, IntKind.bits, Int.reduceEq, Int.reduceMul, Int.reduceNeg, ne_eq, reduceCtorEq, escT, BEq.rfl, beq_self_eq_true, Int.reduceAdd, Int.reduceSub, Int.reduceMod, Int.reduceDiv, Nat.reduceMod, Nat.reduceDiv, Nat.reduceLT, cond_true, cond_false, gt_iff_lt, ge_iff_le, h1, h2, decide_true, decide_false, YtjdnmejohadlbaaDoor.D23, ty2, ty4]
      exact retB_plain (by simp [nmd_bool]) (by simp [packA, h1, h2]) (by simp)
  · simp (maxSteps := 2000000) only [wk0, wk1, wk2, wk3, wk4, keepA, keepT, Fr.keep, frzT, flatT, arrayAtA, ownT, extT, Fr.ev, Fr.put, Fr.get, initFr, buildSliceA, zeros, pkB, pkT, pkF, ownDst, Env.kd, ofConst, isConst, binA, intI, cmpI, shiftI, convertA, buildA, fillA, fillS, splice, AV.cells?, storeA, readAt, fieldAddrA, fieldA, indexA, extractA, unA, builtinA, appendA, lenA, sliceCells, isSliceK, makeInterfaceA, nilCheckA, eqA, AV.one, AV.plain, if_false, if_true, Nat.reduceEqDiff, reduceIte, Nat.reduceAdd, List.replicate, Nat.reduceLeDiff, Nat.reduceMul, Nat.reduceSub, Nat.reducePow, Int.reduceLT, Int.reduceLE, Int.reduceToNat, Int.reducePow, IntKind.bits, Int.reduceEq, Int.reduceMul, Int.reduceNeg, ne_eq, reduceCtorEq, escT, BEq.rfl, beq_self_eq_true, Int.reduceAdd, Int.reduceSub, Int.reduceMod, Int.reduceDiv, Nat.reduceMod, Nat.reduceDiv, Nat.reduceLT, cond_true, cond_false, gt_iff_lt, ge_iff_le, h1, decide_false, YtjdnmejohadlbaaDoor.D23, ty2, ty4]
    exact retB_plain (by simp [nmd_bool]) (by simp [packA, h1]) (by simp)
end Go.Proofs.YtjdnmejohadlbaaDoor
