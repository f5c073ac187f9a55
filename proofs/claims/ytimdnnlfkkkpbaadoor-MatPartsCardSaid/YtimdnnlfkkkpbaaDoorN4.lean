/- mat: rows that are none, ones of no size; the statements' helpers of layer 8. -/
import Derived.Test.YtimdnnlfkkkpbaaDoorN3
set_option linter.unusedSimpArgs false
set_option linter.unusedVariables false
set_option maxRecDepth 100000
set_option maxHeartbeats 4000000
namespace Go.Proofs.YtimdnnlfkkkpbaaDoor
theorem eye_bad (n : Int) (S : Heap) (h : ¬ (1 ≤ n ∧ n ≤ 6)) : Call theE 24 [.int .i64 n] S (.tup [zeroM, errA 1]) S := by
  have s1 := fun S => sizedM_ok n S
  rw [decide_eq_false h] at s1
  refine Call.ofC Tryd.func24 YtimdnnlfkkkpbaaDoor.b24 YtimdnnlfkkkpbaaDoor.d24 YtimdnnlfkkkpbaaDoor.e24 (by simp [Tryd.f24]) ?_
  dsimp only [YtimdnnlfkkkpbaaDoor.c24, Tryd.f24, Option.getD_some]
  simp (maxSteps := 2000000) only [wk0, wk1, wk2, wk3, keepA, keepT, Fr.keep, frzT, flatT, arrayAtA, ownT, extT, Fr.ev, Fr.put, Fr.get, initFr, buildSliceA, zeros, pkB, pkT, pkF, ownDst, Env.kd, ofConst, isConst, binA, intI, cmpI, shiftI, convertA, buildA, fillA, fillS, splice, AV.cells?, storeA, readAt, fieldAddrA, fieldA, indexA, extractA, unA, builtinA, appendA, lenA, sliceCells, isSliceK, makeInterfaceA, nilCheckA, eqA, AV.one, AV.plain, if_false, if_true, Nat.reduceEqDiff, reduceIte, Nat.reduceAdd, List.replicate, Nat.reduceLeDiff, Nat.reduceMul, Nat.reduceSub, Nat.reducePow, Int.reduceLT, Int.reduceLE, Int.reduceToNat, Int.reducePow, IntKind.bits, Int.reduceEq, Int.reduceMul, Int.reduceNeg, ne_eq, reduceCtorEq, escT, BEq.rfl, beq_self_eq_true, Int.reduceAdd, Int.reduceSub, Int.reduceMod, Int.reduceDiv, Nat.reduceMod, Nat.reduceDiv, Nat.reduceLT, cond_true, cond_false, gt_iff_lt, ge_iff_le, YtimdnnlfkkkpbaaDoor.D24, ty2, ty3, ty4, ty25, ty47, ty49, ty85]
  refine callThen_of (s1 _) ?_
  simp (maxSteps := 2000000) only [wk0, wk1, wk2, wk3, keepA, keepT, Fr.keep, frzT, flatT, arrayAtA, ownT, extT, Fr.ev, Fr.put, Fr.get, initFr, buildSliceA, zeros, pkB, pkT, pkF, ownDst, Env.kd, ofConst, isConst, binA, intI, cmpI, shiftI, convertA, buildA, fillA, fillS, splice, AV.cells?, storeA, readAt, fieldAddrA, fieldA, indexA, extractA, unA, builtinA, appendA, lenA, sliceCells, isSliceK, makeInterfaceA, nilCheckA, eqA, AV.one, AV.plain, if_false, if_true, Nat.reduceEqDiff, reduceIte, Nat.reduceAdd, List.replicate, Nat.reduceLeDiff, Nat.reduceMul, Nat.reduceSub, Nat.reducePow, Int.reduceLT, Int.reduceLE, Int.reduceToNat, Int.reducePow, IntKind.bits, Int.reduceEq, Int.reduceMul, Int.reduceNeg, ne_eq, reduceCtorEq, escT, BEq.rfl, beq_self_eq_true, Int.reduceAdd, Int.reduceSub, Int.reduceMod, Int.reduceDiv, Nat.reduceMod, Nat.reduceDiv, Nat.reduceLT, cond_true, cond_false, gt_iff_lt, ge_iff_le, YtimdnnlfkkkpbaaDoor.D24, ty2, ty3, ty4, ty25, ty47, ty49, ty85]
  exact retB_plain (by simp [nmd_agg, nmd_int, nmd_ifc]) rfl (by simp)
theorem of_mat_bad (l : List (List Int)) (S : Heap) (h : ¬ MayR l) : Call theE 23 [lstL l] S (.tup [zeroM, errA 1]) S := by
  unfold MayR at h
  have s1 := fun S => sizedM_ok l.length S
  by_cases hl : 1 ≤ l.length ∧ l.length ≤ 6
  · rw [decide_eq_true (by omega)] at s1
    have h0 : 0 < l.length := by omega
    have e0 : l.getD 0 [] = l[0] := getD_lst h0
    rw [e0] at h
    obtain ⟨c, hr0⟩ : ∃ c, l[0].length = c := ⟨_, rfl⟩
    rw [hr0] at h
    have s2 := fun S => sizedM_ok c S
    have g0 := get_lstL h0
    have k0 : (0 : Int) < l.length := by omega
    by_cases hc : 1 ≤ c ∧ c ≤ 6
    · rw [decide_eq_true (by omega)] at s2
      have hne : ∃ k, ∃ hk : k < l.length, l[k].length ≠ c := Classical.byContradiction fun hn => h ⟨hl, hc, fun r hr => Classical.byContradiction fun h3 => by
        obtain ⟨k, hk, rfl⟩ := List.getElem_of_mem hr
        exact hn ⟨k, hk, h3⟩⟩
      have z36 : List.replicate 36 (AV.int .i64 0) = (gridP c (rowsF l) 0).map fun x => .int .i64 x := by rw [gridP_zero]; simp
      refine Call.ofC Tryd.func23 YtimdnnlfkkkpbaaDoor.b23 YtimdnnlfkkkpbaaDoor.d23 YtimdnnlfkkkpbaaDoor.e23 (by simp [Tryd.f23]) ?_
      dsimp only [YtimdnnlfkkkpbaaDoor.c23, Tryd.f23, Option.getD_some]
      simp (maxSteps := 2000000) only [wk0, wk1, wk2, wk3, keepA, keepT, Fr.keep, frzT, flatT, arrayAtA, ownT, extT, Fr.ev, Fr.put, Fr.get, initFr, buildSliceA, zeros, pkB, pkT, pkF, ownDst, Env.kd, ofConst, isConst, binA, intI, cmpI, shiftI, convertA, buildA, fillA, fillS, splice, AV.cells?, storeA, readAt, fieldAddrA, fieldA, indexA, extractA, unA, builtinA, appendA, lenA, sliceCells, isSliceK, makeInterfaceA, nilCheckA, eqA, AV.one, AV.plain, if_false, if_true, Nat.reduceEqDiff, reduceIte, Nat.reduceAdd, List.replicate, Nat.reduceLeDiff, Nat.reduceMul, Nat.reduceSub, Nat.reducePow, Int.reduceLT, Int.reduceLE, Int.reduceToNat, Int.reducePow, IntKind.bits, Int.reduceEq, Int.reduceMul, Int.reduceNeg, ne_eq, reduceCtorEq, escT, BEq.rfl, beq_self_eq_true, Int.reduceAdd, Int.reduceSub, Int.reduceMod, Int.reduceDiv, Nat.reduceMod, Nat.reduceDiv, Nat.reduceLT, cond_true, cond_false, gt_iff_lt, ge_iff_le, lstL, lstI, k0, g0, hr0, YtimdnnlfkkkpbaaDoor.D23, ty1, ty2, ty3, ty4, ty22, ty23, ty25, ty47, ty49, ty85]
      refine callThen_of (s1 _) ?_
      simp (maxSteps := 2000000) only [wk0, wk1, wk2, wk3, keepA, keepT, Fr.keep, frzT, flatT, arrayAtA, ownT, extT, Fr.ev, Fr.put, Fr.get, initFr, buildSliceA, zeros, pkB, pkT, pkF, ownDst, Env.kd, ofConst, isConst, binA, intI, cmpI, shiftI, convertA, buildA, fillA, fillS, splice, AV.cells?, storeA, readAt, fieldAddrA, fieldA, indexA, extractA, unA, builtinA, appendA, lenA, sliceCells, isSliceK, makeInterfaceA, nilCheckA, eqA, AV.one, AV.plain, if_false, if_true, Nat.reduceEqDiff, reduceIte, Nat.reduceAdd, List.replicate, Nat.reduceLeDiff, Nat.reduceMul, Nat.reduceSub, Nat.reducePow, Int.reduceLT, Int.reduceLE, Int.reduceToNat, Int.reducePow, IntKind.bits, Int.reduceEq, Int.reduceMul, Int.reduceNeg, ne_eq, reduceCtorEq, escT, BEq.rfl, beq_self_eq_true, Int.reduceAdd, Int.reduceSub, Int.reduceMod, Int.reduceDiv, Nat.reduceMod, Nat.reduceDiv, Nat.reduceLT, cond_true, cond_false, gt_iff_lt, ge_iff_le, lstL, lstI, k0, g0, hr0, YtimdnnlfkkkpbaaDoor.D23, ty1, ty2, ty3, ty4, ty22, ty23, ty25, ty47, ty49, ty85]
      refine callThen_of (s2 _) ?_
      simp (maxSteps := 2000000) only [wk0, wk1, wk2, wk3, keepA, keepT, Fr.keep, frzT, flatT, arrayAtA, ownT, extT, Fr.ev, Fr.put, Fr.get, initFr, buildSliceA, zeros, pkB, pkT, pkF, ownDst, Env.kd, ofConst, isConst, binA, intI, cmpI, shiftI, convertA, buildA, fillA, fillS, splice, AV.cells?, storeA, readAt, fieldAddrA, fieldA, indexA, extractA, unA, builtinA, appendA, lenA, sliceCells, isSliceK, makeInterfaceA, nilCheckA, eqA, AV.one, AV.plain, if_false, if_true, Nat.reduceEqDiff, reduceIte, Nat.reduceAdd, List.replicate, Nat.reduceLeDiff, Nat.reduceMul, Nat.reduceSub, Nat.reducePow, Int.reduceLT, Int.reduceLE, Int.reduceToNat, Int.reducePow, IntKind.bits, Int.reduceEq, Int.reduceMul, Int.reduceNeg, ne_eq, reduceCtorEq, escT, BEq.rfl, beq_self_eq_true, Int.reduceAdd, Int.reduceSub, Int.reduceMod, Int.reduceDiv, Nat.reduceMod, Nat.reduceDiv, Nat.reduceLT, cond_true, cond_false, gt_iff_lt, ge_iff_le, lstL, lstI, k0, g0, hr0, YtimdnnlfkkkpbaaDoor.D23, ty1, ty2, ty3, ty4, ty22, ty23, ty25, ty47, ty49, ty85]
      refine loopC_ind (fun m fr H => ∃ i : Nat, i + m = l.length ∧ (∃ k, ∃ hk : k < l.length, i ≤ k ∧ l[k].length ≠ c) ∧ fr.get 30 = .int .i64 i ∧ fr.get 29 = .int .i64 l.length ∧ fr.get 28 = lstL l ∧ fr.get 4 = .ptr (S.length + 1) 0 0 ∧ fr.get 2 = .ptr S.length 0 0 ∧
        H = S ++ [some ⟨zero38, 0⟩, some ⟨.int .i64 l.length :: .int .i64 c :: (gridP c (rowsF l) (i * c)).map fun x => .int .i64 x, 0⟩]) ?_ (n := l.length) ⟨0, by omega, (by obtain ⟨k, hk, h3⟩ := hne; exact ⟨k, hk, by omega, h3⟩), rfl, rfl, rfl, rfl, rfl, by rw [Nat.zero_mul, gridP_zero]; rfl⟩
      rintro m fr H ⟨i, him, ⟨k, hk, hik, hk3⟩, g30, g29, g28, g4, g2, rfl⟩ ih
      have hin : i < l.length := by omega
      have hi : (i : Int) < l.length := by omega
      have k1 : (0 : Int) ≤ i := by omega
      have wi : IntKind.i64.wrap ((i : Int) + 1) = ((i + 1 : Nat) : Int) := wrapI (by omega)
      have gl := get_lstL hin
      by_cases hri : l[i].length = c
      · have hic : (i + 1) * c ≤ 36 := by have := Nat.mul_le_mul (show i + 1 ≤ 6 by omega) hc.2; omega
        have hic' : i * c + c ≤ 36 := by rw [Nat.add_mul, Nat.one_mul] at hic; exact hic
        have w1 : IntKind.i64.wrap ((i : Int) * c) = ((i * c : Nat) : Int) := by rw [wrapI (by rw [← Int.natCast_mul]; omega)]; simp
        have q1 : (0 : Int) ≤ ((i * c : Nat) : Int) := by omega
        have q2 : ((i * c : Nat) : Int) ≤ 36 := by omega
        have q3 : ¬ ((i * c : Nat) : Int) = 36 := by omega
        have q4 : c ≤ 36 - i * c := by omega
        have q5 : 2 + i * c + c ≤ 38 := by omega
        have cr := copy_row (l.length : Int) (c : Int) (rowsF l) l.length c i hic
        rw [rowF_rows hin hri, List.append_assoc] at cr
        have tk : List.take c (l[i].map fun x => AV.int .i64 x) = l[i].map fun x => AV.int .i64 x := List.take_of_length_le (by simp [hri])
        have al : (List.map (fun x => AV.int .i64 x) l[i]).all AV.one = true := by simp [AV.one]
        simp (maxSteps := 2000000) only [wk0, wk1, wk2, wk3, keepA, keepT, Fr.keep, frzT, flatT, arrayAtA, ownT, extT, Fr.ev, Fr.put, Fr.get, initFr, buildSliceA, zeros, pkB, pkT, pkF, ownDst, Env.kd, ofConst, isConst, binA, intI, cmpI, shiftI, convertA, buildA, fillA, fillS, splice, AV.cells?, storeA, readAt, fieldAddrA, fieldA, indexA, extractA, unA, builtinA, appendA, lenA, sliceCells, isSliceK, makeInterfaceA, nilCheckA, eqA, AV.one, AV.plain, if_false, if_true, Nat.reduceEqDiff, reduceIte, Nat.reduceAdd, List.replicate, Nat.reduceLeDiff, Nat.reduceMul, Nat.reduceSub, Nat.reducePow, Int.reduceLT, Int.reduceLE, Int.reduceToNat, Int.reducePow, IntKind.bits, Int.reduceEq, Int.reduceMul, Int.reduceNeg, ne_eq, reduceCtorEq, escT, BEq.rfl, beq_self_eq_true, Int.reduceAdd, Int.reduceSub, Int.reduceMod, Int.reduceDiv, Nat.reduceMod, Nat.reduceDiv, Nat.reduceLT, cond_true, cond_false, gt_iff_lt, ge_iff_le, lstI, lstL, g30, g29, g28, g4, g2, hi, k1, Int.toNat_natCast, Nat.mul_one, gl, hri, w1, bd_none, bd_some, bv_int, sa_arr, q1, q2, q3, q4, q5, Int.le_refl, List.length_map, gridP_len, mayCopy_own, cp_sl, tk, al, cr, Nat.le_refl, wi, YtimdnnlfkkkpbaaDoor.D23, ty1, ty2, ty3, ty4, ty22, ty23, ty25, ty47, ty49, ty85]
        refine ih (m - 1) _ _ (by omega) ⟨i + 1, by omega, ⟨k, hk, ?_, hk3⟩, by simp [Fr.get], by simp [Fr.get, g29], by simp [Fr.get, g28, lstL], by simp [Fr.get, g4], by simp [Fr.get, g2], rfl⟩
        rcases Nat.lt_or_ge i k with h1 | h1
        · omega
        · obtain rfl : k = i := by omega
          exact absurd hri hk3
      · have hri' : ((l[i].length : Int) = c) = False := eq_false (by omega)
        have zl : zero38.length = 38 := by simp [zero38]
        have zd : List.drop 38 zero38 = [] := List.drop_eq_nil_of_le (by omega)
        simp (maxSteps := 2000000) only [wk0, wk1, wk2, wk3, keepA, keepT, Fr.keep, frzT, flatT, arrayAtA, ownT, extT, Fr.ev, Fr.put, Fr.get, initFr, buildSliceA, zeros, pkB, pkT, pkF, ownDst, Env.kd, ofConst, isConst, binA, intI, cmpI, shiftI, convertA, buildA, fillA, fillS, splice, AV.cells?, storeA, readAt, fieldAddrA, fieldA, indexA, extractA, unA, builtinA, appendA, lenA, sliceCells, isSliceK, makeInterfaceA, nilCheckA, eqA, AV.one, AV.plain, if_false, if_true, Nat.reduceEqDiff, reduceIte, Nat.reduceAdd, List.replicate, Nat.reduceLeDiff, Nat.reduceMul, Nat.reduceSub, Nat.reducePow, Int.reduceLT, Int.reduceLE, Int.reduceToNat, Int.reducePow, IntKind.bits, Int.reduceEq, Int.reduceMul, Int.reduceNeg, ne_eq, reduceCtorEq, escT, BEq.rfl, beq_self_eq_true, Int.reduceAdd, Int.reduceSub, Int.reduceMod, Int.reduceDiv, Nat.reduceMod, Nat.reduceDiv, Nat.reduceLT, cond_true, cond_false, gt_iff_lt, ge_iff_le, lstI, lstL, g30, g29, g28, g4, g2, hi, k1, Int.toNat_natCast, Nat.mul_one, gl, hri', zl, zd, YtimdnnlfkkkpbaaDoor.D23, ty1, ty2, ty3, ty4, ty22, ty23, ty25, ty47, ty49, ty85]
        exact retB_plain (by simp [nmd_agg, nmd_int, nmd_ifc]) rfl (by simp)
    · rw [decide_eq_false (by omega)] at s2
      refine Call.ofC Tryd.func23 YtimdnnlfkkkpbaaDoor.b23 YtimdnnlfkkkpbaaDoor.d23 YtimdnnlfkkkpbaaDoor.e23 (by simp [Tryd.f23]) ?_
      dsimp only [YtimdnnlfkkkpbaaDoor.c23, Tryd.f23, Option.getD_some]
      simp (maxSteps := 2000000) only [wk0, wk1, wk2, wk3, keepA, keepT, Fr.keep, frzT, flatT, arrayAtA, ownT, extT, Fr.ev, Fr.put, Fr.get, initFr, buildSliceA, zeros, pkB, pkT, pkF, ownDst, Env.kd, ofConst, isConst, binA, intI, cmpI, shiftI, convertA, buildA, fillA, fillS, splice, AV.cells?, storeA, readAt, fieldAddrA, fieldA, indexA, extractA, unA, builtinA, appendA, lenA, sliceCells, isSliceK, makeInterfaceA, nilCheckA, eqA, AV.one, AV.plain, if_false, if_true, Nat.reduceEqDiff, reduceIte, Nat.reduceAdd, List.replicate, Nat.reduceLeDiff, Nat.reduceMul, Nat.reduceSub, Nat.reducePow, Int.reduceLT, Int.reduceLE, Int.reduceToNat, Int.reducePow, IntKind.bits, Int.reduceEq, Int.reduceMul, Int.reduceNeg, ne_eq, reduceCtorEq, escT, BEq.rfl, beq_self_eq_true, Int.reduceAdd, Int.reduceSub, Int.reduceMod, Int.reduceDiv, Nat.reduceMod, Nat.reduceDiv, Nat.reduceLT, cond_true, cond_false, gt_iff_lt, ge_iff_le, lstL, lstI, k0, g0, hr0, YtimdnnlfkkkpbaaDoor.D23, ty1, ty2, ty3, ty4, ty22, ty23, ty25, ty47, ty49, ty85]
      refine callThen_of (s1 _) ?_
      simp (maxSteps := 2000000) only [wk0, wk1, wk2, wk3, keepA, keepT, Fr.keep, frzT, flatT, arrayAtA, ownT, extT, Fr.ev, Fr.put, Fr.get, initFr, buildSliceA, zeros, pkB, pkT, pkF, ownDst, Env.kd, ofConst, isConst, binA, intI, cmpI, shiftI, convertA, buildA, fillA, fillS, splice, AV.cells?, storeA, readAt, fieldAddrA, fieldA, indexA, extractA, unA, builtinA, appendA, lenA, sliceCells, isSliceK, makeInterfaceA, nilCheckA, eqA, AV.one, AV.plain, if_false, if_true, Nat.reduceEqDiff, reduceIte, Nat.reduceAdd, List.replicate, Nat.reduceLeDiff, Nat.reduceMul, Nat.reduceSub, Nat.reducePow, Int.reduceLT, Int.reduceLE, Int.reduceToNat, Int.reducePow, IntKind.bits, Int.reduceEq, Int.reduceMul, Int.reduceNeg, ne_eq, reduceCtorEq, escT, BEq.rfl, beq_self_eq_true, Int.reduceAdd, Int.reduceSub, Int.reduceMod, Int.reduceDiv, Nat.reduceMod, Nat.reduceDiv, Nat.reduceLT, cond_true, cond_false, gt_iff_lt, ge_iff_le, lstL, lstI, k0, g0, hr0, YtimdnnlfkkkpbaaDoor.D23, ty1, ty2, ty3, ty4, ty22, ty23, ty25, ty47, ty49, ty85]
      refine callThen_of (s2 _) ?_
      simp (maxSteps := 2000000) only [wk0, wk1, wk2, wk3, keepA, keepT, Fr.keep, frzT, flatT, arrayAtA, ownT, extT, Fr.ev, Fr.put, Fr.get, initFr, buildSliceA, zeros, pkB, pkT, pkF, ownDst, Env.kd, ofConst, isConst, binA, intI, cmpI, shiftI, convertA, buildA, fillA, fillS, splice, AV.cells?, storeA, readAt, fieldAddrA, fieldA, indexA, extractA, unA, builtinA, appendA, lenA, sliceCells, isSliceK, makeInterfaceA, nilCheckA, eqA, AV.one, AV.plain, if_false, if_true, Nat.reduceEqDiff, reduceIte, Nat.reduceAdd, List.replicate, Nat.reduceLeDiff, Nat.reduceMul, Nat.reduceSub, Nat.reducePow, Int.reduceLT, Int.reduceLE, Int.reduceToNat, Int.reducePow, IntKind.bits, Int.reduceEq, Int.reduceMul, Int.reduceNeg, ne_eq, reduceCtorEq, escT, BEq.rfl, beq_self_eq_true, Int.reduceAdd, Int.reduceSub, Int.reduceMod, Int.reduceDiv, Nat.reduceMod, Nat.reduceDiv, Nat.reduceLT, cond_true, cond_false, gt_iff_lt, ge_iff_le, lstL, lstI, k0, g0, hr0, YtimdnnlfkkkpbaaDoor.D23, ty1, ty2, ty3, ty4, ty22, ty23, ty25, ty47, ty49, ty85]
      exact retB_plain (by simp [nmd_agg, nmd_int, nmd_ifc]) rfl (by simp)
  · rw [decide_eq_false (by omega)] at s1
    refine Call.ofC Tryd.func23 YtimdnnlfkkkpbaaDoor.b23 YtimdnnlfkkkpbaaDoor.d23 YtimdnnlfkkkpbaaDoor.e23 (by simp [Tryd.f23]) ?_
    dsimp only [YtimdnnlfkkkpbaaDoor.c23, Tryd.f23, Option.getD_some]
    simp (maxSteps := 2000000) only [wk0, wk1, wk2, wk3, keepA, keepT, Fr.keep, frzT, flatT, arrayAtA, ownT, extT, Fr.ev, Fr.put, Fr.get, initFr, buildSliceA, zeros, pkB, pkT, pkF, ownDst, Env.kd, ofConst, isConst, binA, intI, cmpI, shiftI, convertA, buildA, fillA, fillS, splice, AV.cells?, storeA, readAt, fieldAddrA, fieldA, indexA, extractA, unA, builtinA, appendA, lenA, sliceCells, isSliceK, makeInterfaceA, nilCheckA, eqA, AV.one, AV.plain, if_false, if_true, Nat.reduceEqDiff, reduceIte, Nat.reduceAdd, List.replicate, Nat.reduceLeDiff, Nat.reduceMul, Nat.reduceSub, Nat.reducePow, Int.reduceLT, Int.reduceLE, Int.reduceToNat, Int.reducePow, IntKind.bits, Int.reduceEq, Int.reduceMul, Int.reduceNeg, ne_eq, reduceCtorEq, escT, BEq.rfl, beq_self_eq_true, Int.reduceAdd, Int.reduceSub, Int.reduceMod, Int.reduceDiv, Nat.reduceMod, Nat.reduceDiv, Nat.reduceLT, cond_true, cond_false, gt_iff_lt, ge_iff_le, lstL, lstI, YtimdnnlfkkkpbaaDoor.D23, ty1, ty2, ty3, ty4, ty22, ty23, ty25, ty47, ty49, ty85]
    refine callThen_of (s1 _) ?_
    simp (maxSteps := 2000000) only [wk0, wk1, wk2, wk3, keepA, keepT, Fr.keep, frzT, flatT, arrayAtA, ownT, extT, Fr.ev, Fr.put, Fr.get, initFr, buildSliceA, zeros, pkB, pkT, pkF, ownDst, Env.kd, ofConst, isConst, binA, intI, cmpI, shiftI, convertA, buildA, fillA, fillS, splice, AV.cells?, storeA, readAt, fieldAddrA, fieldA, indexA, extractA, unA, builtinA, appendA, lenA, sliceCells, isSliceK, makeInterfaceA, nilCheckA, eqA, AV.one, AV.plain, if_false, if_true, Nat.reduceEqDiff, reduceIte, Nat.reduceAdd, List.replicate, Nat.reduceLeDiff, Nat.reduceMul, Nat.reduceSub, Nat.reducePow, Int.reduceLT, Int.reduceLE, Int.reduceToNat, Int.reducePow, IntKind.bits, Int.reduceEq, Int.reduceMul, Int.reduceNeg, ne_eq, reduceCtorEq, escT, BEq.rfl, beq_self_eq_true, Int.reduceAdd, Int.reduceSub, Int.reduceMod, Int.reduceDiv, Nat.reduceMod, Nat.reduceDiv, Nat.reduceLT, cond_true, cond_false, gt_iff_lt, ge_iff_le, lstL, lstI, YtimdnnlfkkkpbaaDoor.D23, ty1, ty2, ty3, ty4, ty22, ty23, ty25, ty47, ty49, ty85]
    exact retB_plain (by simp [nmd_agg, nmd_int, nmd_ifc]) rfl (by simp)
noncomputable def c27 : Code := Tryd.f27.body.getD .skip
theorem b27 : Tryd.f27.body = some c27 := rfl
theorem d27 : fnOk Tryd.f27 c27 = true := by kernel_rfl
def D27 : Nat → List Tag := fun _ => []
theorem e27 : drawsOk D27 c27 = true := by kernel_rfl
noncomputable def c26 : Code := Tryd.f26.body.getD .skip
theorem b26 : Tryd.f26.body = some c26 := rfl
theorem d26 : fnOk Tryd.f26 c26 = true := by kernel_rfl
def D26 : Nat → List Tag
  | 6 => [.pure, .pure, .pure, .quiet, .pure, .pure, .pure, .quiet, .seq, .pure]
  | _ => []
theorem e26 : drawsOk D26 c26 = true := by kernel_rfl
noncomputable def c28 : Code := Tryd.f28.body.getD .skip
theorem b28 : Tryd.f28.body = some c28 := rfl
theorem d28 : fnOk Tryd.f28 c28 = true := by kernel_rfl
def D28 : Nat → List Tag := fun _ => []
theorem e28 : drawsOk D28 c28 = true := by kernel_rfl
theorem rowsOf8_ok (r c : Nat) (f : Nat → Nat → Int) (S : Heap) (hr : 1 ≤ r ∧ r ≤ 6) (hc : 1 ≤ c ∧ c ≤ 6) : Call theE 27 [mk r c f] S (mtx r c f) S := by
  have tk := take36 (gridP_len c f (r * c))
  have ck := fun S => check_ok r c f S hr hc
  have rw1 := fun i S hi => rowM_ok r c i f S hr hc hi
  simp only [mk, matA, lstI, rowF_len] at ck rw1
  refine Call.ofC Tryd.func27 YtimdnnlfkkkpbaaDoor.b27 YtimdnnlfkkkpbaaDoor.d27 YtimdnnlfkkkpbaaDoor.e27 (by simp [Tryd.f27]) ?_
  dsimp only [YtimdnnlfkkkpbaaDoor.c27, Tryd.f27, Option.getD_some]
  simp (maxSteps := 2000000) only [wk0, wk1, wk2, wk3, keepA, keepT, Fr.keep, frzT, flatT, arrayAtA, ownT, extT, Fr.ev, Fr.put, Fr.get, initFr, buildSliceA, zeros, pkB, pkT, pkF, ownDst, Env.kd, ofConst, isConst, binA, intI, cmpI, shiftI, convertA, buildA, fillA, fillS, splice, AV.cells?, storeA, readAt, fieldAddrA, fieldA, indexA, extractA, unA, builtinA, appendA, lenA, sliceCells, isSliceK, makeInterfaceA, nilCheckA, eqA, AV.one, AV.plain, if_false, if_true, Nat.reduceEqDiff, reduceIte, Nat.reduceAdd, List.replicate, Nat.reduceLeDiff, Nat.reduceMul, Nat.reduceSub, Nat.reducePow, Int.reduceLT, Int.reduceLE, Int.reduceToNat, Int.reducePow, IntKind.bits, Int.reduceEq, Int.reduceMul, Int.reduceNeg, ne_eq, reduceCtorEq, escT, BEq.rfl, beq_self_eq_true, Int.reduceAdd, Int.reduceSub, Int.reduceMod, Int.reduceDiv, Nat.reduceMod, Nat.reduceDiv, Nat.reduceLT, cond_true, cond_false, gt_iff_lt, ge_iff_le, mk, matA, List.length_map, gridP_len, tk, YtimdnnlfkkkpbaaDoor.D27, ty1, ty3, ty4, ty22, ty23, ty25, ty49]
  refine callThen_of (ck _) ?_
  simp (maxSteps := 2000000) only [wk0, wk1, wk2, wk3, keepA, keepT, Fr.keep, frzT, flatT, arrayAtA, ownT, extT, Fr.ev, Fr.put, Fr.get, initFr, buildSliceA, zeros, pkB, pkT, pkF, ownDst, Env.kd, ofConst, isConst, binA, intI, cmpI, shiftI, convertA, buildA, fillA, fillS, splice, AV.cells?, storeA, readAt, fieldAddrA, fieldA, indexA, extractA, unA, builtinA, appendA, lenA, sliceCells, isSliceK, makeInterfaceA, nilCheckA, eqA, AV.one, AV.plain, if_false, if_true, Nat.reduceEqDiff, reduceIte, Nat.reduceAdd, List.replicate, Nat.reduceLeDiff, Nat.reduceMul, Nat.reduceSub, Nat.reducePow, Int.reduceLT, Int.reduceLE, Int.reduceToNat, Int.reducePow, IntKind.bits, Int.reduceEq, Int.reduceMul, Int.reduceNeg, ne_eq, reduceCtorEq, escT, BEq.rfl, beq_self_eq_true, Int.reduceAdd, Int.reduceSub, Int.reduceMod, Int.reduceDiv, Nat.reduceMod, Nat.reduceDiv, Nat.reduceLT, cond_true, cond_false, gt_iff_lt, ge_iff_le, mk, matA, List.length_map, gridP_len, tk, YtimdnnlfkkkpbaaDoor.D27, ty1, ty3, ty4, ty22, ty23, ty25, ty49]
  refine loopC_ind (fun m fr H => ∃ (i cap : Nat), i + m = r ∧ fr.get 1 = .ptr S.length 0 0 ∧ fr.get 3 = .sl (S.length + 1) i 0 i cap 1 ∧ fr.get 4 = .int .i64 (i : Int) ∧
    H = S ++ [some ⟨.int .i64 r :: .int .i64 c :: (gridP c f (r * c)).map fun x => .int .i64 x, 0⟩, some ⟨rowsA i c f, i⟩]) ?_ (n := r) ⟨0, 0, by omega, rfl, rfl, rfl, rfl⟩
  rintro m fr H ⟨i, cap, him, g1, g3, g4, rfl⟩ ih
  by_cases hi : (i : Int) < r
  · have hin : i < r := by omega
    have cs := rowsA_app i c f
    have cl := rowsA_len i c f
    have a1 : (i + 1) * 24 ≤ maxBytes := by unfold maxBytes; omega
    have a2 : i + 1 ≤ 9223372036854775807 := by omega
    have wi : IntKind.i64.wrap ((i : Int) + 1) = ((i + 1 : Nat) : Int) := wrapI (by omega)
    simp (maxSteps := 2000000) only [wk0, wk1, wk2, wk3, keepA, keepT, Fr.keep, frzT, flatT, arrayAtA, ownT, extT, Fr.ev, Fr.put, Fr.get, initFr, buildSliceA, zeros, pkB, pkT, pkF, ownDst, Env.kd, ofConst, isConst, binA, intI, cmpI, shiftI, convertA, buildA, fillA, fillS, splice, AV.cells?, storeA, readAt, fieldAddrA, fieldA, indexA, extractA, unA, builtinA, appendA, lenA, sliceCells, isSliceK, makeInterfaceA, nilCheckA, eqA, AV.one, AV.plain, if_false, if_true, Nat.reduceEqDiff, reduceIte, Nat.reduceAdd, List.replicate, Nat.reduceLeDiff, Nat.reduceMul, Nat.reduceSub, Nat.reducePow, Int.reduceLT, Int.reduceLE, Int.reduceToNat, Int.reducePow, IntKind.bits, Int.reduceEq, Int.reduceMul, Int.reduceNeg, ne_eq, reduceCtorEq, escT, BEq.rfl, beq_self_eq_true, Int.reduceAdd, Int.reduceSub, Int.reduceMod, Int.reduceDiv, Nat.reduceMod, Nat.reduceDiv, Nat.reduceLT, cond_true, cond_false, gt_iff_lt, ge_iff_le, g1, g3, g4, hi, List.length_map, gridP_len, tk, cs, cl, a1, a2, wi, Nat.mul_one, YtimdnnlfkkkpbaaDoor.D27, ty1, ty3, ty4, ty22, ty23, ty25, ty49]
    refine callThen_of (rw1 i _ hin) ?_
    simp (maxSteps := 2000000) only [wk0, wk1, wk2, wk3, keepA, keepT, Fr.keep, frzT, flatT, arrayAtA, ownT, extT, Fr.ev, Fr.put, Fr.get, initFr, buildSliceA, zeros, pkB, pkT, pkF, ownDst, Env.kd, ofConst, isConst, binA, intI, cmpI, shiftI, convertA, buildA, fillA, fillS, splice, AV.cells?, storeA, readAt, fieldAddrA, fieldA, indexA, extractA, unA, builtinA, appendA, lenA, sliceCells, isSliceK, makeInterfaceA, nilCheckA, eqA, AV.one, AV.plain, if_false, if_true, Nat.reduceEqDiff, reduceIte, Nat.reduceAdd, List.replicate, Nat.reduceLeDiff, Nat.reduceMul, Nat.reduceSub, Nat.reducePow, Int.reduceLT, Int.reduceLE, Int.reduceToNat, Int.reducePow, IntKind.bits, Int.reduceEq, Int.reduceMul, Int.reduceNeg, ne_eq, reduceCtorEq, escT, BEq.rfl, beq_self_eq_true, Int.reduceAdd, Int.reduceSub, Int.reduceMod, Int.reduceDiv, Nat.reduceMod, Nat.reduceDiv, Nat.reduceLT, cond_true, cond_false, gt_iff_lt, ge_iff_le, g1, g3, g4, hi, List.length_map, gridP_len, tk, cs, cl, a1, a2, wi, Nat.mul_one, YtimdnnlfkkkpbaaDoor.D27, ty1, ty3, ty4, ty22, ty23, ty25, ty49]
    exact ih (m - 1) _ _ (by omega) ⟨i + 1, i + 1, by omega, by simp [Fr.get, g1], by simp [Fr.get], by simp [Fr.get], rfl⟩
  · obtain rfl : i = r := by omega
    simp (maxSteps := 2000000) only [wk0, wk1, wk2, wk3, keepA, keepT, Fr.keep, frzT, flatT, arrayAtA, ownT, extT, Fr.ev, Fr.put, Fr.get, initFr, buildSliceA, zeros, pkB, pkT, pkF, ownDst, Env.kd, ofConst, isConst, binA, intI, cmpI, shiftI, convertA, buildA, fillA, fillS, splice, AV.cells?, storeA, readAt, fieldAddrA, fieldA, indexA, extractA, unA, builtinA, appendA, lenA, sliceCells, isSliceK, makeInterfaceA, nilCheckA, eqA, AV.one, AV.plain, if_false, if_true, Nat.reduceEqDiff, reduceIte, Nat.reduceAdd, List.replicate, Nat.reduceLeDiff, Nat.reduceMul, Nat.reduceSub, Nat.reducePow, Int.reduceLT, Int.reduceLE, Int.reduceToNat, Int.reducePow, IntKind.bits, Int.reduceEq, Int.reduceMul, Int.reduceNeg, ne_eq, reduceCtorEq, escT, BEq.rfl, beq_self_eq_true, Int.reduceAdd, Int.reduceSub, Int.reduceMod, Int.reduceDiv, Nat.reduceMod, Nat.reduceDiv, Nat.reduceLT, cond_true, cond_false, gt_iff_lt, ge_iff_le, g1, g3, g4, hi, YtimdnnlfkkkpbaaDoor.D27, ty1, ty3, ty4, ty22, ty23, ty25, ty49]
    exact retB_one (fin_rows (by omega) (by rw [blkAt_app, blkAt_succ, blkAt_zero])) (by simp)
theorem sameRows8_ok (r c : Nat) (f : Nat → Nat → Int) (S : Heap) (hr : r ≤ 1000) (hc : c ≤ 1000) : Call theE 26 [mtx r c f, mtx r c f] S (.bool true) S := by
  have nu := fun i S => nums08_ok (rowF f c i) (rowF f c i) S (by rw [rowF_len]; unfold maxLen; omega)
  simp only [lstI, rowF_len, decide_true] at nu
  refine Call.ofC Tryd.func26 YtimdnnlfkkkpbaaDoor.b26 YtimdnnlfkkkpbaaDoor.d26 YtimdnnlfkkkpbaaDoor.e26 (by simp [Tryd.f26]) ?_
  dsimp only [YtimdnnlfkkkpbaaDoor.c26, Tryd.f26, Option.getD_some]
  simp (maxSteps := 2000000) only [wk0, wk1, wk2, wk3, keepA, keepT, Fr.keep, frzT, flatT, arrayAtA, ownT, extT, Fr.ev, Fr.put, Fr.get, initFr, buildSliceA, zeros, pkB, pkT, pkF, ownDst, Env.kd, ofConst, isConst, binA, intI, cmpI, shiftI, convertA, buildA, fillA, fillS, splice, AV.cells?, storeA, readAt, fieldAddrA, fieldA, indexA, extractA, unA, builtinA, appendA, lenA, sliceCells, isSliceK, makeInterfaceA, nilCheckA, eqA, AV.one, AV.plain, if_false, if_true, Nat.reduceEqDiff, reduceIte, Nat.reduceAdd, List.replicate, Nat.reduceLeDiff, Nat.reduceMul, Nat.reduceSub, Nat.reducePow, Int.reduceLT, Int.reduceLE, Int.reduceToNat, Int.reducePow, IntKind.bits, Int.reduceEq, Int.reduceMul, Int.reduceNeg, ne_eq, reduceCtorEq, escT, BEq.rfl, beq_self_eq_true, Int.reduceAdd, Int.reduceSub, Int.reduceMod, Int.reduceDiv, Nat.reduceMod, Nat.reduceDiv, Nat.reduceLT, cond_true, cond_false, gt_iff_lt, ge_iff_le, mtx, YtimdnnlfkkkpbaaDoor.D26, ty3, ty4, ty22, ty23]
  refine loopC_ind (fun m fr H => ∃ i : Nat, i + m = r ∧ fr.get 0 = .lst (rowsA r c f) r ∧ fr.get 1 = .lst (rowsA r c f) r ∧ fr.get 5 = .int .i64 (i : Int) ∧ H = S) ?_ (n := r) ⟨0, by omega, rfl, rfl, rfl, rfl⟩
  rintro m fr H ⟨i, him, g0, g1, g5, rfl⟩ ih
  by_cases hi : (i : Int) < r
  · have hin : i < r := by omega
    have k1 : (0 : Int) ≤ i := by omega
    have gl := rowsA_get (c := c) (f := f) hin
    have wi : IntKind.i64.wrap ((i : Int) + 1) = ((i + 1 : Nat) : Int) := wrapI (by omega)
    simp (maxSteps := 2000000) only [wk0, wk1, wk2, wk3, keepA, keepT, Fr.keep, frzT, flatT, arrayAtA, ownT, extT, Fr.ev, Fr.put, Fr.get, initFr, buildSliceA, zeros, pkB, pkT, pkF, ownDst, Env.kd, ofConst, isConst, binA, intI, cmpI, shiftI, convertA, buildA, fillA, fillS, splice, AV.cells?, storeA, readAt, fieldAddrA, fieldA, indexA, extractA, unA, builtinA, appendA, lenA, sliceCells, isSliceK, makeInterfaceA, nilCheckA, eqA, AV.one, AV.plain, if_false, if_true, Nat.reduceEqDiff, reduceIte, Nat.reduceAdd, List.replicate, Nat.reduceLeDiff, Nat.reduceMul, Nat.reduceSub, Nat.reducePow, Int.reduceLT, Int.reduceLE, Int.reduceToNat, Int.reducePow, IntKind.bits, Int.reduceEq, Int.reduceMul, Int.reduceNeg, ne_eq, reduceCtorEq, escT, BEq.rfl, beq_self_eq_true, Int.reduceAdd, Int.reduceSub, Int.reduceMod, Int.reduceDiv, Nat.reduceMod, Nat.reduceDiv, Nat.reduceLT, cond_true, cond_false, gt_iff_lt, ge_iff_le, g0, g1, g5, hi, k1, gl, wi, Int.toNat_natCast, Nat.mul_one, YtimdnnlfkkkpbaaDoor.D26, ty3, ty4, ty22, ty23]
    refine callThen_of (nu i _) ?_
    simp (maxSteps := 2000000) only [wk0, wk1, wk2, wk3, keepA, keepT, Fr.keep, frzT, flatT, arrayAtA, ownT, extT, Fr.ev, Fr.put, Fr.get, initFr, buildSliceA, zeros, pkB, pkT, pkF, ownDst, Env.kd, ofConst, isConst, binA, intI, cmpI, shiftI, convertA, buildA, fillA, fillS, splice, AV.cells?, storeA, readAt, fieldAddrA, fieldA, indexA, extractA, unA, builtinA, appendA, lenA, sliceCells, isSliceK, makeInterfaceA, nilCheckA, eqA, AV.one, AV.plain, if_false, if_true, Nat.reduceEqDiff, reduceIte, Nat.reduceAdd, List.replicate, Nat.reduceLeDiff, Nat.reduceMul, Nat.reduceSub, Nat.reducePow, Int.reduceLT, Int.reduceLE, Int.reduceToNat, Int.reducePow, IntKind.bits, Int.reduceEq, Int.reduceMul, Int.reduceNeg, ne_eq, reduceCtorEq, escT, BEq.rfl, beq_self_eq_true, Int.reduceAdd, Int.reduceSub, Int.reduceMod, Int.reduceDiv, Nat.reduceMod, Nat.reduceDiv, Nat.reduceLT, cond_true, cond_false, gt_iff_lt, ge_iff_le, g0, g1, g5, hi, k1, gl, wi, Int.toNat_natCast, Nat.mul_one, YtimdnnlfkkkpbaaDoor.D26, ty3, ty4, ty22, ty23]
    exact ih (m - 1) _ _ (by omega) ⟨i + 1, by omega, by simp [Fr.get, g0], by simp [Fr.get, g1], by simp [Fr.get], rfl⟩
  · simp (maxSteps := 2000000) only [wk0, wk1, wk2, wk3, keepA, keepT, Fr.keep, frzT, flatT, arrayAtA, ownT, extT, Fr.ev, Fr.put, Fr.get, initFr, buildSliceA, zeros, pkB, pkT, pkF, ownDst, Env.kd, ofConst, isConst, binA, intI, cmpI, shiftI, convertA, buildA, fillA, fillS, splice, AV.cells?, storeA, readAt, fieldAddrA, fieldA, indexA, extractA, unA, builtinA, appendA, lenA, sliceCells, isSliceK, makeInterfaceA, nilCheckA, eqA, AV.one, AV.plain, if_false, if_true, Nat.reduceEqDiff, reduceIte, Nat.reduceAdd, List.replicate, Nat.reduceLeDiff, Nat.reduceMul, Nat.reduceSub, Nat.reducePow, Int.reduceLT, Int.reduceLE, Int.reduceToNat, Int.reducePow, IntKind.bits, Int.reduceEq, Int.reduceMul, Int.reduceNeg, ne_eq, reduceCtorEq, escT, BEq.rfl, beq_self_eq_true, Int.reduceAdd, Int.reduceSub, Int.reduceMod, Int.reduceDiv, Nat.reduceMod, Nat.reduceDiv, Nat.reduceLT, cond_true, cond_false, gt_iff_lt, ge_iff_le, g0, g1, g5, hi, YtimdnnlfkkkpbaaDoor.D26, ty3, ty4, ty22, ty23]
    exact retB_plain (by simp [nmd_bool]) rfl (by simp)
theorem eye_row (n i : Nat) (hi : i < n) : (List.replicate n (AV.int .i64 0)).set i (.int .i64 1048576) = (rowF (eyeP n) n i).map fun x => .int .i64 x := by
  apply List.ext_getElem
  · simp [rowF]
  · intro j h1 h2
    have hj : j < n := by simpa using h1
    simp only [List.getElem_set, List.getElem_replicate, rowF, List.getElem_map, List.getElem_range, eyeP]
    by_cases e : i = j
    · rw [if_pos e, if_pos ⟨e, hi⟩]
    · rw [if_neg e, if_neg fun h => e h.1]
theorem zeros_rep (n : Nat) : zeros [AV.int .i64 0] n = List.replicate n (.int .i64 0) := by
  unfold zeros
  induction n with
  | zero => rfl
  | succ n ih => rw [List.replicate_succ, List.flatten_cons, ih, List.replicate_succ]; rfl
theorem make_ints (P : Heap) (e n : Nat) (hn : n ≤ 1000000) : makeSliceA P (.slice e 1 8 [.int .i64 0]) (.int .i64 n) (.int .i64 n) = some (.sl P.length 0 0 n n 1, P ++ [some ⟨List.replicate n (.int .i64 0), 0⟩]) := by
  have h : makeSliceA P (.slice e 1 8 [.int .i64 0]) (.int .i64 n) (.int .i64 n) = if 0 ≤ (n : Int) ∧ (n : Int) ≤ n ∧ (n : Int).toNat * 8 ≤ maxBytes ∧ (n : Int) ≤ 9223372036854775807 ∧ [AV.int .i64 0].length = 1 then
    some (.sl P.length 0 0 (n : Int).toNat (n : Int).toNat 1, P ++ [some ⟨zeros [.int .i64 0] (n : Int).toNat, 0⟩]) else none := rfl
  have b3 : (n : Int).toNat = n := by omega
  rw [h, if_pos ⟨by omega, by omega, by rw [b3]; unfold maxBytes; omega, by omega, rfl⟩, b3, zeros_rep]
theorem refEye8_ok (n : Nat) (S : Heap) (hn : n ≤ 6) : Call theE 28 [.int .i64 n] S (mtx n n (eyeP n)) S := by
  refine Call.ofC Tryd.func28 YtimdnnlfkkkpbaaDoor.b28 YtimdnnlfkkkpbaaDoor.d28 YtimdnnlfkkkpbaaDoor.e28 (by simp [Tryd.f28]) ?_
  dsimp only [YtimdnnlfkkkpbaaDoor.c28, Tryd.f28, Option.getD_some]
  simp (maxSteps := 2000000) only [wk0, wk1, wk2, wk3, keepA, keepT, Fr.keep, frzT, flatT, arrayAtA, ownT, extT, Fr.ev, Fr.put, Fr.get, initFr, buildSliceA, zeros, pkB, pkT, pkF, ownDst, Env.kd, ofConst, isConst, binA, intI, cmpI, shiftI, convertA, buildA, fillA, fillS, splice, AV.cells?, storeA, readAt, fieldAddrA, fieldA, indexA, extractA, unA, builtinA, appendA, lenA, sliceCells, isSliceK, makeInterfaceA, nilCheckA, eqA, AV.one, AV.plain, if_false, if_true, Nat.reduceEqDiff, reduceIte, Nat.reduceAdd, List.replicate, Nat.reduceLeDiff, Nat.reduceMul, Nat.reduceSub, Nat.reducePow, Int.reduceLT, Int.reduceLE, Int.reduceToNat, Int.reducePow, IntKind.bits, Int.reduceEq, Int.reduceMul, Int.reduceNeg, ne_eq, reduceCtorEq, escT, BEq.rfl, beq_self_eq_true, Int.reduceAdd, Int.reduceSub, Int.reduceMod, Int.reduceDiv, Nat.reduceMod, Nat.reduceDiv, Nat.reduceLT, cond_true, cond_false, gt_iff_lt, ge_iff_le, YtimdnnlfkkkpbaaDoor.D28, ty1, ty2, ty3, ty4, ty22, ty23]
  refine loopC_ind (fun m fr H => ∃ (i cap : Nat) (T : Heap), i + m = n ∧ fr.get 0 = .int .i64 n ∧ fr.get 3 = .sl S.length i 0 i cap 1 ∧ fr.get 4 = .int .i64 (i : Int) ∧
    S ++ some ⟨rowsA i n (eyeP n), i⟩ :: T = H) ?_ (n := n) ⟨0, 0, [], by omega, rfl, rfl, rfl, rfl⟩
  rintro m fr P ⟨i, cap, T, him, g0, g3, g4, hP⟩ ih
  have tb := fun L => tail_blk hP L rfl
  have tb0 := tail_blk0 hP rfl
  have ts := fun L b => tail_set hP L b
  have tm := fun vs => tail_may hP vs
  have lP : S.length ≤ P.length := by rw [← hP]; simp
  by_cases hi : (i : Int) < n
  · have hin : i < n := by omega
    have k1 : (0 : Int) ≤ i := by omega
    have mk := fun e => make_ints P e n (by omega)
    have er := eye_row n i hin
    have cs := rowsA_app i n (eyeP n)
    have cl := rowsA_len i n (eyeP n)
    have a1 : (i + 1) * 24 ≤ maxBytes := by unfold maxBytes; omega
    have a2 : i + 1 ≤ 9223372036854775807 := by omega
    have wi : IntKind.i64.wrap ((i : Int) + 1) = ((i + 1 : Nat) : Int) := wrapI (by omega)
    have hlt : i + 1 ≤ n := by omega
    have px := pl_nmd 0 (rowF (eyeP n) n i)
    have tk : List.take n ((rowF (eyeP n) n i).map fun x => AV.int .i64 x) = (rowF (eyeP n) n i).map fun x => .int .i64 x := List.take_of_length_le (by simp [rowF_len])
    simp (maxSteps := 2000000) only [wk0, wk1, wk2, wk3, keepA, keepT, Fr.keep, frzT, flatT, arrayAtA, ownT, extT, Fr.ev, Fr.put, Fr.get, initFr, buildSliceA, zeros, pkB, pkT, pkF, ownDst, Env.kd, ofConst, isConst, binA, intI, cmpI, shiftI, convertA, buildA, fillA, fillS, splice, AV.cells?, storeA, readAt, fieldAddrA, fieldA, indexA, extractA, unA, builtinA, appendA, lenA, sliceCells, isSliceK, makeInterfaceA, nilCheckA, eqA, AV.one, AV.plain, if_false, if_true, Nat.reduceEqDiff, reduceIte, Nat.reduceAdd, List.replicate, Nat.reduceLeDiff, Nat.reduceMul, Nat.reduceSub, Nat.reducePow, Int.reduceLT, Int.reduceLE, Int.reduceToNat, Int.reducePow, IntKind.bits, Int.reduceEq, Int.reduceMul, Int.reduceNeg, ne_eq, reduceCtorEq, escT, BEq.rfl, beq_self_eq_true, Int.reduceAdd, Int.reduceSub, Int.reduceMod, Int.reduceDiv, Nat.reduceMod, Nat.reduceDiv, Nat.reduceLT, cond_true, cond_false, gt_iff_lt, ge_iff_le, g0, g3, g4, hi, k1, mk, er, tm, lP, tb, tb0, ts, cl, cs, a1, a2, wi, hlt, List.length_map, List.length_replicate, rowF_len, Int.toNat_natCast, Nat.mul_one, Nat.zero_add, Nat.le_refl, tk, eq_true px, YtimdnnlfkkkpbaaDoor.D28, ty1, ty2, ty3, ty4, ty22, ty23]
    exact ih (m - 1) _ _ (by omega) ⟨i + 1, i + 1, _, by omega, by simp [Fr.get, g0], by simp [Fr.get], by simp [Fr.get], tail_step hP⟩
  · obtain rfl : i = n := by omega
    simp (maxSteps := 2000000) only [wk0, wk1, wk2, wk3, keepA, keepT, Fr.keep, frzT, flatT, arrayAtA, ownT, extT, Fr.ev, Fr.put, Fr.get, initFr, buildSliceA, zeros, pkB, pkT, pkF, ownDst, Env.kd, ofConst, isConst, binA, intI, cmpI, shiftI, convertA, buildA, fillA, fillS, splice, AV.cells?, storeA, readAt, fieldAddrA, fieldA, indexA, extractA, unA, builtinA, appendA, lenA, sliceCells, isSliceK, makeInterfaceA, nilCheckA, eqA, AV.one, AV.plain, if_false, if_true, Nat.reduceEqDiff, reduceIte, Nat.reduceAdd, List.replicate, Nat.reduceLeDiff, Nat.reduceMul, Nat.reduceSub, Nat.reducePow, Int.reduceLT, Int.reduceLE, Int.reduceToNat, Int.reducePow, IntKind.bits, Int.reduceEq, Int.reduceMul, Int.reduceNeg, ne_eq, reduceCtorEq, escT, BEq.rfl, beq_self_eq_true, Int.reduceAdd, Int.reduceSub, Int.reduceMod, Int.reduceDiv, Nat.reduceMod, Nat.reduceDiv, Nat.reduceLT, cond_true, cond_false, gt_iff_lt, ge_iff_le, g0, g3, g4, hi, YtimdnnlfkkkpbaaDoor.D28, ty1, ty2, ty3, ty4, ty22, ty23]
    exact retB_one (fin_rows (Nat.le_refl _) tb0) (tail_take hP).symm
end Go.Proofs.YtimdnnlfkkkpbaaDoor
