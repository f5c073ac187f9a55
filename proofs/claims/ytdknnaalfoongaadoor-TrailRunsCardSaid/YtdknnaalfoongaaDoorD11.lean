/- Decimals: a sum that begins with a number of no digits at all, and goes below nought. -/
import Derived.Test.YtdknnaalfoongaaDoorD9
set_option linter.unusedSimpArgs false
set_option linter.unusedVariables false
set_option maxRecDepth 100000
set_option maxHeartbeats 4000000
namespace Go.Proofs.YtdknnaalfoongaaDoor
theorem decLessN_ok (b : Nat) (S : Heap) (hb0 : 0 < b) : Call theE 80 [.nils, lstI (digs b)] S (.bool true) S := by
  have db := digs_len b
  have hl : 0 < lenD b := lenD_pos hb0
  have h1 : ¬ (0 : Int) = ((lenD b : Nat) : Int) := by omega
  have h2 : (0 : Int) < ((lenD b : Nat) : Int) := by omega
  refine Call.ofC Tryd.func80 YtdknnaalfoongaaDoor.b80 YtdknnaalfoongaaDoor.d80 YtdknnaalfoongaaDoor.e80 (by simp [Tryd.f80]) ?_
  dsimp only [YtdknnaalfoongaaDoor.c80, Tryd.f80, Option.getD_some]
  simp (maxSteps := 2000000) only [wk0, wk1, wk2, wk3, wk4, wk5, Fr.ev, Fr.put, Fr.get, pkB, pkT, pkF, storeA, if_false, if_true, Nat.reduceEqDiff, reduceIte, Nat.reduceAdd, List.replicate, Nat.reduceLeDiff, Nat.reduceMul, Nat.reduceSub, Nat.reducePow, Int.reduceLT, Int.reduceLE, Int.reduceToNat, Int.reducePow, IntKind.bits, Int.reduceEq, Int.reduceMul, Int.reduceNeg, ne_eq, reduceCtorEq, BEq.rfl, beq_self_eq_true, Int.reduceAdd, Int.reduceSub, Int.reduceMod, Int.reduceDiv, Nat.reduceMod, Nat.reduceDiv, Nat.reduceLT, cond_true, cond_false, gt_iff_lt, ge_iff_le, lstI, db, h1, h2, decide_true, YtdknnaalfoongaaDoor.D80, ty3, ty4, ty91]
  exact retB_plain (by simp [nmd_bool]) rfl (by simp)
theorem decMinusN_ok (b : Nat) (S : Heap) (hb0 : 0 < b) (hb : lenD b ≤ 90000) : Call theE 81 [lstI (digs b), .nils] S (lstI (digs b)) S := by
  have db := digs_len b
  have hl : 0 < lenD b := lenD_pos hb0
  refine Call.ofC Tryd.func81 YtdknnaalfoongaaDoor.b81 YtdknnaalfoongaaDoor.d81 YtdknnaalfoongaaDoor.e81 (by simp [Tryd.f81]) ?_
  dsimp only [YtdknnaalfoongaaDoor.c81, Tryd.f81, Option.getD_some]
  simp (maxSteps := 2000000) only [wk0, wk1, wk2, wk3, wk4, wk5, Fr.ev, Fr.put, Fr.get, pkB, pkT, pkF, storeA, if_false, if_true, Nat.reduceEqDiff, reduceIte, Nat.reduceAdd, List.replicate, Nat.reduceLeDiff, Nat.reduceMul, Nat.reduceSub, Nat.reducePow, Int.reduceLT, Int.reduceLE, Int.reduceToNat, Int.reducePow, IntKind.bits, Int.reduceEq, Int.reduceMul, Int.reduceNeg, ne_eq, reduceCtorEq, BEq.rfl, beq_self_eq_true, Int.reduceAdd, Int.reduceSub, Int.reduceMod, Int.reduceDiv, Nat.reduceMod, Nat.reduceDiv, Nat.reduceLT, cond_true, cond_false, gt_iff_lt, ge_iff_le, lstI, db, YtdknnaalfoongaaDoor.D81, ty1, ty3, ty4, ty91]
  refine loopC_ind (fun m fr H => ∃ i cap : Nat, i + m = lenD b ∧ fr.get 0 = .lst ((digs b).map fun x => .int .i64 x) (lenD b) ∧ fr.get 1 = .nils ∧ fr.get 5 = .sl S.length i 0 i cap 1 ∧ fr.get 6 = .int .i64 0 ∧ fr.get 7 = .int .i64 (i : Int) ∧
    H = S ++ [some ⟨(dgN b i).map fun x => .int .i64 x, i⟩]) ?_ (n := lenD b) ⟨0, 0, by omega, rfl, rfl, rfl, rfl, rfl, rfl⟩
  rintro m fr H ⟨i, cap, him, g0, g1, g5, g6, g7, rfl⟩ ih
  have cl : (dgN b i).length = i := dgN_len _ _
  have a1 : (i + 1) * 8 ≤ maxBytes := by unfold maxBytes; omega
  have a2 : i + 1 ≤ 9223372036854775807 := by omega
  have p1 : (0 : Int) ≤ (i : Int) := by omega
  have p0 : ¬ (i : Int) < 0 := by omega
  have wi : IntKind.i64.wrap ((i : Int) + 1) = ((i + 1 : Nat) : Int) := wrapI (by omega)
  by_cases hi : (i : Int) < ((lenD b : Nat) : Int)
  · have gb := digs_getA b (show i < lenD b by omega)
    have y1 := dgt_lt b i
    have cs := dgN_app b i
    have w1 : IntKind.i64.wrap (((dgt b i : Nat) : Int) - 0) = ((dgt b i : Nat) : Int) := by rw [wrapI (by omega)]; omega
    have q0 : ¬ ((dgt b i : Nat) : Int) < 0 := by omega
    simp (maxSteps := 2000000) only [wk0, wk1, wk2, wk3, wk4, wk5, Fr.ev, Fr.put, Fr.get, pkB, pkT, pkF, storeA, if_false, if_true, Nat.reduceEqDiff, reduceIte, Nat.reduceAdd, List.replicate, Nat.reduceLeDiff, Nat.reduceMul, Nat.reduceSub, Nat.reducePow, Int.reduceLT, Int.reduceLE, Int.reduceToNat, Int.reducePow, IntKind.bits, Int.reduceEq, Int.reduceMul, Int.reduceNeg, ne_eq, reduceCtorEq, BEq.rfl, beq_self_eq_true, Int.reduceAdd, Int.reduceSub, Int.reduceMod, Int.reduceDiv, Nat.reduceMod, Nat.reduceDiv, Nat.reduceLT, cond_true, cond_false, gt_iff_lt, ge_iff_le, g0, g1, g5, g6, g7, p0, hi, p1, w1, q0, gb, cl, cs, a1, a2, wi, List.length_map, Nat.mul_one, Int.toNat_natCast, YtdknnaalfoongaaDoor.D81, ty1, ty3, ty4, ty91]
    exact ih (m - 1) _ _ (by omega) ⟨i + 1, i + 1, by omega, by simp [Fr.get, g0], by simp [Fr.get, g1], by simp [Fr.get], by simp [Fr.get], by simp [Fr.get], rfl⟩
  · obtain rfl : i = lenD b := by omega
    have hn : b < 10 ^ lenD b := lt_pow_lenD b
    have hb0 : blkAt (S ++ [some ⟨(dgN b (lenD b)).map fun x => .int .i64 x, lenD b⟩]) S.length (lenD b) = some ⟨(dgN b (lenD b)).map fun x => .int .i64 x, lenD b⟩ := by rw [blkAt_app0, blkAt_zero]
    simp (maxSteps := 2000000) only [wk0, wk1, wk2, wk3, wk4, wk5, Fr.ev, Fr.put, Fr.get, pkB, pkT, pkF, storeA, if_false, if_true, Nat.reduceEqDiff, reduceIte, Nat.reduceAdd, List.replicate, Nat.reduceLeDiff, Nat.reduceMul, Nat.reduceSub, Nat.reducePow, Int.reduceLT, Int.reduceLE, Int.reduceToNat, Int.reducePow, IntKind.bits, Int.reduceEq, Int.reduceMul, Int.reduceNeg, ne_eq, reduceCtorEq, BEq.rfl, beq_self_eq_true, Int.reduceAdd, Int.reduceSub, Int.reduceMod, Int.reduceDiv, Nat.reduceMod, Nat.reduceDiv, Nat.reduceLT, cond_true, cond_false, gt_iff_lt, ge_iff_le, g0, g1, g5, g6, g7, hi, YtdknnaalfoongaaDoor.D81, ty1, ty3, ty4, ty91]
    have ht := trim_ok S.length (lenD b) (lenD b) cap b (lenD b) _ (by omega) hn hb0
    rw [slD_pos (by omega)] at ht
    refine callThen_of ht ?_
    simp (maxSteps := 2000000) only [wk0, wk1, wk2, wk3, wk4, wk5, Fr.ev, Fr.put, Fr.get, pkB, pkT, pkF, storeA, if_false, if_true, Nat.reduceEqDiff, reduceIte, Nat.reduceAdd, List.replicate, Nat.reduceLeDiff, Nat.reduceMul, Nat.reduceSub, Nat.reducePow, Int.reduceLT, Int.reduceLE, Int.reduceToNat, Int.reducePow, IntKind.bits, Int.reduceEq, Int.reduceMul, Int.reduceNeg, ne_eq, reduceCtorEq, BEq.rfl, beq_self_eq_true, Int.reduceAdd, Int.reduceSub, Int.reduceMod, Int.reduceDiv, Nat.reduceMod, Nat.reduceDiv, Nat.reduceLT, cond_true, cond_false, gt_iff_lt, ge_iff_le, mv_slD, YtdknnaalfoongaaDoor.D81, ty1, ty3, ty4, ty91]
    refine retB_one ?_ (by simp)
    have h := fin_slD (base := S.length) (cap := cap) (k := lenD b) (by omega) hb0 (by rw [dgN_len]; omega)
    rw [dgN_take _ (by omega)] at h
    have e : lstI (dgN b (lenD b)) = AV.lst ((digs b).map fun x => .int .i64 x) (lenD b) := by unfold lstI; rw [dgN_len]; rfl
    rw [e, slD_pos (by omega)] at h
    exact h
/-- The first sum of any. -/
theorem decAddZ_ok (y : Int) (S : Heap) (hl : lenD y.natAbs ≤ 80000) : Call theE 40 [.agg [.bool false, .nils], decA y] S (decA y) S := by
  by_cases hy : 0 ≤ y
  · exact decAddN_ok y S hy hl
  have hb : 0 < y.natAbs := by omega
  have p := fun S => decLessN_ok y.natAbs S hb
  have m := fun S => decMinusN_ok y.natAbs S hb (by omega)
  have n := fun S => decNum1_ok true y.natAbs S (by omega)
  have e : decA y = .agg [.bool true, lstI (digs y.natAbs)] := by unfold decA; rw [decide_eq_true (by omega)]
  rw [e]
  have hd : decide (0 < y.natAbs) = true := decide_eq_true hb
  have bf : (false == true) = false := rfl
  simp only [numA, lstI, digs_len, Bool.true_and, hd] at p m n ⊢
  refine Call.ofC Tryd.func40 YtdknnaalfoongaaDoor.b40 YtdknnaalfoongaaDoor.d40 YtdknnaalfoongaaDoor.e40 (by simp [Tryd.f40]) ?_
  dsimp only [YtdknnaalfoongaaDoor.c40, Tryd.f40, Option.getD_some]
  simp (maxSteps := 2000000) only [wk0, wk1, wk2, wk3, wk4, wk5, Fr.ev, Fr.put, Fr.get, pkB, pkT, pkF, storeA, if_false, if_true, Nat.reduceEqDiff, reduceIte, Nat.reduceAdd, List.replicate, Nat.reduceLeDiff, Nat.reduceMul, Nat.reduceSub, Nat.reducePow, Int.reduceLT, Int.reduceLE, Int.reduceToNat, Int.reducePow, IntKind.bits, Int.reduceEq, Int.reduceMul, Int.reduceNeg, ne_eq, reduceCtorEq, BEq.rfl, beq_self_eq_true, Int.reduceAdd, Int.reduceSub, Int.reduceMod, Int.reduceDiv, Nat.reduceMod, Nat.reduceDiv, Nat.reduceLT, cond_true, cond_false, gt_iff_lt, ge_iff_le, bf, decide_true, decide_false, Bool.false_eq_true, YtdknnaalfoongaaDoor.D40, ty1, ty4, ty91, ty93]
  refine callThen_of (p _) ?_
  simp (maxSteps := 2000000) only [wk0, wk1, wk2, wk3, wk4, wk5, Fr.ev, Fr.put, Fr.get, pkB, pkT, pkF, storeA, if_false, if_true, Nat.reduceEqDiff, reduceIte, Nat.reduceAdd, List.replicate, Nat.reduceLeDiff, Nat.reduceMul, Nat.reduceSub, Nat.reducePow, Int.reduceLT, Int.reduceLE, Int.reduceToNat, Int.reducePow, IntKind.bits, Int.reduceEq, Int.reduceMul, Int.reduceNeg, ne_eq, reduceCtorEq, BEq.rfl, beq_self_eq_true, Int.reduceAdd, Int.reduceSub, Int.reduceMod, Int.reduceDiv, Nat.reduceMod, Nat.reduceDiv, Nat.reduceLT, cond_true, cond_false, gt_iff_lt, ge_iff_le, decide_true, decide_false, YtdknnaalfoongaaDoor.D40, ty1, ty4, ty91, ty93]
  refine callThen_of (m _) ?_
  simp (maxSteps := 2000000) only [wk0, wk1, wk2, wk3, wk4, wk5, Fr.ev, Fr.put, Fr.get, pkB, pkT, pkF, storeA, if_false, if_true, Nat.reduceEqDiff, reduceIte, Nat.reduceAdd, List.replicate, Nat.reduceLeDiff, Nat.reduceMul, Nat.reduceSub, Nat.reducePow, Int.reduceLT, Int.reduceLE, Int.reduceToNat, Int.reducePow, IntKind.bits, Int.reduceEq, Int.reduceMul, Int.reduceNeg, ne_eq, reduceCtorEq, BEq.rfl, beq_self_eq_true, Int.reduceAdd, Int.reduceSub, Int.reduceMod, Int.reduceDiv, Nat.reduceMod, Nat.reduceDiv, Nat.reduceLT, cond_true, cond_false, gt_iff_lt, ge_iff_le, decide_true, decide_false, YtdknnaalfoongaaDoor.D40, ty1, ty4, ty91, ty93]
  refine callThen_of (n _) ?_
  simp (maxSteps := 2000000) only [wk0, wk1, wk2, wk3, wk4, wk5, Fr.ev, Fr.put, Fr.get, pkB, pkT, pkF, storeA, if_false, if_true, Nat.reduceEqDiff, reduceIte, Nat.reduceAdd, List.replicate, Nat.reduceLeDiff, Nat.reduceMul, Nat.reduceSub, Nat.reducePow, Int.reduceLT, Int.reduceLE, Int.reduceToNat, Int.reducePow, IntKind.bits, Int.reduceEq, Int.reduceMul, Int.reduceNeg, ne_eq, reduceCtorEq, BEq.rfl, beq_self_eq_true, Int.reduceAdd, Int.reduceSub, Int.reduceMod, Int.reduceDiv, Nat.reduceMod, Nat.reduceDiv, Nat.reduceLT, cond_true, cond_false, gt_iff_lt, ge_iff_le, decide_true, decide_false, YtdknnaalfoongaaDoor.D40, ty1, ty4, ty91, ty93]
  exact retB_plain (by simp [nmd_agg, nmd_bool, nmd_lst]) rfl (by simp)
end Go.Proofs.YtdknnaalfoongaaDoor

/- Decimals: what a number of no digits at all is bounded to. -/
set_option linter.unusedSimpArgs false
set_option linter.unusedVariables false
set_option maxRecDepth 100000
set_option maxHeartbeats 4000000
namespace Go.Proofs.YtdknnaalfoongaaDoor
theorem decSubZ_ok (y : Int) (S : Heap) (hy : lenD y.natAbs ≤ 80000) : Call theE 113 [.agg [.bool false, .nils], decA y] S (decA (-y)) S := by
  have h1 := fun S => decNeg_ok y S (by omega)
  have h2 := fun S => decAddZ_ok (-y) S (by rw [lenD_neg]; exact hy)
  refine Call.ofC Tryd.func113 YtdknnaalfoongaaDoor.b113 YtdknnaalfoongaaDoor.d113 YtdknnaalfoongaaDoor.e113 (by simp [Tryd.f113]) ?_
  dsimp only [YtdknnaalfoongaaDoor.c113, Tryd.f113, Option.getD_some]
  simp (maxSteps := 2000000) only [wk0, wk1, wk2, wk3, wk4, wk5, Fr.ev, Fr.put, Fr.get, pkB, pkT, pkF, storeA, if_false, if_true, Nat.reduceEqDiff, reduceIte, Nat.reduceAdd, List.replicate, Nat.reduceLeDiff, Nat.reduceMul, Nat.reduceSub, Nat.reducePow, Int.reduceLT, Int.reduceLE, Int.reduceToNat, Int.reducePow, IntKind.bits, Int.reduceEq, Int.reduceMul, Int.reduceNeg, ne_eq, reduceCtorEq, BEq.rfl, beq_self_eq_true, Int.reduceAdd, Int.reduceSub, Int.reduceMod, Int.reduceDiv, Nat.reduceMod, Nat.reduceDiv, Nat.reduceLT, cond_true, cond_false, gt_iff_lt, ge_iff_le, decA, lstI, YtdknnaalfoongaaDoor.D113, ty93]
  refine callThen_of (h1 _) ?_
  simp (maxSteps := 2000000) only [wk0, wk1, wk2, wk3, wk4, wk5, Fr.ev, Fr.put, Fr.get, pkB, pkT, pkF, storeA, if_false, if_true, Nat.reduceEqDiff, reduceIte, Nat.reduceAdd, List.replicate, Nat.reduceLeDiff, Nat.reduceMul, Nat.reduceSub, Nat.reducePow, Int.reduceLT, Int.reduceLE, Int.reduceToNat, Int.reducePow, IntKind.bits, Int.reduceEq, Int.reduceMul, Int.reduceNeg, ne_eq, reduceCtorEq, BEq.rfl, beq_self_eq_true, Int.reduceAdd, Int.reduceSub, Int.reduceMod, Int.reduceDiv, Nat.reduceMod, Nat.reduceDiv, Nat.reduceLT, cond_true, cond_false, gt_iff_lt, ge_iff_le, decA, lstI, YtdknnaalfoongaaDoor.D113, ty93]
  refine callThen_of (h2 _) ?_
  simp (maxSteps := 2000000) only [wk0, wk1, wk2, wk3, wk4, wk5, Fr.ev, Fr.put, Fr.get, pkB, pkT, pkF, storeA, if_false, if_true, Nat.reduceEqDiff, reduceIte, Nat.reduceAdd, List.replicate, Nat.reduceLeDiff, Nat.reduceMul, Nat.reduceSub, Nat.reducePow, Int.reduceLT, Int.reduceLE, Int.reduceToNat, Int.reducePow, IntKind.bits, Int.reduceEq, Int.reduceMul, Int.reduceNeg, ne_eq, reduceCtorEq, BEq.rfl, beq_self_eq_true, Int.reduceAdd, Int.reduceSub, Int.reduceMod, Int.reduceDiv, Nat.reduceMod, Nat.reduceDiv, Nat.reduceLT, cond_true, cond_false, gt_iff_lt, ge_iff_le, decA, lstI, YtdknnaalfoongaaDoor.D113, ty93]
  exact retB_plain (by simp [nmd_agg, nmd_bool, nmd_lst, lstI]) rfl (by simp)
theorem decCmpZ_ok (y : Int) (S : Heap) (hy : lenD y.natAbs ≤ 80000) : Call theE 83 [.agg [.bool false, .nils], decA y] S (.int .i64 (-y).sign) S := by
  have h1 := fun S => decSubZ_ok y S hy
  have h2 := fun S => decSign_ok (-y) S (by rw [lenD_neg]; omega)
  simp only [decA, lstI] at h1 h2
  refine Call.ofC Tryd.func83 YtdknnaalfoongaaDoor.b83 YtdknnaalfoongaaDoor.d83 YtdknnaalfoongaaDoor.e83 (by simp [Tryd.f83]) ?_
  dsimp only [YtdknnaalfoongaaDoor.c83, Tryd.f83, Option.getD_some]
  simp (maxSteps := 2000000) only [wk0, wk1, wk2, wk3, wk4, wk5, Fr.ev, Fr.put, Fr.get, pkB, pkT, pkF, storeA, if_false, if_true, Nat.reduceEqDiff, reduceIte, Nat.reduceAdd, List.replicate, Nat.reduceLeDiff, Nat.reduceMul, Nat.reduceSub, Nat.reducePow, Int.reduceLT, Int.reduceLE, Int.reduceToNat, Int.reducePow, IntKind.bits, Int.reduceEq, Int.reduceMul, Int.reduceNeg, ne_eq, reduceCtorEq, BEq.rfl, beq_self_eq_true, Int.reduceAdd, Int.reduceSub, Int.reduceMod, Int.reduceDiv, Nat.reduceMod, Nat.reduceDiv, Nat.reduceLT, cond_true, cond_false, gt_iff_lt, ge_iff_le, decA, lstI, YtdknnaalfoongaaDoor.D83, ty3, ty93]
  refine callThen_of (h1 _) ?_
  simp (maxSteps := 2000000) only [wk0, wk1, wk2, wk3, wk4, wk5, Fr.ev, Fr.put, Fr.get, pkB, pkT, pkF, storeA, if_false, if_true, Nat.reduceEqDiff, reduceIte, Nat.reduceAdd, List.replicate, Nat.reduceLeDiff, Nat.reduceMul, Nat.reduceSub, Nat.reducePow, Int.reduceLT, Int.reduceLE, Int.reduceToNat, Int.reducePow, IntKind.bits, Int.reduceEq, Int.reduceMul, Int.reduceNeg, ne_eq, reduceCtorEq, BEq.rfl, beq_self_eq_true, Int.reduceAdd, Int.reduceSub, Int.reduceMod, Int.reduceDiv, Nat.reduceMod, Nat.reduceDiv, Nat.reduceLT, cond_true, cond_false, gt_iff_lt, ge_iff_le, YtdknnaalfoongaaDoor.D83, ty3, ty93]
  refine callThen_of (h2 _) ?_
  simp (maxSteps := 2000000) only [wk0, wk1, wk2, wk3, wk4, wk5, Fr.ev, Fr.put, Fr.get, pkB, pkT, pkF, storeA, if_false, if_true, Nat.reduceEqDiff, reduceIte, Nat.reduceAdd, List.replicate, Nat.reduceLeDiff, Nat.reduceMul, Nat.reduceSub, Nat.reducePow, Int.reduceLT, Int.reduceLE, Int.reduceToNat, Int.reducePow, IntKind.bits, Int.reduceEq, Int.reduceMul, Int.reduceNeg, ne_eq, reduceCtorEq, BEq.rfl, beq_self_eq_true, Int.reduceAdd, Int.reduceSub, Int.reduceMod, Int.reduceDiv, Nat.reduceMod, Nat.reduceDiv, Nat.reduceLT, cond_true, cond_false, gt_iff_lt, ge_iff_le, YtdknnaalfoongaaDoor.D83, ty3, ty93]
  exact retB_plain (by simp [nmd_int]) rfl (by simp)
theorem decSmallZ_ok (S : Heap) : Call theE 45 [.agg [.bool false, .nils]] S (.int .i64 0) S := by
  have w0 : IntKind.i64.wrap (0 - 1) = -1 := by decide
  have w1 : IntKind.i64.wrap (0 - 0) = 0 := by decide
  have w2 : IntKind.i64.wrap (-1) = -1 := by decide
  have w3 : IntKind.i64.wrap 0 = 0 := by decide
  refine Call.ofC Tryd.func45 YtdknnaalfoongaaDoor.b45 YtdknnaalfoongaaDoor.d45 YtdknnaalfoongaaDoor.e45 (by simp [Tryd.f45]) ?_
  dsimp only [YtdknnaalfoongaaDoor.c45, Tryd.f45, Option.getD_some]
  simp (maxSteps := 2000000) only [wk0, wk1, wk2, wk3, wk4, wk5, Fr.ev, Fr.put, Fr.get, pkB, pkT, pkF, storeA, if_false, if_true, Nat.reduceEqDiff, reduceIte, Nat.reduceAdd, List.replicate, Nat.reduceLeDiff, Nat.reduceMul, Nat.reduceSub, Nat.reducePow, Int.reduceLT, Int.reduceLE, Int.reduceToNat, Int.reducePow, IntKind.bits, Int.reduceEq, Int.reduceMul, Int.reduceNeg, ne_eq, reduceCtorEq, BEq.rfl, beq_self_eq_true, Int.reduceAdd, Int.reduceSub, Int.reduceMod, Int.reduceDiv, Nat.reduceMod, Nat.reduceDiv, Nat.reduceLT, cond_true, cond_false, gt_iff_lt, ge_iff_le, w0, w1, w2, w3, YtdknnaalfoongaaDoor.D45, ty1, ty2, ty3, ty4, ty91, ty93]
  refine loopC_of ?_
  simp (maxSteps := 2000000) only [wk0, wk1, wk2, wk3, wk4, wk5, Fr.ev, Fr.put, Fr.get, pkB, pkT, pkF, storeA, if_false, if_true, Nat.reduceEqDiff, reduceIte, Nat.reduceAdd, List.replicate, Nat.reduceLeDiff, Nat.reduceMul, Nat.reduceSub, Nat.reducePow, Int.reduceLT, Int.reduceLE, Int.reduceToNat, Int.reducePow, IntKind.bits, Int.reduceEq, Int.reduceMul, Int.reduceNeg, ne_eq, reduceCtorEq, BEq.rfl, beq_self_eq_true, Int.reduceAdd, Int.reduceSub, Int.reduceMod, Int.reduceDiv, Nat.reduceMod, Nat.reduceDiv, Nat.reduceLT, cond_true, cond_false, gt_iff_lt, ge_iff_le, w0, w1, w2, w3, YtdknnaalfoongaaDoor.D45, ty1, ty2, ty3, ty4, ty91, ty93]
  exact retB_plain (by simp [nmd_int]) rfl (by simp)
theorem decBoundZ_ok (S : Heap) : Call theE 43 [.agg [.bool false, .nils]] S (.tup [.int .i64 0, .bool false]) S := by
  have l1 : lenD (4611686018427387903 : Int).natAbs ≤ 80000 := by have := (lenD_le 20 4611686018427387903).2 (by omega); simp; omega
  have l2 : lenD (-4611686018427387903 : Int).natAbs ≤ 80000 := by have := (lenD_le 20 4611686018427387903).2 (by omega); simp; omega
  have o1 := fun S => decOf_ok 4611686018427387903 S (by unfold inI; omega)
  have o2 := fun S => decOf_ok (-4611686018427387903) S (by unfold inI; omega)
  have c1 := fun S => decCmpZ_ok 4611686018427387903 S l1
  have c2 := fun S => decCmpZ_ok (-4611686018427387903) S l2
  have hs := fun S => decSmallZ_ok S
  have s1 : Int.sign (-4611686018427387903) = -1 := by decide
  have s2 : Int.sign (- -4611686018427387903) = 1 := by decide
  simp only [s1, s2] at c1 c2
  simp only [decA, lstI] at o1 o2 c1 c2
  refine Call.ofC Tryd.func43 YtdknnaalfoongaaDoor.b43 YtdknnaalfoongaaDoor.d43 YtdknnaalfoongaaDoor.e43 (by simp [Tryd.f43]) ?_
  dsimp only [YtdknnaalfoongaaDoor.c43, Tryd.f43, Option.getD_some]
  simp (maxSteps := 2000000) only [wk0, wk1, wk2, wk3, wk4, wk5, Fr.ev, Fr.put, Fr.get, pkB, pkT, pkF, storeA, if_false, if_true, Nat.reduceEqDiff, reduceIte, Nat.reduceAdd, List.replicate, Nat.reduceLeDiff, Nat.reduceMul, Nat.reduceSub, Nat.reducePow, Int.reduceLT, Int.reduceLE, Int.reduceToNat, Int.reducePow, IntKind.bits, Int.reduceEq, Int.reduceMul, Int.reduceNeg, ne_eq, reduceCtorEq, BEq.rfl, beq_self_eq_true, Int.reduceAdd, Int.reduceSub, Int.reduceMod, Int.reduceDiv, Nat.reduceMod, Nat.reduceDiv, Nat.reduceLT, cond_true, cond_false, gt_iff_lt, ge_iff_le, decA, lstI, YtdknnaalfoongaaDoor.D43, ty2, ty3, ty4, ty93]
  refine callThen_of (o1 _) ?_
  simp (maxSteps := 2000000) only [wk0, wk1, wk2, wk3, wk4, wk5, Fr.ev, Fr.put, Fr.get, pkB, pkT, pkF, storeA, if_false, if_true, Nat.reduceEqDiff, reduceIte, Nat.reduceAdd, List.replicate, Nat.reduceLeDiff, Nat.reduceMul, Nat.reduceSub, Nat.reducePow, Int.reduceLT, Int.reduceLE, Int.reduceToNat, Int.reducePow, IntKind.bits, Int.reduceEq, Int.reduceMul, Int.reduceNeg, ne_eq, reduceCtorEq, BEq.rfl, beq_self_eq_true, Int.reduceAdd, Int.reduceSub, Int.reduceMod, Int.reduceDiv, Nat.reduceMod, Nat.reduceDiv, Nat.reduceLT, cond_true, cond_false, gt_iff_lt, ge_iff_le, YtdknnaalfoongaaDoor.D43, ty2, ty3, ty4, ty93]
  refine callThen_of (c1 _) ?_
  simp (maxSteps := 2000000) only [wk0, wk1, wk2, wk3, wk4, wk5, Fr.ev, Fr.put, Fr.get, pkB, pkT, pkF, storeA, if_false, if_true, Nat.reduceEqDiff, reduceIte, Nat.reduceAdd, List.replicate, Nat.reduceLeDiff, Nat.reduceMul, Nat.reduceSub, Nat.reducePow, Int.reduceLT, Int.reduceLE, Int.reduceToNat, Int.reducePow, IntKind.bits, Int.reduceEq, Int.reduceMul, Int.reduceNeg, ne_eq, reduceCtorEq, BEq.rfl, beq_self_eq_true, Int.reduceAdd, Int.reduceSub, Int.reduceMod, Int.reduceDiv, Nat.reduceMod, Nat.reduceDiv, Nat.reduceLT, cond_true, cond_false, gt_iff_lt, ge_iff_le, YtdknnaalfoongaaDoor.D43, ty2, ty3, ty4, ty93]
  refine callThen_of (o2 _) ?_
  simp (maxSteps := 2000000) only [wk0, wk1, wk2, wk3, wk4, wk5, Fr.ev, Fr.put, Fr.get, pkB, pkT, pkF, storeA, if_false, if_true, Nat.reduceEqDiff, reduceIte, Nat.reduceAdd, List.replicate, Nat.reduceLeDiff, Nat.reduceMul, Nat.reduceSub, Nat.reducePow, Int.reduceLT, Int.reduceLE, Int.reduceToNat, Int.reducePow, IntKind.bits, Int.reduceEq, Int.reduceMul, Int.reduceNeg, ne_eq, reduceCtorEq, BEq.rfl, beq_self_eq_true, Int.reduceAdd, Int.reduceSub, Int.reduceMod, Int.reduceDiv, Nat.reduceMod, Nat.reduceDiv, Nat.reduceLT, cond_true, cond_false, gt_iff_lt, ge_iff_le, YtdknnaalfoongaaDoor.D43, ty2, ty3, ty4, ty93]
  refine callThen_of (c2 _) ?_
  simp (maxSteps := 2000000) only [wk0, wk1, wk2, wk3, wk4, wk5, Fr.ev, Fr.put, Fr.get, pkB, pkT, pkF, storeA, if_false, if_true, Nat.reduceEqDiff, reduceIte, Nat.reduceAdd, List.replicate, Nat.reduceLeDiff, Nat.reduceMul, Nat.reduceSub, Nat.reducePow, Int.reduceLT, Int.reduceLE, Int.reduceToNat, Int.reducePow, IntKind.bits, Int.reduceEq, Int.reduceMul, Int.reduceNeg, ne_eq, reduceCtorEq, BEq.rfl, beq_self_eq_true, Int.reduceAdd, Int.reduceSub, Int.reduceMod, Int.reduceDiv, Nat.reduceMod, Nat.reduceDiv, Nat.reduceLT, cond_true, cond_false, gt_iff_lt, ge_iff_le, YtdknnaalfoongaaDoor.D43, ty2, ty3, ty4, ty93]
  refine callThen_of (hs _) ?_
  simp (maxSteps := 2000000) only [wk0, wk1, wk2, wk3, wk4, wk5, Fr.ev, Fr.put, Fr.get, pkB, pkT, pkF, storeA, if_false, if_true, Nat.reduceEqDiff, reduceIte, Nat.reduceAdd, List.replicate, Nat.reduceLeDiff, Nat.reduceMul, Nat.reduceSub, Nat.reducePow, Int.reduceLT, Int.reduceLE, Int.reduceToNat, Int.reducePow, IntKind.bits, Int.reduceEq, Int.reduceMul, Int.reduceNeg, ne_eq, reduceCtorEq, BEq.rfl, beq_self_eq_true, Int.reduceAdd, Int.reduceSub, Int.reduceMod, Int.reduceDiv, Nat.reduceMod, Nat.reduceDiv, Nat.reduceLT, cond_true, cond_false, gt_iff_lt, ge_iff_le, YtdknnaalfoongaaDoor.D43, ty2, ty3, ty4, ty93]
  exact retB_plain (by simp [nmd_int, nmd_bool]) rfl (by simp)
end Go.Proofs.YtdknnaalfoongaaDoor
