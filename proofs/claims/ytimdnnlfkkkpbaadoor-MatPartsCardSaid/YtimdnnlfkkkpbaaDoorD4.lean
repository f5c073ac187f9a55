/- Decimals: which is greater; numbers of 64 bits; what is bounded. -/
import Derived.Test.YtimdnnlfkkkpbaaDoorD3
set_option linter.unusedSimpArgs false
set_option linter.unusedVariables false
set_option maxRecDepth 100000
set_option maxHeartbeats 4000000
namespace Go.Proofs.YtimdnnlfkkkpbaaDoor
theorem lenD_pos {n : Nat} (h : 0 < n) : 0 < lenD n := (lt_lenD n 0).2 (by omega)
noncomputable def c98 : Code := Tryd.f98.body.getD .skip
theorem b98 : Tryd.f98.body = some c98 := rfl
theorem d98 : fnOk Tryd.f98 c98 = true := by kernel_rfl
def D98 : Nat → List Tag := fun _ => []
theorem e98 : drawsOk D98 c98 = true := by kernel_rfl
theorem decSign_ok (z : Int) (S : Heap) (hz : lenD z.natAbs ≤ 100000) : Call theE 98 [decA z] S (.int .i64 z.sign) S := by
  have dn := digs_len z.natAbs
  refine Call.ofC Tryd.func98 YtimdnnlfkkkpbaaDoor.b98 YtimdnnlfkkkpbaaDoor.d98 YtimdnnlfkkkpbaaDoor.e98 (by simp [Tryd.f98]) ?_
  dsimp only [YtimdnnlfkkkpbaaDoor.c98, Tryd.f98, Option.getD_some]
  rcases Int.lt_trichotomy z 0 with h | h | h
  · have p1 : ¬ ((lenD z.natAbs : Nat) : Int) = 0 := by have := lenD_pos (show 0 < z.natAbs by omega); omega
    have p2 : decide (z < 0) = true := decide_eq_true h
    simp (maxSteps := 2000000) only [wk0, wk1, wk2, wk3, keepA, keepT, Fr.keep, frzT, flatT, arrayAtA, ownT, extT, Fr.ev, Fr.put, Fr.get, initFr, buildSliceA, zeros, pkB, pkT, pkF, ownDst, Env.kd, ofConst, isConst, binA, intI, cmpI, shiftI, convertA, buildA, fillA, fillS, splice, AV.cells?, storeA, readAt, fieldAddrA, fieldA, indexA, extractA, unA, builtinA, appendA, lenA, sliceCells, isSliceK, makeInterfaceA, nilCheckA, eqA, AV.one, AV.plain, if_false, if_true, Nat.reduceEqDiff, reduceIte, Nat.reduceAdd, List.replicate, Nat.reduceLeDiff, Nat.reduceMul, Nat.reduceSub, Nat.reducePow, Int.reduceLT, Int.reduceLE, Int.reduceToNat, Int.reducePow, IntKind.bits, Int.reduceEq, Int.reduceMul, Int.reduceNeg, ne_eq, reduceCtorEq, escT, BEq.rfl, beq_self_eq_true, Int.reduceAdd, Int.reduceSub, Int.reduceMod, Int.reduceDiv, Nat.reduceMod, Nat.reduceDiv, Nat.reduceLT, cond_true, cond_false, gt_iff_lt, ge_iff_le, decA, lstI, dn, p1, p2, YtimdnnlfkkkpbaaDoor.D98, ty1, ty3, ty4, ty39, ty41]
    exact retB_plain (by simp [nmd_int]) (by rw [Int.sign_eq_neg_one_of_neg h]; rfl) (by simp)
  · subst h
    have p1 : ((lenD (0 : Int).natAbs : Nat) : Int) = 0 := by simp [lenD_zero]
    simp (maxSteps := 2000000) only [wk0, wk1, wk2, wk3, keepA, keepT, Fr.keep, frzT, flatT, arrayAtA, ownT, extT, Fr.ev, Fr.put, Fr.get, initFr, buildSliceA, zeros, pkB, pkT, pkF, ownDst, Env.kd, ofConst, isConst, binA, intI, cmpI, shiftI, convertA, buildA, fillA, fillS, splice, AV.cells?, storeA, readAt, fieldAddrA, fieldA, indexA, extractA, unA, builtinA, appendA, lenA, sliceCells, isSliceK, makeInterfaceA, nilCheckA, eqA, AV.one, AV.plain, if_false, if_true, Nat.reduceEqDiff, reduceIte, Nat.reduceAdd, List.replicate, Nat.reduceLeDiff, Nat.reduceMul, Nat.reduceSub, Nat.reducePow, Int.reduceLT, Int.reduceLE, Int.reduceToNat, Int.reducePow, IntKind.bits, Int.reduceEq, Int.reduceMul, Int.reduceNeg, ne_eq, reduceCtorEq, escT, BEq.rfl, beq_self_eq_true, Int.reduceAdd, Int.reduceSub, Int.reduceMod, Int.reduceDiv, Nat.reduceMod, Nat.reduceDiv, Nat.reduceLT, cond_true, cond_false, gt_iff_lt, ge_iff_le, decA, lstI, dn, p1, YtimdnnlfkkkpbaaDoor.D98, ty1, ty3, ty4, ty39, ty41]
    exact retB_plain (by simp [nmd_int]) rfl (by simp)
  · have p1 : ¬ ((lenD z.natAbs : Nat) : Int) = 0 := by have := lenD_pos (show 0 < z.natAbs by omega); omega
    have p2 : decide (z < 0) = false := decide_eq_false (by omega)
    simp (maxSteps := 2000000) only [wk0, wk1, wk2, wk3, keepA, keepT, Fr.keep, frzT, flatT, arrayAtA, ownT, extT, Fr.ev, Fr.put, Fr.get, initFr, buildSliceA, zeros, pkB, pkT, pkF, ownDst, Env.kd, ofConst, isConst, binA, intI, cmpI, shiftI, convertA, buildA, fillA, fillS, splice, AV.cells?, storeA, readAt, fieldAddrA, fieldA, indexA, extractA, unA, builtinA, appendA, lenA, sliceCells, isSliceK, makeInterfaceA, nilCheckA, eqA, AV.one, AV.plain, if_false, if_true, Nat.reduceEqDiff, reduceIte, Nat.reduceAdd, List.replicate, Nat.reduceLeDiff, Nat.reduceMul, Nat.reduceSub, Nat.reducePow, Int.reduceLT, Int.reduceLE, Int.reduceToNat, Int.reducePow, IntKind.bits, Int.reduceEq, Int.reduceMul, Int.reduceNeg, ne_eq, reduceCtorEq, escT, BEq.rfl, beq_self_eq_true, Int.reduceAdd, Int.reduceSub, Int.reduceMod, Int.reduceDiv, Nat.reduceMod, Nat.reduceDiv, Nat.reduceLT, cond_true, cond_false, gt_iff_lt, ge_iff_le, decA, lstI, dn, p1, p2, YtimdnnlfkkkpbaaDoor.D98, ty1, ty3, ty4, ty39, ty41]
    exact retB_plain (by simp [nmd_int]) (by rw [Int.sign_eq_one_of_pos h]; rfl) (by simp)
theorem lenD_subI {x y : Int} {k : Nat} (hx : lenD x.natAbs ≤ k) (hy : lenD y.natAbs ≤ k) : lenD (x - y).natAbs ≤ k + 1 := lenD_mono (show (x - y).natAbs ≤ x.natAbs + y.natAbs by omega) (lenD_add hx hy)
noncomputable def c65 : Code := Tryd.f65.body.getD .skip
theorem b65 : Tryd.f65.body = some c65 := rfl
theorem d65 : fnOk Tryd.f65 c65 = true := by kernel_rfl
def D65 : Nat → List Tag := fun _ => []
theorem e65 : drawsOk D65 c65 = true := by kernel_rfl
theorem decCmp_ok (x y : Int) (S : Heap) (hx : lenD x.natAbs ≤ 80000) (hy : lenD y.natAbs ≤ 80000) : Call theE 65 [decA x, decA y] S (.int .i64 (x - y).sign) S := by
  have h1 := fun S => decSub_ok x y S hx hy
  have h2 := fun S => decSign_ok (x - y) S (by have := lenD_subI hx hy; omega)
  simp only [decA, lstI] at h1 h2
  refine Call.ofC Tryd.func65 YtimdnnlfkkkpbaaDoor.b65 YtimdnnlfkkkpbaaDoor.d65 YtimdnnlfkkkpbaaDoor.e65 (by simp [Tryd.f65]) ?_
  dsimp only [YtimdnnlfkkkpbaaDoor.c65, Tryd.f65, Option.getD_some]
  simp (maxSteps := 2000000) only [wk0, wk1, wk2, wk3, keepA, keepT, Fr.keep, frzT, flatT, arrayAtA, ownT, extT, Fr.ev, Fr.put, Fr.get, initFr, buildSliceA, zeros, pkB, pkT, pkF, ownDst, Env.kd, ofConst, isConst, binA, intI, cmpI, shiftI, convertA, buildA, fillA, fillS, splice, AV.cells?, storeA, readAt, fieldAddrA, fieldA, indexA, extractA, unA, builtinA, appendA, lenA, sliceCells, isSliceK, makeInterfaceA, nilCheckA, eqA, AV.one, AV.plain, if_false, if_true, Nat.reduceEqDiff, reduceIte, Nat.reduceAdd, List.replicate, Nat.reduceLeDiff, Nat.reduceMul, Nat.reduceSub, Nat.reducePow, Int.reduceLT, Int.reduceLE, Int.reduceToNat, Int.reducePow, IntKind.bits, Int.reduceEq, Int.reduceMul, Int.reduceNeg, ne_eq, reduceCtorEq, escT, BEq.rfl, beq_self_eq_true, Int.reduceAdd, Int.reduceSub, Int.reduceMod, Int.reduceDiv, Nat.reduceMod, Nat.reduceDiv, Nat.reduceLT, cond_true, cond_false, gt_iff_lt, ge_iff_le, decA, lstI, YtimdnnlfkkkpbaaDoor.D65, ty3, ty41]
  refine callThen_of (h1 _) ?_
  simp (maxSteps := 2000000) only [wk0, wk1, wk2, wk3, keepA, keepT, Fr.keep, frzT, flatT, arrayAtA, ownT, extT, Fr.ev, Fr.put, Fr.get, initFr, buildSliceA, zeros, pkB, pkT, pkF, ownDst, Env.kd, ofConst, isConst, binA, intI, cmpI, shiftI, convertA, buildA, fillA, fillS, splice, AV.cells?, storeA, readAt, fieldAddrA, fieldA, indexA, extractA, unA, builtinA, appendA, lenA, sliceCells, isSliceK, makeInterfaceA, nilCheckA, eqA, AV.one, AV.plain, if_false, if_true, Nat.reduceEqDiff, reduceIte, Nat.reduceAdd, List.replicate, Nat.reduceLeDiff, Nat.reduceMul, Nat.reduceSub, Nat.reducePow, Int.reduceLT, Int.reduceLE, Int.reduceToNat, Int.reducePow, IntKind.bits, Int.reduceEq, Int.reduceMul, Int.reduceNeg, ne_eq, reduceCtorEq, escT, BEq.rfl, beq_self_eq_true, Int.reduceAdd, Int.reduceSub, Int.reduceMod, Int.reduceDiv, Nat.reduceMod, Nat.reduceDiv, Nat.reduceLT, cond_true, cond_false, gt_iff_lt, ge_iff_le, YtimdnnlfkkkpbaaDoor.D65, ty3, ty41]
  refine callThen_of (h2 _) ?_
  simp (maxSteps := 2000000) only [wk0, wk1, wk2, wk3, keepA, keepT, Fr.keep, frzT, flatT, arrayAtA, ownT, extT, Fr.ev, Fr.put, Fr.get, initFr, buildSliceA, zeros, pkB, pkT, pkF, ownDst, Env.kd, ofConst, isConst, binA, intI, cmpI, shiftI, convertA, buildA, fillA, fillS, splice, AV.cells?, storeA, readAt, fieldAddrA, fieldA, indexA, extractA, unA, builtinA, appendA, lenA, sliceCells, isSliceK, makeInterfaceA, nilCheckA, eqA, AV.one, AV.plain, if_false, if_true, Nat.reduceEqDiff, reduceIte, Nat.reduceAdd, List.replicate, Nat.reduceLeDiff, Nat.reduceMul, Nat.reduceSub, Nat.reducePow, Int.reduceLT, Int.reduceLE, Int.reduceToNat, Int.reducePow, IntKind.bits, Int.reduceEq, Int.reduceMul, Int.reduceNeg, ne_eq, reduceCtorEq, escT, BEq.rfl, beq_self_eq_true, Int.reduceAdd, Int.reduceSub, Int.reduceMod, Int.reduceDiv, Nat.reduceMod, Nat.reduceDiv, Nat.reduceLT, cond_true, cond_false, gt_iff_lt, ge_iff_le, YtimdnnlfkkkpbaaDoor.D65, ty3, ty41]
  exact retB_plain (by simp [nmd_int]) rfl (by simp)
noncomputable def c66 : Code := Tryd.f66.body.getD .skip
theorem b66 : Tryd.f66.body = some c66 := rfl
theorem d66 : fnOk Tryd.f66 c66 = true := by kernel_rfl
def D66 : Nat → List Tag := fun _ => []
theorem e66 : drawsOk D66 c66 = true := by kernel_rfl
theorem decSmall_ok (z : Int) (S : Heap) (hz : inI z) : Call theE 66 [decA z] S (.int .i64 z) S := by
  unfold inI at hz
  have dn := digs_len z.natAbs
  obtain ⟨N, hN⟩ : ∃ N, z.natAbs = N := ⟨_, rfl⟩
  have hl : lenD N ≤ 20 := (lenD_le _ _).2 (by omega)
  rw [hN] at dn
  refine Call.ofC Tryd.func66 YtimdnnlfkkkpbaaDoor.b66 YtimdnnlfkkkpbaaDoor.d66 YtimdnnlfkkkpbaaDoor.e66 (by simp [Tryd.f66]) ?_
  dsimp only [YtimdnnlfkkkpbaaDoor.c66, Tryd.f66, Option.getD_some]
  have w0 : IntKind.i64.wrap (((lenD N : Nat) : Int) - 1) = ((lenD N : Nat) : Int) - 1 := wrapI (by omega)
  simp (maxSteps := 2000000) only [wk0, wk1, wk2, wk3, keepA, keepT, Fr.keep, frzT, flatT, arrayAtA, ownT, extT, Fr.ev, Fr.put, Fr.get, initFr, buildSliceA, zeros, pkB, pkT, pkF, ownDst, Env.kd, ofConst, isConst, binA, intI, cmpI, shiftI, convertA, buildA, fillA, fillS, splice, AV.cells?, storeA, readAt, fieldAddrA, fieldA, indexA, extractA, unA, builtinA, appendA, lenA, sliceCells, isSliceK, makeInterfaceA, nilCheckA, eqA, AV.one, AV.plain, if_false, if_true, Nat.reduceEqDiff, reduceIte, Nat.reduceAdd, List.replicate, Nat.reduceLeDiff, Nat.reduceMul, Nat.reduceSub, Nat.reducePow, Int.reduceLT, Int.reduceLE, Int.reduceToNat, Int.reducePow, IntKind.bits, Int.reduceEq, Int.reduceMul, Int.reduceNeg, ne_eq, reduceCtorEq, escT, BEq.rfl, beq_self_eq_true, Int.reduceAdd, Int.reduceSub, Int.reduceMod, Int.reduceDiv, Nat.reduceMod, Nat.reduceDiv, Nat.reduceLT, cond_true, cond_false, gt_iff_lt, ge_iff_le, decA, lstI, hN, dn, w0, YtimdnnlfkkkpbaaDoor.D66, ty1, ty2, ty3, ty4, ty39, ty41]
  refine loopC_ind (fun m fr H => m ≤ lenD N ∧ fr.get 1 = .ptr S.length 0 0 ∧ fr.get 3 = .int .i64 (-((N / 10 ^ m : Nat) : Int)) ∧ fr.get 4 = .int .i64 ((m : Int) - 1) ∧ H = S ++ [some ⟨[.bool (decide (z < 0)), .lst ((digs N).map fun x => .int .i64 x) (lenD N)], 0⟩]) ?_ (n := lenD N)
    ⟨Nat.le_refl _, rfl, by rw [Nat.div_eq_of_lt (lt_pow_lenD N)]; rfl, rfl, rfl⟩
  rintro m fr H ⟨hm, g1, g3, g4, rfl⟩ ih
  cases m with
  | zero =>
    have p1 : ¬ (0 : Int) ≤ ((0 : Nat) : Int) - 1 := by omega
    have hq : -((N / 10 ^ 0 : Nat) : Int) = -(N : Int) := by simp
    rw [hq] at g3
    by_cases h0 : z < 0
    · have p2 : decide (z < 0) = true := decide_eq_true h0
      simp (maxSteps := 2000000) only [wk0, wk1, wk2, wk3, keepA, keepT, Fr.keep, frzT, flatT, arrayAtA, ownT, extT, Fr.ev, Fr.put, Fr.get, initFr, buildSliceA, zeros, pkB, pkT, pkF, ownDst, Env.kd, ofConst, isConst, binA, intI, cmpI, shiftI, convertA, buildA, fillA, fillS, splice, AV.cells?, storeA, readAt, fieldAddrA, fieldA, indexA, extractA, unA, builtinA, appendA, lenA, sliceCells, isSliceK, makeInterfaceA, nilCheckA, eqA, AV.one, AV.plain, if_false, if_true, Nat.reduceEqDiff, reduceIte, Nat.reduceAdd, List.replicate, Nat.reduceLeDiff, Nat.reduceMul, Nat.reduceSub, Nat.reducePow, Int.reduceLT, Int.reduceLE, Int.reduceToNat, Int.reducePow, IntKind.bits, Int.reduceEq, Int.reduceMul, Int.reduceNeg, ne_eq, reduceCtorEq, escT, BEq.rfl, beq_self_eq_true, Int.reduceAdd, Int.reduceSub, Int.reduceMod, Int.reduceDiv, Nat.reduceMod, Nat.reduceDiv, Nat.reduceLT, cond_true, cond_false, gt_iff_lt, ge_iff_le, g1, g3, g4, p1, p2, YtimdnnlfkkkpbaaDoor.D66, ty1, ty2, ty3, ty4, ty39, ty41]
      exact retB_plain (by simp [nmd_int]) (by simp only [packA]; congr 1; omega) (by simp)
    · have p2 : decide (z < 0) = false := decide_eq_false h0
      have w1 : IntKind.i64.wrap (0 - -(N : Int)) = z := by rw [wrapI (by omega)]; omega
      simp (maxSteps := 2000000) only [wk0, wk1, wk2, wk3, keepA, keepT, Fr.keep, frzT, flatT, arrayAtA, ownT, extT, Fr.ev, Fr.put, Fr.get, initFr, buildSliceA, zeros, pkB, pkT, pkF, ownDst, Env.kd, ofConst, isConst, binA, intI, cmpI, shiftI, convertA, buildA, fillA, fillS, splice, AV.cells?, storeA, readAt, fieldAddrA, fieldA, indexA, extractA, unA, builtinA, appendA, lenA, sliceCells, isSliceK, makeInterfaceA, nilCheckA, eqA, AV.one, AV.plain, if_false, if_true, Nat.reduceEqDiff, reduceIte, Nat.reduceAdd, List.replicate, Nat.reduceLeDiff, Nat.reduceMul, Nat.reduceSub, Nat.reducePow, Int.reduceLT, Int.reduceLE, Int.reduceToNat, Int.reducePow, IntKind.bits, Int.reduceEq, Int.reduceMul, Int.reduceNeg, ne_eq, reduceCtorEq, escT, BEq.rfl, beq_self_eq_true, Int.reduceAdd, Int.reduceSub, Int.reduceMod, Int.reduceDiv, Nat.reduceMod, Nat.reduceDiv, Nat.reduceLT, cond_true, cond_false, gt_iff_lt, ge_iff_le, g1, g3, g4, p1, p2, w1, YtimdnnlfkkkpbaaDoor.D66, ty1, ty2, ty3, ty4, ty39, ty41]
      exact retB_plain (by simp [nmd_int]) rfl (by simp)
  | succ k =>
    have p0 : ((k + 1 : Nat) : Int) - 1 = (k : Int) := by omega
    rw [p0] at g4
    have p1 : (0 : Int) ≤ (k : Int) := by omega
    have w1 : IntKind.i64.wrap ((k : Int) - 1) = (k : Int) - 1 := wrapI (by omega)
    have ga := digs_getA N (show k < lenD N by omega)
    have p2 : (k : Int) < ((lenD N : Nat) : Int) := by omega
    have hs := div_step N k
    have h1 := Nat.div_le_self N (10 ^ k)
    obtain ⟨q, hq⟩ : ∃ q, N / 10 ^ (k + 1) = q := ⟨_, rfl⟩
    obtain ⟨r, hr⟩ : ∃ r, N / 10 ^ k = r := ⟨_, rfl⟩
    rw [hq] at hs g3
    rw [hr] at hs h1
    have w2 : IntKind.i64.wrap (10 * -(q : Int)) = 10 * -(q : Int) := wrapI (by omega)
    have w3 : IntKind.i64.wrap (10 * -(q : Int) - ((dgt N k : Nat) : Int)) = -(r : Int) := by rw [wrapI (by omega)]; omega
    simp (maxSteps := 2000000) only [wk0, wk1, wk2, wk3, keepA, keepT, Fr.keep, frzT, flatT, arrayAtA, ownT, extT, Fr.ev, Fr.put, Fr.get, initFr, buildSliceA, zeros, pkB, pkT, pkF, ownDst, Env.kd, ofConst, isConst, binA, intI, cmpI, shiftI, convertA, buildA, fillA, fillS, splice, AV.cells?, storeA, readAt, fieldAddrA, fieldA, indexA, extractA, unA, builtinA, appendA, lenA, sliceCells, isSliceK, makeInterfaceA, nilCheckA, eqA, AV.one, AV.plain, if_false, if_true, Nat.reduceEqDiff, reduceIte, Nat.reduceAdd, List.replicate, Nat.reduceLeDiff, Nat.reduceMul, Nat.reduceSub, Nat.reducePow, Int.reduceLT, Int.reduceLE, Int.reduceToNat, Int.reducePow, IntKind.bits, Int.reduceEq, Int.reduceMul, Int.reduceNeg, ne_eq, reduceCtorEq, escT, BEq.rfl, beq_self_eq_true, Int.reduceAdd, Int.reduceSub, Int.reduceMod, Int.reduceDiv, Nat.reduceMod, Nat.reduceDiv, Nat.reduceLT, cond_true, cond_false, gt_iff_lt, ge_iff_le, g1, g3, g4, p1, p2, w1, w2, w3, ga, Int.toNat_natCast, Nat.mul_one, YtimdnnlfkkkpbaaDoor.D66, ty1, ty2, ty3, ty4, ty39, ty41]
    exact ih k _ _ (by omega) ⟨by omega, by simp [Fr.get, g1], by rw [hr]; simp [Fr.get], by simp [Fr.get], rfl⟩
noncomputable def c18 : Code := Tryd.f18.body.getD .skip
theorem b18 : Tryd.f18.body = some c18 := rfl
theorem d18 : fnOk Tryd.f18 c18 = true := by kernel_rfl
def D18 : Nat → List Tag
  | 1 => [.quiet, .quiet, .seq, .pure]
  | 3 => [.quiet, .quiet, .seq, .pure]
  | _ => []
theorem e18 : drawsOk D18 c18 = true := by kernel_rfl
theorem decBound_ok (z : Int) (S : Heap) (hz : lenD z.natAbs ≤ 80000) : Call theE 18 [decA z] S (.tup [.int .i64 (bndI z), .bool (ovrB z)]) S := by
  have l1 : lenD (4611686018427387903 : Int).natAbs ≤ 80000 := by have := (lenD_le 20 4611686018427387903).2 (by omega); simp; omega
  have l2 : lenD (-4611686018427387903 : Int).natAbs ≤ 80000 := by have := (lenD_le 20 4611686018427387903).2 (by omega); simp; omega
  have o1 := fun S => decOf_ok 4611686018427387903 S (by unfold inI; omega)
  have o2 := fun S => decOf_ok (-4611686018427387903) S (by unfold inI; omega)
  have c1 := fun S => decCmp_ok z 4611686018427387903 S hz l1
  have c2 := fun S => decCmp_ok z (-4611686018427387903) S hz l2
  simp only [decA, lstI] at o1 o2 c1 c2
  unfold bndI ovrB
  refine Call.ofC Tryd.func18 YtimdnnlfkkkpbaaDoor.b18 YtimdnnlfkkkpbaaDoor.d18 YtimdnnlfkkkpbaaDoor.e18 (by simp [Tryd.f18]) ?_
  dsimp only [YtimdnnlfkkkpbaaDoor.c18, Tryd.f18, Option.getD_some]
  simp (maxSteps := 2000000) only [wk0, wk1, wk2, wk3, keepA, keepT, Fr.keep, frzT, flatT, arrayAtA, ownT, extT, Fr.ev, Fr.put, Fr.get, initFr, buildSliceA, zeros, pkB, pkT, pkF, ownDst, Env.kd, ofConst, isConst, binA, intI, cmpI, shiftI, convertA, buildA, fillA, fillS, splice, AV.cells?, storeA, readAt, fieldAddrA, fieldA, indexA, extractA, unA, builtinA, appendA, lenA, sliceCells, isSliceK, makeInterfaceA, nilCheckA, eqA, AV.one, AV.plain, if_false, if_true, Nat.reduceEqDiff, reduceIte, Nat.reduceAdd, List.replicate, Nat.reduceLeDiff, Nat.reduceMul, Nat.reduceSub, Nat.reducePow, Int.reduceLT, Int.reduceLE, Int.reduceToNat, Int.reducePow, IntKind.bits, Int.reduceEq, Int.reduceMul, Int.reduceNeg, ne_eq, reduceCtorEq, escT, BEq.rfl, beq_self_eq_true, Int.reduceAdd, Int.reduceSub, Int.reduceMod, Int.reduceDiv, Nat.reduceMod, Nat.reduceDiv, Nat.reduceLT, cond_true, cond_false, gt_iff_lt, ge_iff_le, decA, lstI, YtimdnnlfkkkpbaaDoor.D18, ty2, ty3, ty4, ty41]
  refine callThen_of (o1 _) ?_
  simp (maxSteps := 2000000) only [wk0, wk1, wk2, wk3, keepA, keepT, Fr.keep, frzT, flatT, arrayAtA, ownT, extT, Fr.ev, Fr.put, Fr.get, initFr, buildSliceA, zeros, pkB, pkT, pkF, ownDst, Env.kd, ofConst, isConst, binA, intI, cmpI, shiftI, convertA, buildA, fillA, fillS, splice, AV.cells?, storeA, readAt, fieldAddrA, fieldA, indexA, extractA, unA, builtinA, appendA, lenA, sliceCells, isSliceK, makeInterfaceA, nilCheckA, eqA, AV.one, AV.plain, if_false, if_true, Nat.reduceEqDiff, reduceIte, Nat.reduceAdd, List.replicate, Nat.reduceLeDiff, Nat.reduceMul, Nat.reduceSub, Nat.reducePow, Int.reduceLT, Int.reduceLE, Int.reduceToNat, Int.reducePow, IntKind.bits, Int.reduceEq, Int.reduceMul, Int.reduceNeg, ne_eq, reduceCtorEq, escT, BEq.rfl, beq_self_eq_true, Int.reduceAdd, Int.reduceSub, Int.reduceMod, Int.reduceDiv, Nat.reduceMod, Nat.reduceDiv, Nat.reduceLT, cond_true, cond_false, gt_iff_lt, ge_iff_le, YtimdnnlfkkkpbaaDoor.D18, ty2, ty3, ty4, ty41]
  refine callThen_of (c1 _) ?_
  by_cases h1 : 4611686018427387903 < z
  · have e1 : (z - 4611686018427387903).sign = 1 := Int.sign_eq_one_of_pos (by omega)
    simp (maxSteps := 2000000) only [wk0, wk1, wk2, wk3, keepA, keepT, Fr.keep, frzT, flatT, arrayAtA, ownT, extT, Fr.ev, Fr.put, Fr.get, initFr, buildSliceA, zeros, pkB, pkT, pkF, ownDst, Env.kd, ofConst, isConst, binA, intI, cmpI, shiftI, convertA, buildA, fillA, fillS, splice, AV.cells?, storeA, readAt, fieldAddrA, fieldA, indexA, extractA, unA, builtinA, appendA, lenA, sliceCells, isSliceK, makeInterfaceA, nilCheckA, eqA, AV.one, AV.plain, if_false, if_true, Nat.reduceEqDiff, reduceIte, Nat.reduceAdd, List.replicate, Nat.reduceLeDiff, Nat.reduceMul, Nat.reduceSub, Nat.reducePow, Int.reduceLT, Int.reduceLE, Int.reduceToNat, Int.reducePow, IntKind.bits, Int.reduceEq, Int.reduceMul, Int.reduceNeg, ne_eq, reduceCtorEq, escT, BEq.rfl, beq_self_eq_true, Int.reduceAdd, Int.reduceSub, Int.reduceMod, Int.reduceDiv, Nat.reduceMod, Nat.reduceDiv, Nat.reduceLT, cond_true, cond_false, gt_iff_lt, ge_iff_le, e1, YtimdnnlfkkkpbaaDoor.D18, ty2, ty3, ty4, ty41]
    exact retB_plain (by simp [nmd_int, nmd_bool]) (by simp only [packA]; rw [show max (-4611686018427387903) (min z 4611686018427387903) = 4611686018427387903 by omega, decide_eq_true (by omega)]) (by simp)
  · have e1 : (z - 4611686018427387903).sign = 0 ∨ (z - 4611686018427387903).sign = -1 := by
      rcases Int.lt_or_eq_of_le (show z - 4611686018427387903 ≤ 0 by omega) with h | h
      · exact .inr (Int.sign_eq_neg_one_of_neg h)
      · exact .inl (by rw [h]; rfl)
    have e2 : ¬ (0 : Int) < (z - 4611686018427387903).sign := by omega
    generalize (z - 4611686018427387903).sign = s at e2 ⊢
    simp (maxSteps := 2000000) only [wk0, wk1, wk2, wk3, keepA, keepT, Fr.keep, frzT, flatT, arrayAtA, ownT, extT, Fr.ev, Fr.put, Fr.get, initFr, buildSliceA, zeros, pkB, pkT, pkF, ownDst, Env.kd, ofConst, isConst, binA, intI, cmpI, shiftI, convertA, buildA, fillA, fillS, splice, AV.cells?, storeA, readAt, fieldAddrA, fieldA, indexA, extractA, unA, builtinA, appendA, lenA, sliceCells, isSliceK, makeInterfaceA, nilCheckA, eqA, AV.one, AV.plain, if_false, if_true, Nat.reduceEqDiff, reduceIte, Nat.reduceAdd, List.replicate, Nat.reduceLeDiff, Nat.reduceMul, Nat.reduceSub, Nat.reducePow, Int.reduceLT, Int.reduceLE, Int.reduceToNat, Int.reducePow, IntKind.bits, Int.reduceEq, Int.reduceMul, Int.reduceNeg, ne_eq, reduceCtorEq, escT, BEq.rfl, beq_self_eq_true, Int.reduceAdd, Int.reduceSub, Int.reduceMod, Int.reduceDiv, Nat.reduceMod, Nat.reduceDiv, Nat.reduceLT, cond_true, cond_false, gt_iff_lt, ge_iff_le, e2, YtimdnnlfkkkpbaaDoor.D18, ty2, ty3, ty4, ty41]
    refine callThen_of (o2 _) ?_
    simp (maxSteps := 2000000) only [wk0, wk1, wk2, wk3, keepA, keepT, Fr.keep, frzT, flatT, arrayAtA, ownT, extT, Fr.ev, Fr.put, Fr.get, initFr, buildSliceA, zeros, pkB, pkT, pkF, ownDst, Env.kd, ofConst, isConst, binA, intI, cmpI, shiftI, convertA, buildA, fillA, fillS, splice, AV.cells?, storeA, readAt, fieldAddrA, fieldA, indexA, extractA, unA, builtinA, appendA, lenA, sliceCells, isSliceK, makeInterfaceA, nilCheckA, eqA, AV.one, AV.plain, if_false, if_true, Nat.reduceEqDiff, reduceIte, Nat.reduceAdd, List.replicate, Nat.reduceLeDiff, Nat.reduceMul, Nat.reduceSub, Nat.reducePow, Int.reduceLT, Int.reduceLE, Int.reduceToNat, Int.reducePow, IntKind.bits, Int.reduceEq, Int.reduceMul, Int.reduceNeg, ne_eq, reduceCtorEq, escT, BEq.rfl, beq_self_eq_true, Int.reduceAdd, Int.reduceSub, Int.reduceMod, Int.reduceDiv, Nat.reduceMod, Nat.reduceDiv, Nat.reduceLT, cond_true, cond_false, gt_iff_lt, ge_iff_le, YtimdnnlfkkkpbaaDoor.D18, ty2, ty3, ty4, ty41]
    refine callThen_of (c2 _) ?_
    by_cases h2 : z < -4611686018427387903
    · have e3 : (z - -4611686018427387903).sign = -1 := Int.sign_eq_neg_one_of_neg (by omega)
      simp (maxSteps := 2000000) only [wk0, wk1, wk2, wk3, keepA, keepT, Fr.keep, frzT, flatT, arrayAtA, ownT, extT, Fr.ev, Fr.put, Fr.get, initFr, buildSliceA, zeros, pkB, pkT, pkF, ownDst, Env.kd, ofConst, isConst, binA, intI, cmpI, shiftI, convertA, buildA, fillA, fillS, splice, AV.cells?, storeA, readAt, fieldAddrA, fieldA, indexA, extractA, unA, builtinA, appendA, lenA, sliceCells, isSliceK, makeInterfaceA, nilCheckA, eqA, AV.one, AV.plain, if_false, if_true, Nat.reduceEqDiff, reduceIte, Nat.reduceAdd, List.replicate, Nat.reduceLeDiff, Nat.reduceMul, Nat.reduceSub, Nat.reducePow, Int.reduceLT, Int.reduceLE, Int.reduceToNat, Int.reducePow, IntKind.bits, Int.reduceEq, Int.reduceMul, Int.reduceNeg, ne_eq, reduceCtorEq, escT, BEq.rfl, beq_self_eq_true, Int.reduceAdd, Int.reduceSub, Int.reduceMod, Int.reduceDiv, Nat.reduceMod, Nat.reduceDiv, Nat.reduceLT, cond_true, cond_false, gt_iff_lt, ge_iff_le, e3, YtimdnnlfkkkpbaaDoor.D18, ty2, ty3, ty4, ty41]
      exact retB_plain (by simp [nmd_int, nmd_bool]) (by simp only [packA]; rw [show max (-4611686018427387903) (min z 4611686018427387903) = -4611686018427387903 by omega, decide_eq_true (by omega)]) (by simp)
    · have e4 : ¬ (z - -4611686018427387903).sign < 0 := by
        rcases Int.lt_or_eq_of_le (show 0 ≤ z - -4611686018427387903 by omega) with h | h
        · rw [Int.sign_eq_one_of_pos h]; decide
        · rw [← h]; decide
      have hs := fun S => decSmall_ok z S (by unfold inI; omega)
      simp only [decA, lstI] at hs
      generalize (z - -4611686018427387903).sign = s2 at e4 ⊢
      simp (maxSteps := 2000000) only [wk0, wk1, wk2, wk3, keepA, keepT, Fr.keep, frzT, flatT, arrayAtA, ownT, extT, Fr.ev, Fr.put, Fr.get, initFr, buildSliceA, zeros, pkB, pkT, pkF, ownDst, Env.kd, ofConst, isConst, binA, intI, cmpI, shiftI, convertA, buildA, fillA, fillS, splice, AV.cells?, storeA, readAt, fieldAddrA, fieldA, indexA, extractA, unA, builtinA, appendA, lenA, sliceCells, isSliceK, makeInterfaceA, nilCheckA, eqA, AV.one, AV.plain, if_false, if_true, Nat.reduceEqDiff, reduceIte, Nat.reduceAdd, List.replicate, Nat.reduceLeDiff, Nat.reduceMul, Nat.reduceSub, Nat.reducePow, Int.reduceLT, Int.reduceLE, Int.reduceToNat, Int.reducePow, IntKind.bits, Int.reduceEq, Int.reduceMul, Int.reduceNeg, ne_eq, reduceCtorEq, escT, BEq.rfl, beq_self_eq_true, Int.reduceAdd, Int.reduceSub, Int.reduceMod, Int.reduceDiv, Nat.reduceMod, Nat.reduceDiv, Nat.reduceLT, cond_true, cond_false, gt_iff_lt, ge_iff_le, e4, YtimdnnlfkkkpbaaDoor.D18, ty2, ty3, ty4, ty41]
      refine callThen_of (hs _) ?_
      simp (maxSteps := 2000000) only [wk0, wk1, wk2, wk3, keepA, keepT, Fr.keep, frzT, flatT, arrayAtA, ownT, extT, Fr.ev, Fr.put, Fr.get, initFr, buildSliceA, zeros, pkB, pkT, pkF, ownDst, Env.kd, ofConst, isConst, binA, intI, cmpI, shiftI, convertA, buildA, fillA, fillS, splice, AV.cells?, storeA, readAt, fieldAddrA, fieldA, indexA, extractA, unA, builtinA, appendA, lenA, sliceCells, isSliceK, makeInterfaceA, nilCheckA, eqA, AV.one, AV.plain, if_false, if_true, Nat.reduceEqDiff, reduceIte, Nat.reduceAdd, List.replicate, Nat.reduceLeDiff, Nat.reduceMul, Nat.reduceSub, Nat.reducePow, Int.reduceLT, Int.reduceLE, Int.reduceToNat, Int.reducePow, IntKind.bits, Int.reduceEq, Int.reduceMul, Int.reduceNeg, ne_eq, reduceCtorEq, escT, BEq.rfl, beq_self_eq_true, Int.reduceAdd, Int.reduceSub, Int.reduceMod, Int.reduceDiv, Nat.reduceMod, Nat.reduceDiv, Nat.reduceLT, cond_true, cond_false, gt_iff_lt, ge_iff_le, YtimdnnlfkkkpbaaDoor.D18, ty2, ty3, ty4, ty41]
      exact retB_plain (by simp [nmd_int, nmd_bool]) (by simp only [packA]; rw [show max (-4611686018427387903) (min z 4611686018427387903) = z by omega, decide_eq_false (by omega)]) (by simp)
end Go.Proofs.YtimdnnlfkkkpbaaDoor
