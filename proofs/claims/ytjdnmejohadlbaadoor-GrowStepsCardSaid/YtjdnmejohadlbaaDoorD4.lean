/- Decimals: which is greater; numbers of 64 bits; what is bounded. -/
import Derived.Test.YtjdnmejohadlbaaDoorD3
set_option linter.unusedSimpArgs false
set_option linter.unusedVariables false
set_option maxRecDepth 100000
set_option maxHeartbeats 4000000
namespace Go.Proofs.YtjdnmejohadlbaaDoor
theorem lenD_pos {n : Nat} (h : 0 < n) : 0 < lenD n := (lt_lenD n 0).2 (by omega)
noncomputable def c161 : Code := Tryd.f161.body.getD .skip
theorem b161 : Tryd.f161.body = some c161 := rfl
theorem d161 : fnOk Tryd.f161 c161 = true := by kernel_rfl
def D161 : Nat → List Tag := fun _ => []
theorem e161 : drawsOk D161 c161 = true := by kernel_rfl
theorem decSign_ok (z : Int) (S : Heap) (hz : lenD z.natAbs ≤ 100000) : Call theE 161 [decA z] S (.int .i64 z.sign) S := by
  have dn := digs_len z.natAbs
  refine Call.ofC Tryd.func161 YtjdnmejohadlbaaDoor.b161 YtjdnmejohadlbaaDoor.d161 YtjdnmejohadlbaaDoor.e161 (by simp [Tryd.f161]) ?_
  dsimp only [YtjdnmejohadlbaaDoor.c161, Tryd.f161, Option.getD_some]
  rcases Int.lt_trichotomy z 0 with h | h | h
  · have p1 : ¬ ((lenD z.natAbs : Nat) : Int) = 0 := by have := lenD_pos (show 0 < z.natAbs by omega); omega
    have p2 : decide (z < 0) = true := decide_eq_true h
    simp (maxSteps := 2000000) only [wk0, wk1, wk2, wk3, wk4, keepA, keepT, Fr.keep, frzT, flatT, arrayAtA, ownT, extT, Fr.ev, Fr.put, Fr.get, initFr, buildSliceA, zeros, pkB, pkT, pkF, ownDst, Env.kd, ofConst, isConst, binA, intI, cmpI, shiftI, convertA, buildA, fillA, fillS, splice, AV.cells?, storeA, readAt, fieldAddrA, fieldA, indexA, extractA, unA, builtinA, appendA, lenA, sliceCells, isSliceK, makeInterfaceA, nilCheckA, eqA, AV.one, AV.plain, if_false, if_true, Nat.reduceEqDiff, reduceIte, Nat.reduceAdd, List.replicate, Nat.reduceLeDiff, Nat.reduceMul, Nat.reduceSub, Nat.reducePow, Int.reduceLT, Int.reduceLE, Int.reduceToNat, Int.reducePow, IntKind.bits, Int.reduceEq, Int.reduceMul, Int.reduceNeg, ne_eq, reduceCtorEq, escT, BEq.rfl, beq_self_eq_true, Int.reduceAdd, Int.reduceSub, Int.reduceMod, Int.reduceDiv, Nat.reduceMod, Nat.reduceDiv, Nat.reduceLT, cond_true, cond_false, gt_iff_lt, ge_iff_le, decA, lstI, dn, p1, p2, YtjdnmejohadlbaaDoor.D161, ty1, ty3, ty4, ty147, ty149]
    exact retB_plain (by simp [nmd_int]) (by rw [Int.sign_eq_neg_one_of_neg h]; rfl) (by simp)
  · subst h
    have p1 : ((lenD (0 : Int).natAbs : Nat) : Int) = 0 := by simp [lenD_zero]
    simp (maxSteps := 2000000) only [wk0, wk1, wk2, wk3, wk4, keepA, keepT, Fr.keep, frzT, flatT, arrayAtA, ownT, extT, Fr.ev, Fr.put, Fr.get, initFr, buildSliceA, zeros, pkB, pkT, pkF, ownDst, Env.kd, ofConst, isConst, binA, intI, cmpI, shiftI, convertA, buildA, fillA, fillS, splice, AV.cells?, storeA, readAt, fieldAddrA, fieldA, indexA, extractA, unA, builtinA, appendA, lenA, sliceCells, isSliceK, makeInterfaceA, nilCheckA, eqA, AV.one, AV.plain, if_false, if_true, Nat.reduceEqDiff, reduceIte, Nat.reduceAdd, List.replicate, Nat.reduceLeDiff, Nat.reduceMul, Nat.reduceSub, Nat.reducePow, Int.reduceLT, Int.reduceLE, Int.reduceToNat, Int.reducePow, IntKind.bits, Int.reduceEq, Int.reduceMul, Int.reduceNeg, ne_eq, reduceCtorEq, escT, BEq.rfl, beq_self_eq_true, Int.reduceAdd, Int.reduceSub, Int.reduceMod, Int.reduceDiv, Nat.reduceMod, Nat.reduceDiv, Nat.reduceLT, cond_true, cond_false, gt_iff_lt, ge_iff_le, decA, lstI, dn, p1, YtjdnmejohadlbaaDoor.D161, ty1, ty3, ty4, ty147, ty149]
    exact retB_plain (by simp [nmd_int]) rfl (by simp)
  · have p1 : ¬ ((lenD z.natAbs : Nat) : Int) = 0 := by have := lenD_pos (show 0 < z.natAbs by omega); omega
    have p2 : decide (z < 0) = false := decide_eq_false (by omega)
    simp (maxSteps := 2000000) only [wk0, wk1, wk2, wk3, wk4, keepA, keepT, Fr.keep, frzT, flatT, arrayAtA, ownT, extT, Fr.ev, Fr.put, Fr.get, initFr, buildSliceA, zeros, pkB, pkT, pkF, ownDst, Env.kd, ofConst, isConst, binA, intI, cmpI, shiftI, convertA, buildA, fillA, fillS, splice, AV.cells?, storeA, readAt, fieldAddrA, fieldA, indexA, extractA, unA, builtinA, appendA, lenA, sliceCells, isSliceK, makeInterfaceA, nilCheckA, eqA, AV.one, AV.plain, if_false, if_true, Nat.reduceEqDiff, reduceIte, Nat.reduceAdd, List.replicate, Nat.reduceLeDiff, Nat.reduceMul, Nat.reduceSub, Nat.reducePow, Int.reduceLT, Int.reduceLE, Int.reduceToNat, Int.reducePow, IntKind.bits, Int.reduceEq, Int.reduceMul, Int.reduceNeg, ne_eq, reduceCtorEq, escT, BEq.rfl, beq_self_eq_true, Int.reduceAdd, Int.reduceSub, Int.reduceMod, Int.reduceDiv, Nat.reduceMod, Nat.reduceDiv, Nat.reduceLT, cond_true, cond_false, gt_iff_lt, ge_iff_le, decA, lstI, dn, p1, p2, YtjdnmejohadlbaaDoor.D161, ty1, ty3, ty4, ty147, ty149]
    exact retB_plain (by simp [nmd_int]) (by rw [Int.sign_eq_one_of_pos h]; rfl) (by simp)
theorem lenD_subI {x y : Int} {k : Nat} (hx : lenD x.natAbs ≤ k) (hy : lenD y.natAbs ≤ k) : lenD (x - y).natAbs ≤ k + 1 := lenD_mono (show (x - y).natAbs ≤ x.natAbs + y.natAbs by omega) (lenD_add hx hy)
noncomputable def c91 : Code := Tryd.f91.body.getD .skip
theorem b91 : Tryd.f91.body = some c91 := rfl
theorem d91 : fnOk Tryd.f91 c91 = true := by kernel_rfl
def D91 : Nat → List Tag := fun _ => []
theorem e91 : drawsOk D91 c91 = true := by kernel_rfl
theorem decCmp_ok (x y : Int) (S : Heap) (hx : lenD x.natAbs ≤ 80000) (hy : lenD y.natAbs ≤ 80000) : Call theE 91 [decA x, decA y] S (.int .i64 (x - y).sign) S := by
  have h1 := fun S => decSub_ok x y S hx hy
  have h2 := fun S => decSign_ok (x - y) S (by have := lenD_subI hx hy; omega)
  simp only [decA, lstI] at h1 h2
  refine Call.ofC Tryd.func91 YtjdnmejohadlbaaDoor.b91 YtjdnmejohadlbaaDoor.d91 YtjdnmejohadlbaaDoor.e91 (by simp [Tryd.f91]) ?_
  dsimp only [YtjdnmejohadlbaaDoor.c91, Tryd.f91, Option.getD_some]
  simp (maxSteps := 2000000) only [wk0, wk1, wk2, wk3, wk4, keepA, keepT, Fr.keep, frzT, flatT, arrayAtA, ownT, extT, Fr.ev, Fr.put, Fr.get, initFr, buildSliceA, zeros, pkB, pkT, pkF, ownDst, Env.kd, ofConst, isConst, binA, intI, cmpI, shiftI, convertA, buildA, fillA, fillS, splice, AV.cells?, storeA, readAt, fieldAddrA, fieldA, indexA, extractA, unA, builtinA, appendA, lenA, sliceCells, isSliceK, makeInterfaceA, nilCheckA, eqA, AV.one, AV.plain, if_false, if_true, Nat.reduceEqDiff, reduceIte, Nat.reduceAdd, List.replicate, Nat.reduceLeDiff, Nat.reduceMul, Nat.reduceSub, Nat.reducePow, Int.reduceLT, Int.reduceLE, Int.reduceToNat, Int.reducePow, IntKind.bits, Int.reduceEq, Int.reduceMul, Int.reduceNeg, ne_eq, reduceCtorEq, escT, BEq.rfl, beq_self_eq_true, Int.reduceAdd, Int.reduceSub, Int.reduceMod, Int.reduceDiv, Nat.reduceMod, Nat.reduceDiv, Nat.reduceLT, cond_true, cond_false, gt_iff_lt, ge_iff_le, decA, lstI, YtjdnmejohadlbaaDoor.D91, ty3, ty149]
  refine callThen_of (h1 _) ?_
  simp (maxSteps := 2000000) only [wk0, wk1, wk2, wk3, wk4, keepA, keepT, Fr.keep, frzT, flatT, arrayAtA, ownT, extT, Fr.ev, Fr.put, Fr.get, initFr, buildSliceA, zeros, pkB, pkT, pkF, ownDst, Env.kd, ofConst, isConst, binA, intI, cmpI, shiftI, convertA, buildA, fillA, fillS, splice, AV.cells?, storeA, readAt, fieldAddrA, fieldA, indexA, extractA, unA, builtinA, appendA, lenA, sliceCells, isSliceK, makeInterfaceA, nilCheckA, eqA, AV.one, AV.plain, if_false, if_true, Nat.reduceEqDiff, reduceIte, Nat.reduceAdd, List.replicate, Nat.reduceLeDiff, Nat.reduceMul, Nat.reduceSub, Nat.reducePow, Int.reduceLT, Int.reduceLE, Int.reduceToNat, Int.reducePow, IntKind.bits, Int.reduceEq, Int.reduceMul, Int.reduceNeg, ne_eq, reduceCtorEq, escT, BEq.rfl, beq_self_eq_true, Int.reduceAdd, Int.reduceSub, Int.reduceMod, Int.reduceDiv, Nat.reduceMod, Nat.reduceDiv, Nat.reduceLT, cond_true, cond_false, gt_iff_lt, ge_iff_le, YtjdnmejohadlbaaDoor.D91, ty3, ty149]
  refine callThen_of (h2 _) ?_
  simp (maxSteps := 2000000) only [wk0, wk1, wk2, wk3, wk4, keepA, keepT, Fr.keep, frzT, flatT, arrayAtA, ownT, extT, Fr.ev, Fr.put, Fr.get, initFr, buildSliceA, zeros, pkB, pkT, pkF, ownDst, Env.kd, ofConst, isConst, binA, intI, cmpI, shiftI, convertA, buildA, fillA, fillS, splice, AV.cells?, storeA, readAt, fieldAddrA, fieldA, indexA, extractA, unA, builtinA, appendA, lenA, sliceCells, isSliceK, makeInterfaceA, nilCheckA, eqA, AV.one, AV.plain, if_false, if_true, Nat.reduceEqDiff, reduceIte, Nat.reduceAdd, List.replicate, Nat.reduceLeDiff, Nat.reduceMul, Nat.reduceSub, Nat.reducePow, Int.reduceLT, Int.reduceLE, Int.reduceToNat, Int.reducePow, IntKind.bits, Int.reduceEq, Int.reduceMul, Int.reduceNeg, ne_eq, reduceCtorEq, escT, BEq.rfl, beq_self_eq_true, Int.reduceAdd, Int.reduceSub, Int.reduceMod, Int.reduceDiv, Nat.reduceMod, Nat.reduceDiv, Nat.reduceLT, cond_true, cond_false, gt_iff_lt, ge_iff_le, YtjdnmejohadlbaaDoor.D91, ty3, ty149]
  exact retB_plain (by simp [nmd_int]) rfl (by simp)
noncomputable def c103 : Code := Tryd.f103.body.getD .skip
theorem b103 : Tryd.f103.body = some c103 := rfl
theorem d103 : fnOk Tryd.f103 c103 = true := by kernel_rfl
def D103 : Nat → List Tag := fun _ => []
theorem e103 : drawsOk D103 c103 = true := by kernel_rfl
theorem decSmall_ok (z : Int) (S : Heap) (hz : inI z) : Call theE 103 [decA z] S (.int .i64 z) S := by
  unfold inI at hz
  have dn := digs_len z.natAbs
  obtain ⟨N, hN⟩ : ∃ N, z.natAbs = N := ⟨_, rfl⟩
  have hl : lenD N ≤ 20 := (lenD_le _ _).2 (by omega)
  rw [hN] at dn
  refine Call.ofC Tryd.func103 YtjdnmejohadlbaaDoor.b103 YtjdnmejohadlbaaDoor.d103 YtjdnmejohadlbaaDoor.e103 (by simp [Tryd.f103]) ?_
  dsimp only [YtjdnmejohadlbaaDoor.c103, Tryd.f103, Option.getD_some]
  have w0 : IntKind.i64.wrap (((lenD N : Nat) : Int) - 1) = ((lenD N : Nat) : Int) - 1 := wrapI (by omega)
  simp (maxSteps := 2000000) only [wk0, wk1, wk2, wk3, wk4, keepA, keepT, Fr.keep, frzT, flatT, arrayAtA, ownT, extT, Fr.ev, Fr.put, Fr.get, initFr, buildSliceA, zeros, pkB, pkT, pkF, ownDst, Env.kd, ofConst, isConst, binA, intI, cmpI, shiftI, convertA, buildA, fillA, fillS, splice, AV.cells?, storeA, readAt, fieldAddrA, fieldA, indexA, extractA, unA, builtinA, appendA, lenA, sliceCells, isSliceK, makeInterfaceA, nilCheckA, eqA, AV.one, AV.plain, if_false, if_true, Nat.reduceEqDiff, reduceIte, Nat.reduceAdd, List.replicate, Nat.reduceLeDiff, Nat.reduceMul, Nat.reduceSub, Nat.reducePow, Int.reduceLT, Int.reduceLE, Int.reduceToNat, Int.reducePow, IntKind.bits, Int.reduceEq, Int.reduceMul, Int.reduceNeg, ne_eq, reduceCtorEq, escT, BEq.rfl, beq_self_eq_true, Int.reduceAdd, Int.reduceSub, Int.reduceMod, Int.reduceDiv, Nat.reduceMod, Nat.reduceDiv, Nat.reduceLT, cond_true, cond_false, gt_iff_lt, ge_iff_le, decA, lstI, hN, dn, w0, YtjdnmejohadlbaaDoor.D103, ty1, ty2, ty3, ty4, ty147, ty149]
  refine loopC_ind (fun m fr H => m ≤ lenD N ∧ fr.get 1 = .ptr S.length 0 0 ∧ fr.get 3 = .int .i64 (-((N / 10 ^ m : Nat) : Int)) ∧ fr.get 4 = .int .i64 ((m : Int) - 1) ∧ H = S ++ [some ⟨[.bool (decide (z < 0)), .lst ((digs N).map fun x => .int .i64 x) (lenD N)], 0⟩]) ?_ (n := lenD N)
    ⟨Nat.le_refl _, rfl, by rw [Nat.div_eq_of_lt (lt_pow_lenD N)]; rfl, rfl, rfl⟩
  rintro m fr H ⟨hm, g1, g3, g4, rfl⟩ ih
  cases m with
  | zero =>
    have p1 : ¬ (0 : Int) ≤ ((0 : Nat) : Int) - 1 := by omega
    have hq : -((N / 10 ^ 0 : Nat) : Int) = -(N : Int) := by simp
    rw [hq] at g3
    by_cases h0 : z < 0
    · have p2 : decide (z < 0) = true := decide_eq_true h0
      simp (maxSteps := 2000000) only [wk0, wk1, wk2, wk3, wk4, keepA, keepT, Fr.keep, frzT, flatT, arrayAtA, ownT, extT, Fr.ev, Fr.put, Fr.get, initFr, buildSliceA, zeros, pkB, pkT, pkF, ownDst, Env.kd, ofConst, isConst, binA, intI, cmpI, shiftI, convertA, buildA, fillA, fillS, splice, AV.cells?, storeA, readAt, fieldAddrA, fieldA, indexA, extractA, unA, builtinA, appendA, lenA, sliceCells, isSliceK, makeInterfaceA, nilCheckA, eqA, AV.one, AV.plain, if_false, if_true, Nat.reduceEqDiff, reduceIte, Nat.reduceAdd, List.replicate, Nat.reduceLeDiff, Nat.reduceMul, Nat.reduceSub, Nat.reducePow, Int.reduceLT, Int.reduceLE, Int.reduceToNat, Int.reducePow, IntKind.bits, Int.reduceEq, Int.reduceMul, Int.reduceNeg, ne_eq, reduceCtorEq, escT, BEq.rfl, beq_self_eq_true, Int.reduceAdd, Int.reduceSub, Int.reduceMod, Int.reduceDiv, Nat.reduceMod, Nat.reduceDiv, Nat.reduceLT, cond_true, cond_false, gt_iff_lt, ge_iff_le, g1, g3, g4, p1, p2, YtjdnmejohadlbaaDoor.D103, ty1, ty2, ty3, ty4, ty147, ty149]
      exact retB_plain (by simp [nmd_int]) (by simp only [packA]; congr 1; omega) (by simp)
    · have p2 : decide (z < 0) = false := decide_eq_false h0
      have w1 : IntKind.i64.wrap (0 - -(N : Int)) = z := by rw [wrapI (by omega)]; omega
      simp (maxSteps := 2000000) only [wk0, wk1, wk2, wk3, wk4, keepA, keepT, Fr.keep, frzT, flatT, arrayAtA, ownT, extT, Fr.ev, Fr.put, Fr.get, initFr, buildSliceA, zeros, pkB, pkT, pkF, ownDst, Env.kd, ofConst, isConst, binA, intI, cmpI, shiftI, convertA, buildA, fillA, fillS, splice, AV.cells?, storeA, readAt, fieldAddrA, fieldA, indexA, extractA, unA, builtinA, appendA, lenA, sliceCells, isSliceK, makeInterfaceA, nilCheckA, eqA, AV.one, AV.plain, if_false, if_true, Nat.reduceEqDiff, reduceIte, Nat.reduceAdd, List.replicate, Nat.reduceLeDiff, Nat.reduceMul, Nat.reduceSub, Nat.reducePow, Int.reduceLT, Int.reduceLE, Int.reduceToNat, Int.reducePow, IntKind.bits, Int.reduceEq, Int.reduceMul, Int.reduceNeg, ne_eq, reduceCtorEq, escT, BEq.rfl, beq_self_eq_true, Int.reduceAdd, Int.reduceSub, Int.reduceMod, Int.reduceDiv, Nat.reduceMod, Nat.reduceDiv, Nat.reduceLT, cond_true, cond_false, gt_iff_lt, ge_iff_le, g1, g3, g4, p1, p2, w1, YtjdnmejohadlbaaDoor.D103, ty1, ty2, ty3, ty4, ty147, ty149]
      exact retB_plain (by simp [nmd_int]) rfl (by simp)
  | succ k =>
    have p0 : ((k + 1 : Nat) : Int) - 1 = (k : Int) := by omega
    rw [p0] at g4
    have p1 : (0 : Int) ≤ (k : Int) := by omega
    have w1 : IntKind.i64.wrap ((k : Int) - 1) = (k : Int) - 1 := wrapI (by omega)
    have ga := digs_getA N (show k < lenD N by omega)
    have p2 : (k : Int) < ((lenD N : Nat) : Int) := by omega
    have hs := div_step N k
    have h1 := Nat.div_le_self N (10 ^ k)
    obtain ⟨q, hq⟩ : ∃ q, N / 10 ^ (k + 1) = q := ⟨_, rfl⟩
    obtain ⟨r, hr⟩ : ∃ r, N / 10 ^ k = r := ⟨_, rfl⟩
    rw [hq] at hs g3
    rw [hr] at hs h1
    have w2 : IntKind.i64.wrap (10 * -(q : Int)) = 10 * -(q : Int) := wrapI (by omega)
    have w3 : IntKind.i64.wrap (10 * -(q : Int) - ((dgt N k : Nat) : Int)) = -(r : Int) := by rw [wrapI (by omega)]; omega
    simp (maxSteps := 2000000) only [wk0, wk1, wk2, wk3, wk4, keepA, keepT, Fr.keep, frzT, flatT, arrayAtA, ownT, extT, Fr.ev, Fr.put, Fr.get, initFr, buildSliceA, zeros, pkB, pkT, pkF, ownDst, Env.kd, ofConst, isConst, binA, intI, cmpI, shiftI, convertA, buildA, fillA, fillS, splice, AV.cells?, storeA, readAt, fieldAddrA, fieldA, indexA, extractA, unA, builtinA, appendA, lenA, sliceCells, isSliceK, makeInterfaceA, nilCheckA, eqA, AV.one, AV.plain, if_false, if_true, Nat.reduceEqDiff, reduceIte, Nat.reduceAdd, List.replicate, Nat.reduceLeDiff, Nat.reduceMul, Nat.reduceSub, Nat.reducePow, Int.reduceLT, Int.reduceLE, Int.reduceToNat, Int.reducePow, IntKind.bits, Int.reduceEq, Int.reduceMul, Int.reduceNeg, ne_eq, reduceCtorEq, escT, BEq.rfl, beq_self_eq_true, Int.reduceAdd, Int.reduceSub, Int.reduceMod, Int.reduceDiv, Nat.reduceMod, Nat.reduceDiv, Nat.reduceLT, cond_true, cond_false, gt_iff_lt, ge_iff_le, g1, g3, g4, p1, p2, w1, w2, w3, ga, Int.toNat_natCast, Nat.mul_one, YtjdnmejohadlbaaDoor.D103, ty1, ty2, ty3, ty4, ty147, ty149]
    exact ih k _ _ (by omega) ⟨by omega, by simp [Fr.get, g1], by rw [hr]; simp [Fr.get], by simp [Fr.get], rfl⟩
noncomputable def c101 : Code := Tryd.f101.body.getD .skip
theorem b101 : Tryd.f101.body = some c101 := rfl
theorem d101 : fnOk Tryd.f101 c101 = true := by kernel_rfl
def D101 : Nat → List Tag
  | 1 => [.quiet, .quiet, .seq, .pure]
  | 3 => [.quiet, .quiet, .seq, .pure]
  | _ => []
theorem e101 : drawsOk D101 c101 = true := by kernel_rfl
theorem decBound_ok (z : Int) (S : Heap) (hz : lenD z.natAbs ≤ 80000) : Call theE 101 [decA z] S (.tup [.int .i64 (bndI z), .bool (ovrB z)]) S := by
  have l1 : lenD (4611686018427387903 : Int).natAbs ≤ 80000 := by have := (lenD_le 20 4611686018427387903).2 (by omega); simp; omega
  have l2 : lenD (-4611686018427387903 : Int).natAbs ≤ 80000 := by have := (lenD_le 20 4611686018427387903).2 (by omega); simp; omega
  have o1 := fun S => decOf_ok 4611686018427387903 S (by unfold inI; omega)
  have o2 := fun S => decOf_ok (-4611686018427387903) S (by unfold inI; omega)
  have c1 := fun S => decCmp_ok z 4611686018427387903 S hz l1
  have c2 := fun S => decCmp_ok z (-4611686018427387903) S hz l2
  simp only [decA, lstI] at o1 o2 c1 c2
  unfold bndI ovrB
  refine Call.ofC Tryd.func101 YtjdnmejohadlbaaDoor.b101 YtjdnmejohadlbaaDoor.d101 YtjdnmejohadlbaaDoor.e101 (by simp [Tryd.f101]) ?_
  dsimp only [YtjdnmejohadlbaaDoor.c101, Tryd.f101, Option.getD_some]
  simp (maxSteps := 2000000) only [wk0, wk1, wk2, wk3, wk4, keepA, keepT, Fr.keep, frzT, flatT, arrayAtA, ownT, extT, Fr.ev, Fr.put, Fr.get, initFr, buildSliceA, zeros, pkB, pkT, pkF, ownDst, Env.kd, ofConst, isConst, binA, intI, cmpI, shiftI, convertA, buildA, fillA, fillS, splice, AV.cells?, storeA, readAt, fieldAddrA, fieldA, indexA, extractA, unA, builtinA, appendA, lenA, sliceCells, isSliceK, makeInterfaceA, nilCheckA, eqA, AV.one, AV.plain, if_false, if_true, Nat.reduceEqDiff, reduceIte, Nat.reduceAdd, List.replicate, Nat.reduceLeDiff, Nat.reduceMul, Nat.reduceSub, Nat.reducePow, Int.reduceLT, Int.reduceLE, Int.reduceToNat, Int.reducePow, IntKind.bits, Int.reduceEq, Int.reduceMul, Int.reduceNeg, ne_eq, reduceCtorEq, escT, BEq.rfl, beq_self_eq_true, Int.reduceAdd, Int.reduceSub, Int.reduceMod, Int.reduceDiv, Nat.reduceMod, Nat.reduceDiv, Nat.reduceLT, cond_true, cond_false, gt_iff_lt, ge_iff_le, decA, lstI, YtjdnmejohadlbaaDoor.D101, ty2, ty3, ty4, ty149]
  refine callThen_of (o1 _) ?_
  simp (maxSteps := 2000000) only [wk0, wk1, wk2, wk3, wk4, keepA, keepT, Fr.keep, frzT, flatT, arrayAtA, ownT, extT, Fr.ev, Fr.put, Fr.get, initFr, buildSliceA, zeros, pkB, pkT, pkF, ownDst, Env.kd, ofConst, isConst, binA, intI, cmpI, shiftI, convertA, buildA, fillA, fillS, splice, AV.cells?, storeA, readAt, fieldAddrA, fieldA, indexA, extractA, unA, builtinA, appendA, lenA, sliceCells, isSliceK, makeInterfaceA, nilCheckA, eqA, AV.one, AV.plain, if_false, if_true, Nat.reduceEqDiff, reduceIte, Nat.reduceAdd, List.replicate, Nat.reduceLeDiff, Nat.reduceMul, Nat.reduceSub, Nat.reducePow, Int.reduceLT, Int.reduceLE, Int.reduceToNat, Int.reducePow, IntKind.bits, Int.reduceEq, Int.reduceMul, Int.reduceNeg, ne_eq, reduceCtorEq, escT, BEq.rfl, beq_self_eq_true, Int.reduceAdd, Int.reduceSub, Int.reduceMod, Int.reduceDiv, Nat.reduceMod, Nat.reduceDiv, Nat.reduceLT, cond_true, cond_false, gt_iff_lt, ge_iff_le, YtjdnmejohadlbaaDoor.D101, ty2, ty3, ty4, ty149]
  refine callThen_of (c1 _) ?_
  by_cases h1 : 4611686018427387903 < z
  · have e1 : (z - 4611686018427387903).sign = 1 := Int.sign_eq_one_of_pos (by omega)
    simp (maxSteps := 2000000) only [wk0, wk1, wk2, wk3, wk4, keepA, keepT, Fr.keep, frzT, flatT, arrayAtA, ownT, extT, Fr.ev, Fr.put, Fr.get, initFr, buildSliceA, zeros, pkB, pkT, pkF, ownDst, Env.kd, ofConst, isConst, binA, intI, cmpI, shiftI, convertA, buildA, fillA, fillS, splice, AV.cells?, storeA, readAt, fieldAddrA, fieldA, indexA, extractA, unA, builtinA, appendA, lenA, sliceCells, isSliceK, makeInterfaceA, nilCheckA, eqA, AV.one, AV.plain, if_false, if_true, Nat.reduceEqDiff, reduceIte, Nat.reduceAdd, List.replicate, Nat.reduceLeDiff, Nat.reduceMul, Nat.reduceSub, Nat.reducePow, Int.reduceLT, Int.reduceLE, Int.reduceToNat, Int.reducePow, IntKind.bits, Int.reduceEq, Int.reduceMul, Int.reduceNeg, ne_eq, reduceCtorEq, escT, BEq.rfl, beq_self_eq_true, Int.reduceAdd, Int.reduceSub, Int.reduceMod, Int.reduceDiv, Nat.reduceMod, Nat.reduceDiv, Nat.reduceLT, cond_true, cond_false, gt_iff_lt, ge_iff_le, e1, YtjdnmejohadlbaaDoor.D101, ty2, ty3, ty4, ty149]
    exact retB_plain (by simp [nmd_int, nmd_bool]) (by simp only [packA]; rw [show max (-4611686018427387903) (min z 4611686018427387903) = 4611686018427387903 by omega, decide_eq_true (by omega)]) (by simp)
  · have e1 : (z - 4611686018427387903).sign = 0 ∨ (z - 4611686018427387903).sign = -1 := by
      rcases Int.lt_or_eq_of_le (show z - 4611686018427387903 ≤ 0 by omega) with h | h
      · exact .inr (Int.sign_eq_neg_one_of_neg h)
      · exact .inl (by rw [h]; rfl)
    have e2 : ¬ (0 : Int) < (z - 4611686018427387903).sign := by omega
    generalize (z - 4611686018427387903).sign = s at e2 ⊢
    simp (maxSteps := 2000000) only [wk0, wk1, wk2, wk3, wk4, keepA, keepT, Fr.keep, frzT, flatT, arrayAtA, ownT, extT, Fr.ev, Fr.put, Fr.get, initFr, buildSliceA, zeros, pkB, pkT, pkF, ownDst, Env.kd, ofConst, isConst, binA, intI, cmpI, shiftI, convertA, buildA, fillA, fillS, splice, AV.cells?, storeA, readAt, fieldAddrA, fieldA, indexA, extractA, unA, builtinA, appendA, lenA, sliceCells, isSliceK, makeInterfaceA, nilCheckA, eqA, AV.one, AV.plain, if_false, if_true, Nat.reduceEqDiff, reduceIte, Nat.reduceAdd, List.replicate, Nat.reduceLeDiff, Nat.reduceMul, Nat.reduceSub, Nat.reducePow, Int.reduceLT, Int.reduceLE, Int.reduceToNat, Int.reducePow, IntKind.bits, Int.reduceEq, Int.reduceMul, Int.reduceNeg, ne_eq, reduceCtorEq, escT, BEq.rfl, beq_self_eq_true, Int.reduceAdd, Int.reduceSub, Int.reduceMod, Int.reduceDiv, Nat.reduceMod, Nat.reduceDiv, Nat.reduceLT, cond_true, cond_false, gt_iff_lt, ge_iff_le, e2, YtjdnmejohadlbaaDoor.D101, ty2, ty3, ty4, ty149]
    refine callThen_of (o2 _) ?_
    simp (maxSteps := 2000000) only [wk0, wk1, wk2, wk3, wk4, keepA, keepT, Fr.keep, frzT, flatT, arrayAtA, ownT, extT, Fr.ev, Fr.put, Fr.get, initFr, buildSliceA, zeros, pkB, pkT, pkF, ownDst, Env.kd, ofConst, isConst, binA, intI, cmpI, shiftI, convertA, buildA, fillA, fillS, splice, AV.cells?, storeA, readAt, fieldAddrA, fieldA, indexA, extractA, unA, builtinA, appendA, lenA, sliceCells, isSliceK, makeInterfaceA, nilCheckA, eqA, AV.one, AV.plain, if_false, if_true, Nat.reduceEqDiff, reduceIte, Nat.reduceAdd, List.replicate, Nat.reduceLeDiff, Nat.reduceMul, Nat.reduceSub, Nat.reducePow, Int.reduceLT, Int.reduceLE, Int.reduceToNat, Int.reducePow, IntKind.bits, Int.reduceEq, Int.reduceMul, Int.reduceNeg, ne_eq, reduceCtorEq, escT, BEq.rfl, beq_self_eq_true, Int.reduceAdd, Int.reduceSub, Int.reduceMod, Int.reduceDiv, Nat.reduceMod, Nat.reduceDiv, Nat.reduceLT, cond_true, cond_false, gt_iff_lt, ge_iff_le, YtjdnmejohadlbaaDoor.D101, ty2, ty3, ty4, ty149]
    refine callThen_of (c2 _) ?_
    by_cases h2 : z < -4611686018427387903
    · have e3 : (z - -4611686018427387903).sign = -1 := Int.sign_eq_neg_one_of_neg (by omega)
      simp (maxSteps := 2000000) only [wk0, wk1, wk2, wk3, wk4, keepA, keepT, Fr.keep, frzT, flatT, arrayAtA, ownT, extT, Fr.ev, Fr.put, Fr.get, initFr, buildSliceA, zeros, pkB, pkT, pkF, ownDst, Env.kd, ofConst, isConst, binA, intI, cmpI, shiftI, convertA, buildA, fillA, fillS, splice, AV.cells?, storeA, readAt, fieldAddrA, fieldA, indexA, extractA, unA, builtinA, appendA, lenA, sliceCells, isSliceK, makeInterfaceA, nilCheckA, eqA, AV.one, AV.plain, if_false, if_true, Nat.reduceEqDiff, reduceIte, Nat.reduceAdd, List.replicate, Nat.reduceLeDiff, Nat.reduceMul, Nat.reduceSub, Nat.reducePow, Int.reduceLT, Int.reduceLE, Int.reduceToNat, Int.reducePow, IntKind.bits, Int.reduceEq, Int.reduceMul, Int.reduceNeg, ne_eq, reduceCtorEq, escT, BEq.rfl, beq_self_eq_true, Int.reduceAdd, Int.reduceSub, Int.reduceMod, Int.reduceDiv, Nat.reduceMod, Nat.reduceDiv, Nat.reduceLT, cond_true, cond_false, gt_iff_lt, ge_iff_le, e3, YtjdnmejohadlbaaDoor.D101, ty2, ty3, ty4, ty149]
      exact retB_plain (by simp [nmd_int, nmd_bool]) (by simp only [packA]; rw [show max (-4611686018427387903) (min z 4611686018427387903) = -4611686018427387903 by omega, decide_eq_true (by omega)]) (by simp)
    · have e4 : ¬ (z - -4611686018427387903).sign < 0 := by
        rcases Int.lt_or_eq_of_le (show 0 ≤ z - -4611686018427387903 by omega) with h | h
        · rw [Int.sign_eq_one_of_pos h]; decide
        · rw [← h]; decide
      have hs := fun S => decSmall_ok z S (by unfold inI; omega)
      simp only [decA, lstI] at hs
      generalize (z - -4611686018427387903).sign = s2 at e4 ⊢
      simp (maxSteps := 2000000) only [wk0, wk1, wk2, wk3, wk4, keepA, keepT, Fr.keep, frzT, flatT, arrayAtA, ownT, extT, Fr.ev, Fr.put, Fr.get, initFr, buildSliceA, zeros, pkB, pkT, pkF, ownDst, Env.kd, ofConst, isConst, binA, intI, cmpI, shiftI, convertA, buildA, fillA, fillS, splice, AV.cells?, storeA, readAt, fieldAddrA, fieldA, indexA, extractA, unA, builtinA, appendA, lenA, sliceCells, isSliceK, makeInterfaceA, nilCheckA, eqA, AV.one, AV.plain, if_false, if_true, Nat.reduceEqDiff, reduceIte, Nat.reduceAdd, List.replicate, Nat.reduceLeDiff, Nat.reduceMul, Nat.reduceSub, Nat.reducePow, Int.reduceLT, Int.reduceLE, Int.reduceToNat, Int.reducePow, IntKind.bits, Int.reduceEq, Int.reduceMul, Int.reduceNeg, ne_eq, reduceCtorEq, escT, BEq.rfl, beq_self_eq_true, Int.reduceAdd, Int.reduceSub, Int.reduceMod, Int.reduceDiv, Nat.reduceMod, Nat.reduceDiv, Nat.reduceLT, cond_true, cond_false, gt_iff_lt, ge_iff_le, e4, YtjdnmejohadlbaaDoor.D101, ty2, ty3, ty4, ty149]
      refine callThen_of (hs _) ?_
      simp (maxSteps := 2000000) only [wk0, wk1, wk2, wk3, wk4, keepA, keepT, Fr.keep, frzT, flatT, arrayAtA, ownT, extT, Fr.ev, Fr.put, Fr.get, initFr, buildSliceA, zeros, pkB, pkT, pkF, ownDst, Env.kd, ofConst, isConst, binA, intI, cmpI, shiftI, convertA, buildA, fillA, fillS, splice, AV.cells?, storeA, readAt, fieldAddrA, fieldA, indexA, extractA, unA, builtinA, appendA, lenA, sliceCells, isSliceK, makeInterfaceA, nilCheckA, eqA, AV.one, AV.plain, if_false, if_true, Nat.reduceEqDiff, reduceIte, Nat.reduceAdd, List.replicate, Nat.reduceLeDiff, Nat.reduceMul, Nat.reduceSub, Nat.reducePow, Int.reduceLT, Int.reduceLE, Int.reduceToNat, Int.reducePow, IntKind.bits, Int.reduceEq, Int.reduceMul, Int.reduceNeg, ne_eq, reduceCtorEq, escT, BEq.rfl, beq_self_eq_true, Int.reduceAdd, Int.reduceSub, Int.reduceMod, Int.reduceDiv, Nat.reduceMod, Nat.reduceDiv, Nat.reduceLT, cond_true, cond_false, gt_iff_lt, ge_iff_le, YtjdnmejohadlbaaDoor.D101, ty2, ty3, ty4, ty149]
      exact retB_plain (by simp [nmd_int, nmd_bool]) (by simp only [packA]; rw [show max (-4611686018427387903) (min z 4611686018427387903) = z by omega, decide_eq_false (by omega)]) (by simp)
end Go.Proofs.YtjdnmejohadlbaaDoor
