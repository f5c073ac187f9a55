/- vec: sums and differences. -/
import Derived.Test.YtimdnnlfkkkpbaaV0
set_option linter.unusedSimpArgs false
set_option linter.unusedVariables false
set_option maxRecDepth 100000
set_option maxHeartbeats 4000000
namespace Go.Proofs.Ytimdnnlfkkkpbaa
noncomputable def c52 : Code := Try.f52.body.getD .skip
theorem b52 : Try.f52.body = some c52 := rfl
theorem d52 : fnOk Try.f52 c52 = true := by kernel_rfl
def D52 : Nat → List Tag := fun _ => []
theorem e52 : drawsOk D52 c52 = true := by kernel_rfl
noncomputable def c10 : Code := Try.f10.body.getD .skip
theorem b10 : Try.f10.body = some c10 := rfl
theorem d10 : fnOk Try.f10 c10 = true := by kernel_rfl
def D10 : Nat → List Tag := fun _ => []
theorem e10 : drawsOk D10 c10 = true := by kernel_rfl
noncomputable def c11 : Code := Try.f11.body.getD .skip
theorem b11 : Try.f11.body = some c11 := rfl
theorem d11 : fnOk Try.f11 c11 = true := by kernel_rfl
def D11 : Nat → List Tag := fun _ => []
theorem e11 : drawsOk D11 c11 = true := by kernel_rfl
noncomputable def c54 : Code := Try.f54.body.getD .skip
theorem b54 : Try.f54.body = some c54 := rfl
theorem d54 : fnOk Try.f54 c54 = true := by kernel_rfl
def D54 : Nat → List Tag
  | 1 => [.quiet, .pure, .pure, .quiet, .quiet, .pure, .pure, .quiet, .seq, .pure, .pure, .pure, .pure]
  | _ => []
theorem e54 : drawsOk D54 c54 = true := by kernel_rfl
noncomputable def c55 : Code := Try.f55.body.getD .skip
theorem b55 : Try.f55.body = some c55 := rfl
theorem d55 : fnOk Try.f55 c55 = true := by kernel_rfl
def D55 : Nat → List Tag
  | 1 => [.quiet, .pure, .pure, .quiet, .quiet, .pure, .pure, .quiet, .seq, .pure, .pure, .pure, .pure]
  | _ => []
theorem e55 : drawsOk D55 c55 = true := by kernel_rfl
theorem sized1_ok (l r : List Int) (S : Heap) : Call theE 52 [lstI l, .lst [lstI r] 1] S (.bool (decide (l.length ≤ 6 ∧ r.length = l.length))) S := by
  refine Call.ofC Try.func52 b52 d52 e52 (by simp [Try.f52]) ?_
  dsimp only [c52, Try.f52, Option.getD_some]
  by_cases h1 : (6 : Int) < l.length
  · simp (maxSteps := 2000000) only [wk0, wk1, wk2, wk3, keepA, frzT, flatT, arrayAtA, ownT, extT, Fr.ev, Fr.put, Fr.get, initFr, buildSliceA, zeros, pickA, ownDst, Env.kd, ofConst, isConst, binA, intI, cmpI, shiftI, convertA, buildA, fillA, fillS, splice, AV.cells?, storeA, readAt, fieldAddrA, fieldA, indexA, extractA, unA, builtinA, appendA, lenA, sliceCells, isSliceK, makeInterfaceA, nilCheckA, eqA, AV.one, AV.plain, if_false, if_true, Nat.reduceEqDiff, reduceIte, Nat.reduceAdd, List.replicate, Nat.reduceLeDiff, Nat.reduceMul, Nat.reduceSub, Nat.reducePow, Int.reduceLT, Int.reduceLE, Int.reduceToNat, Int.reducePow, IntKind.bits, Int.reduceEq, Int.reduceMul, Int.reduceNeg, ne_eq, reduceCtorEq, escT, BEq.rfl, beq_self_eq_true, Int.reduceAdd, Int.reduceSub, Int.reduceMod, Int.reduceDiv, Nat.reduceMod, Nat.reduceDiv, Nat.reduceLT, cond_true, cond_false, gt_iff_lt, ge_iff_le, lstI, h1, D52, ty3, ty4, ty22, ty29]
    exact retB_plain (by simp [nmd_bool]) (by rw [decide_eq_false (by omega)]; rfl) (by simp)
  · simp (maxSteps := 2000000) only [wk0, wk1, wk2, wk3, keepA, frzT, flatT, arrayAtA, ownT, extT, Fr.ev, Fr.put, Fr.get, initFr, buildSliceA, zeros, pickA, ownDst, Env.kd, ofConst, isConst, binA, intI, cmpI, shiftI, convertA, buildA, fillA, fillS, splice, AV.cells?, storeA, readAt, fieldAddrA, fieldA, indexA, extractA, unA, builtinA, appendA, lenA, sliceCells, isSliceK, makeInterfaceA, nilCheckA, eqA, AV.one, AV.plain, if_false, if_true, Nat.reduceEqDiff, reduceIte, Nat.reduceAdd, List.replicate, Nat.reduceLeDiff, Nat.reduceMul, Nat.reduceSub, Nat.reducePow, Int.reduceLT, Int.reduceLE, Int.reduceToNat, Int.reducePow, IntKind.bits, Int.reduceEq, Int.reduceMul, Int.reduceNeg, ne_eq, reduceCtorEq, escT, BEq.rfl, beq_self_eq_true, Int.reduceAdd, Int.reduceSub, Int.reduceMod, Int.reduceDiv, Nat.reduceMod, Nat.reduceDiv, Nat.reduceLT, cond_true, cond_false, gt_iff_lt, ge_iff_le, lstI, h1, D52, ty3, ty4, ty22, ty29]
    refine loopC_of ?_
    by_cases h2 : (r.length : Int) = l.length
    · simp (maxSteps := 2000000) only [wk0, wk1, wk2, wk3, keepA, frzT, flatT, arrayAtA, ownT, extT, Fr.ev, Fr.put, Fr.get, initFr, buildSliceA, zeros, pickA, ownDst, Env.kd, ofConst, isConst, binA, intI, cmpI, shiftI, convertA, buildA, fillA, fillS, splice, AV.cells?, storeA, readAt, fieldAddrA, fieldA, indexA, extractA, unA, builtinA, appendA, lenA, sliceCells, isSliceK, makeInterfaceA, nilCheckA, eqA, AV.one, AV.plain, if_false, if_true, Nat.reduceEqDiff, reduceIte, Nat.reduceAdd, List.replicate, Nat.reduceLeDiff, Nat.reduceMul, Nat.reduceSub, Nat.reducePow, Int.reduceLT, Int.reduceLE, Int.reduceToNat, Int.reducePow, IntKind.bits, Int.reduceEq, Int.reduceMul, Int.reduceNeg, ne_eq, reduceCtorEq, escT, BEq.rfl, beq_self_eq_true, Int.reduceAdd, Int.reduceSub, Int.reduceMod, Int.reduceDiv, Nat.reduceMod, Nat.reduceDiv, Nat.reduceLT, cond_true, cond_false, gt_iff_lt, ge_iff_le, lstI, h2, D52, ty3, ty4, ty22, ty29]
      refine loopC_of ?_
      simp (maxSteps := 2000000) only [wk0, wk1, wk2, wk3, keepA, frzT, flatT, arrayAtA, ownT, extT, Fr.ev, Fr.put, Fr.get, initFr, buildSliceA, zeros, pickA, ownDst, Env.kd, ofConst, isConst, binA, intI, cmpI, shiftI, convertA, buildA, fillA, fillS, splice, AV.cells?, storeA, readAt, fieldAddrA, fieldA, indexA, extractA, unA, builtinA, appendA, lenA, sliceCells, isSliceK, makeInterfaceA, nilCheckA, eqA, AV.one, AV.plain, if_false, if_true, Nat.reduceEqDiff, reduceIte, Nat.reduceAdd, List.replicate, Nat.reduceLeDiff, Nat.reduceMul, Nat.reduceSub, Nat.reducePow, Int.reduceLT, Int.reduceLE, Int.reduceToNat, Int.reducePow, IntKind.bits, Int.reduceEq, Int.reduceMul, Int.reduceNeg, ne_eq, reduceCtorEq, escT, BEq.rfl, beq_self_eq_true, Int.reduceAdd, Int.reduceSub, Int.reduceMod, Int.reduceDiv, Nat.reduceMod, Nat.reduceDiv, Nat.reduceLT, cond_true, cond_false, gt_iff_lt, ge_iff_le, lstI, h2, D52, ty3, ty4, ty22, ty29]
      exact retB_plain (by simp [nmd_bool]) (by rw [decide_eq_true (by omega)]; rfl) (by simp)
    · simp (maxSteps := 2000000) only [wk0, wk1, wk2, wk3, keepA, frzT, flatT, arrayAtA, ownT, extT, Fr.ev, Fr.put, Fr.get, initFr, buildSliceA, zeros, pickA, ownDst, Env.kd, ofConst, isConst, binA, intI, cmpI, shiftI, convertA, buildA, fillA, fillS, splice, AV.cells?, storeA, readAt, fieldAddrA, fieldA, indexA, extractA, unA, builtinA, appendA, lenA, sliceCells, isSliceK, makeInterfaceA, nilCheckA, eqA, AV.one, AV.plain, if_false, if_true, Nat.reduceEqDiff, reduceIte, Nat.reduceAdd, List.replicate, Nat.reduceLeDiff, Nat.reduceMul, Nat.reduceSub, Nat.reducePow, Int.reduceLT, Int.reduceLE, Int.reduceToNat, Int.reducePow, IntKind.bits, Int.reduceEq, Int.reduceMul, Int.reduceNeg, ne_eq, reduceCtorEq, escT, BEq.rfl, beq_self_eq_true, Int.reduceAdd, Int.reduceSub, Int.reduceMod, Int.reduceDiv, Nat.reduceMod, Nat.reduceDiv, Nat.reduceLT, cond_true, cond_false, gt_iff_lt, ge_iff_le, lstI, h2, D52, ty3, ty4, ty22, ty29]
      exact retB_plain (by simp [nmd_bool]) (by rw [decide_eq_false (by omega)]; rfl) (by simp)
theorem sized0_ok (l : List Int) (S : Heap) : Call theE 52 [lstI l, .nils] S (.bool (decide (l.length ≤ 6))) S := by
  refine Call.ofC Try.func52 b52 d52 e52 (by simp [Try.f52]) ?_
  dsimp only [c52, Try.f52, Option.getD_some]
  by_cases h1 : (6 : Int) < l.length
  · simp (maxSteps := 2000000) only [wk0, wk1, wk2, wk3, keepA, frzT, flatT, arrayAtA, ownT, extT, Fr.ev, Fr.put, Fr.get, initFr, buildSliceA, zeros, pickA, ownDst, Env.kd, ofConst, isConst, binA, intI, cmpI, shiftI, convertA, buildA, fillA, fillS, splice, AV.cells?, storeA, readAt, fieldAddrA, fieldA, indexA, extractA, unA, builtinA, appendA, lenA, sliceCells, isSliceK, makeInterfaceA, nilCheckA, eqA, AV.one, AV.plain, if_false, if_true, Nat.reduceEqDiff, reduceIte, Nat.reduceAdd, List.replicate, Nat.reduceLeDiff, Nat.reduceMul, Nat.reduceSub, Nat.reducePow, Int.reduceLT, Int.reduceLE, Int.reduceToNat, Int.reducePow, IntKind.bits, Int.reduceEq, Int.reduceMul, Int.reduceNeg, ne_eq, reduceCtorEq, escT, BEq.rfl, beq_self_eq_true, Int.reduceAdd, Int.reduceSub, Int.reduceMod, Int.reduceDiv, Nat.reduceMod, Nat.reduceDiv, Nat.reduceLT, cond_true, cond_false, gt_iff_lt, ge_iff_le, lstI, h1, D52, ty3, ty4, ty22, ty29]
    exact retB_plain (by simp [nmd_bool]) (by rw [decide_eq_false (by omega)]; rfl) (by simp)
  · simp (maxSteps := 2000000) only [wk0, wk1, wk2, wk3, keepA, frzT, flatT, arrayAtA, ownT, extT, Fr.ev, Fr.put, Fr.get, initFr, buildSliceA, zeros, pickA, ownDst, Env.kd, ofConst, isConst, binA, intI, cmpI, shiftI, convertA, buildA, fillA, fillS, splice, AV.cells?, storeA, readAt, fieldAddrA, fieldA, indexA, extractA, unA, builtinA, appendA, lenA, sliceCells, isSliceK, makeInterfaceA, nilCheckA, eqA, AV.one, AV.plain, if_false, if_true, Nat.reduceEqDiff, reduceIte, Nat.reduceAdd, List.replicate, Nat.reduceLeDiff, Nat.reduceMul, Nat.reduceSub, Nat.reducePow, Int.reduceLT, Int.reduceLE, Int.reduceToNat, Int.reducePow, IntKind.bits, Int.reduceEq, Int.reduceMul, Int.reduceNeg, ne_eq, reduceCtorEq, escT, BEq.rfl, beq_self_eq_true, Int.reduceAdd, Int.reduceSub, Int.reduceMod, Int.reduceDiv, Nat.reduceMod, Nat.reduceDiv, Nat.reduceLT, cond_true, cond_false, gt_iff_lt, ge_iff_le, lstI, h1, D52, ty3, ty4, ty22, ty29]
    refine loopC_of ?_
    simp (maxSteps := 2000000) only [wk0, wk1, wk2, wk3, keepA, frzT, flatT, arrayAtA, ownT, extT, Fr.ev, Fr.put, Fr.get, initFr, buildSliceA, zeros, pickA, ownDst, Env.kd, ofConst, isConst, binA, intI, cmpI, shiftI, convertA, buildA, fillA, fillS, splice, AV.cells?, storeA, readAt, fieldAddrA, fieldA, indexA, extractA, unA, builtinA, appendA, lenA, sliceCells, isSliceK, makeInterfaceA, nilCheckA, eqA, AV.one, AV.plain, if_false, if_true, Nat.reduceEqDiff, reduceIte, Nat.reduceAdd, List.replicate, Nat.reduceLeDiff, Nat.reduceMul, Nat.reduceSub, Nat.reducePow, Int.reduceLT, Int.reduceLE, Int.reduceToNat, Int.reducePow, IntKind.bits, Int.reduceEq, Int.reduceMul, Int.reduceNeg, ne_eq, reduceCtorEq, escT, BEq.rfl, beq_self_eq_true, Int.reduceAdd, Int.reduceSub, Int.reduceMod, Int.reduceDiv, Nat.reduceMod, Nat.reduceDiv, Nat.reduceLT, cond_true, cond_false, gt_iff_lt, ge_iff_le, lstI, D52, ty3, ty4, ty22, ty29]
    exact retB_plain (by simp [nmd_bool]) (by rw [decide_eq_true (by omega)]; rfl) (by simp)
theorem add1_ok (l r : List Int) (i : Nat) (j : Nat) (S : Heap) (hl : i < l.length) (hr : i < r.length) (h1 : ∀ x ∈ l, inI x) (h2 : ∀ x ∈ r, inI x) (b1 : blkAt S j 0 = some ⟨[lstI l], 0⟩) (b2 : blkAt S (j + 1) 0 = some ⟨[lstI r], 0⟩) :
    Call theE 54 [.int .i64 i, .ptr j 0 0, .ptr (j + 1) 0 0] S (.tup [.int .i64 (bndI (l[i] + (r[i]))), .bool (ovrB (l[i] + (r[i])))]) S := by
  have hv : SlI S (lstI l) l := SlI.lst l
  have hu : SlI S (lstI r) r := SlI.lst r
  have ia1 := fun a c z x => hv.ia a c z x (i : Int) (by omega) (by omega)
  have ia2 := fun a c z x => hu.ia a c z x (i : Int) (by omega) (by omega)
  simp only [Int.toNat_natCast] at ia1 ia2
  have ld1 : ∀ s z k, loadA ⟨false, s, z, k⟩ S (adrI (lstI l) i) = some (.int .i64 (l[i])) := fun s z k => by have := hv.ld i hl false s z k []; simpa using this
  have ld2 : ∀ s z k, loadA ⟨false, s, z, k⟩ S (adrI (lstI r) i) = some (.int .i64 (r[i])) := fun s z k => by have := hu.ld i hr false s z k []; simpa using this
  refine Call.ofC Try.func54 b54 d54 e54 (by simp [Try.f54]) ?_
  dsimp only [c54, Try.f54, Option.getD_some]
  simp (maxSteps := 2000000) only [wk0, wk1, wk2, wk3, keepA, frzT, flatT, arrayAtA, ownT, extT, Fr.ev, Fr.put, Fr.get, initFr, buildSliceA, zeros, pickA, ownDst, Env.kd, ofConst, isConst, binA, intI, cmpI, shiftI, convertA, buildA, fillA, fillS, splice, AV.cells?, storeA, readAt, fieldAddrA, fieldA, indexA, extractA, unA, builtinA, appendA, lenA, sliceCells, isSliceK, makeInterfaceA, nilCheckA, eqA, AV.one, AV.plain, if_false, if_true, Nat.reduceEqDiff, reduceIte, Nat.reduceAdd, List.replicate, Nat.reduceLeDiff, Nat.reduceMul, Nat.reduceSub, Nat.reducePow, Int.reduceLT, Int.reduceLE, Int.reduceToNat, Int.reducePow, IntKind.bits, Int.reduceEq, Int.reduceMul, Int.reduceNeg, ne_eq, reduceCtorEq, escT, BEq.rfl, beq_self_eq_true, Int.reduceAdd, Int.reduceSub, Int.reduceMod, Int.reduceDiv, Nat.reduceMod, Nat.reduceDiv, Nat.reduceLT, cond_true, cond_false, gt_iff_lt, ge_iff_le, b1, b2, ia1, ia2, ld1, ld2, D54, ty2, ty3, ty4, ty22]
  refine callThen_of (add_ok _ _ _ (h1 _ (List.getElem_mem hl)) (h2 _ (List.getElem_mem hr))) ?_
  simp (maxSteps := 2000000) only [wk0, wk1, wk2, wk3, keepA, frzT, flatT, arrayAtA, ownT, extT, Fr.ev, Fr.put, Fr.get, initFr, buildSliceA, zeros, pickA, ownDst, Env.kd, ofConst, isConst, binA, intI, cmpI, shiftI, convertA, buildA, fillA, fillS, splice, AV.cells?, storeA, readAt, fieldAddrA, fieldA, indexA, extractA, unA, builtinA, appendA, lenA, sliceCells, isSliceK, makeInterfaceA, nilCheckA, eqA, AV.one, AV.plain, if_false, if_true, Nat.reduceEqDiff, reduceIte, Nat.reduceAdd, List.replicate, Nat.reduceLeDiff, Nat.reduceMul, Nat.reduceSub, Nat.reducePow, Int.reduceLT, Int.reduceLE, Int.reduceToNat, Int.reducePow, IntKind.bits, Int.reduceEq, Int.reduceMul, Int.reduceNeg, ne_eq, reduceCtorEq, escT, BEq.rfl, beq_self_eq_true, Int.reduceAdd, Int.reduceSub, Int.reduceMod, Int.reduceDiv, Nat.reduceMod, Nat.reduceDiv, Nat.reduceLT, cond_true, cond_false, gt_iff_lt, ge_iff_le, b1, b2, ia1, ia2, ld1, ld2, D54, ty2, ty3, ty4, ty22]
  exact retB_plain (by simp [nmd_int, nmd_bool]) rfl (by simp)
theorem sub1_ok (l r : List Int) (i : Nat) (j : Nat) (S : Heap) (hl : i < l.length) (hr : i < r.length) (h1 : ∀ x ∈ l, inI x) (h2 : ∀ x ∈ r, inI x) (b1 : blkAt S j 0 = some ⟨[lstI l], 0⟩) (b2 : blkAt S (j + 1) 0 = some ⟨[lstI r], 0⟩) :
    Call theE 55 [.int .i64 i, .ptr j 0 0, .ptr (j + 1) 0 0] S (.tup [.int .i64 (bndI (l[i] + -(r[i]))), .bool (ovrB (l[i] + -(r[i])))]) S := by
  have hv : SlI S (lstI l) l := SlI.lst l
  have hu : SlI S (lstI r) r := SlI.lst r
  have ia1 := fun a c z x => hv.ia a c z x (i : Int) (by omega) (by omega)
  have ia2 := fun a c z x => hu.ia a c z x (i : Int) (by omega) (by omega)
  simp only [Int.toNat_natCast] at ia1 ia2
  have ld1 : ∀ s z k, loadA ⟨false, s, z, k⟩ S (adrI (lstI l) i) = some (.int .i64 (l[i])) := fun s z k => by have := hv.ld i hl false s z k []; simpa using this
  have ld2 : ∀ s z k, loadA ⟨false, s, z, k⟩ S (adrI (lstI r) i) = some (.int .i64 (r[i])) := fun s z k => by have := hu.ld i hr false s z k []; simpa using this
  refine Call.ofC Try.func55 b55 d55 e55 (by simp [Try.f55]) ?_
  dsimp only [c55, Try.f55, Option.getD_some]
  simp (maxSteps := 2000000) only [wk0, wk1, wk2, wk3, keepA, frzT, flatT, arrayAtA, ownT, extT, Fr.ev, Fr.put, Fr.get, initFr, buildSliceA, zeros, pickA, ownDst, Env.kd, ofConst, isConst, binA, intI, cmpI, shiftI, convertA, buildA, fillA, fillS, splice, AV.cells?, storeA, readAt, fieldAddrA, fieldA, indexA, extractA, unA, builtinA, appendA, lenA, sliceCells, isSliceK, makeInterfaceA, nilCheckA, eqA, AV.one, AV.plain, if_false, if_true, Nat.reduceEqDiff, reduceIte, Nat.reduceAdd, List.replicate, Nat.reduceLeDiff, Nat.reduceMul, Nat.reduceSub, Nat.reducePow, Int.reduceLT, Int.reduceLE, Int.reduceToNat, Int.reducePow, IntKind.bits, Int.reduceEq, Int.reduceMul, Int.reduceNeg, ne_eq, reduceCtorEq, escT, BEq.rfl, beq_self_eq_true, Int.reduceAdd, Int.reduceSub, Int.reduceMod, Int.reduceDiv, Nat.reduceMod, Nat.reduceDiv, Nat.reduceLT, cond_true, cond_false, gt_iff_lt, ge_iff_le, b1, b2, ia1, ia2, ld1, ld2, D55, ty2, ty3, ty4, ty22]
  refine callThen_of (sub_ok _ _ _ (h1 _ (List.getElem_mem hl)) (h2 _ (List.getElem_mem hr))) ?_
  simp (maxSteps := 2000000) only [wk0, wk1, wk2, wk3, keepA, frzT, flatT, arrayAtA, ownT, extT, Fr.ev, Fr.put, Fr.get, initFr, buildSliceA, zeros, pickA, ownDst, Env.kd, ofConst, isConst, binA, intI, cmpI, shiftI, convertA, buildA, fillA, fillS, splice, AV.cells?, storeA, readAt, fieldAddrA, fieldA, indexA, extractA, unA, builtinA, appendA, lenA, sliceCells, isSliceK, makeInterfaceA, nilCheckA, eqA, AV.one, AV.plain, if_false, if_true, Nat.reduceEqDiff, reduceIte, Nat.reduceAdd, List.replicate, Nat.reduceLeDiff, Nat.reduceMul, Nat.reduceSub, Nat.reducePow, Int.reduceLT, Int.reduceLE, Int.reduceToNat, Int.reducePow, IntKind.bits, Int.reduceEq, Int.reduceMul, Int.reduceNeg, ne_eq, reduceCtorEq, escT, BEq.rfl, beq_self_eq_true, Int.reduceAdd, Int.reduceSub, Int.reduceMod, Int.reduceDiv, Nat.reduceMod, Nat.reduceDiv, Nat.reduceLT, cond_true, cond_false, gt_iff_lt, ge_iff_le, b1, b2, ia1, ia2, ld1, ld2, D55, ty2, ty3, ty4, ty22]
  exact retB_plain (by simp [nmd_int, nmd_bool]) rfl (by simp)
def addL (l r : List Int) : List Int := (List.range l.length).map fun i => bndI (l.getD i 0 + (r.getD i 0))
def addO (l r : List Int) : Bool := (List.range l.length).any fun i => ovrB (l.getD i 0 + (r.getD i 0))
theorem vecAdd_ok (l r : List Int) (S : Heap) (h0 : l.length ≤ 6) (hlr : r.length = l.length) (h1 : ∀ x ∈ l, inI x) (h2 : ∀ x ∈ r, inI x) :
    Call theE 10 [lstI l, lstI r] S (.tup [lstI (addL l r), .bool (addO l r), .nili]) S := by
  have hd : decide (l.length ≤ 6 ∧ r.length = l.length) = true := decide_eq_true ⟨h0, hlr⟩
  have hz := fun S => sized1_ok l r S
  simp only [hd] at hz
  have he := each_ok 54 [.ptr S.length 0 0, .ptr (S.length + 1) 0 0] l.length (fun i => bndI (l.getD i 0 + (r.getD i 0))) (fun i => ovrB (l.getD i 0 + (r.getD i 0))) (S ++ [some ⟨[lstI l], 0⟩, some ⟨[lstI r], 0⟩]) (by omega) (by decide) (fun i hi L => by
    have hir : i < r.length := by omega
    have h := add1_ok l r i S.length (S ++ [some ⟨[lstI l], 0⟩, some ⟨[lstI r], 0⟩] ++ L) hi hir h1 h2 (by rw [List.append_assoc, blkAt_app0]; rfl) (by rw [List.append_assoc, blkAt_app]; rfl)
    simpa [List.getD_eq_getElem?_getD, List.getElem?_eq_getElem, hi, hir] using h)
  simp only [lstI] at he hz
  refine Call.ofC Try.func10 b10 d10 e10 (by simp [Try.f10]) ?_
  dsimp only [c10, Try.f10, Option.getD_some]
  simp (maxSteps := 2000000) only [wk0, wk1, wk2, wk3, keepA, frzT, flatT, arrayAtA, ownT, extT, Fr.ev, Fr.put, Fr.get, initFr, buildSliceA, zeros, pickA, ownDst, Env.kd, ofConst, isConst, binA, intI, cmpI, shiftI, convertA, buildA, fillA, fillS, splice, AV.cells?, storeA, readAt, fieldAddrA, fieldA, indexA, extractA, unA, builtinA, appendA, lenA, sliceCells, isSliceK, makeInterfaceA, nilCheckA, eqA, AV.one, AV.plain, if_false, if_true, Nat.reduceEqDiff, reduceIte, Nat.reduceAdd, List.replicate, Nat.reduceLeDiff, Nat.reduceMul, Nat.reduceSub, Nat.reducePow, Int.reduceLT, Int.reduceLE, Int.reduceToNat, Int.reducePow, IntKind.bits, Int.reduceEq, Int.reduceMul, Int.reduceNeg, ne_eq, reduceCtorEq, escT, BEq.rfl, beq_self_eq_true, Int.reduceAdd, Int.reduceSub, Int.reduceMod, Int.reduceDiv, Nat.reduceMod, Nat.reduceDiv, Nat.reduceLT, cond_true, cond_false, gt_iff_lt, ge_iff_le, lstI, D10, ty1, ty3, ty4, ty22, ty24, ty29, ty95, ty98]
  refine callThen_of (hz _) ?_
  simp (maxSteps := 2000000) only [wk0, wk1, wk2, wk3, keepA, frzT, flatT, arrayAtA, ownT, extT, Fr.ev, Fr.put, Fr.get, initFr, buildSliceA, zeros, pickA, ownDst, Env.kd, ofConst, isConst, binA, intI, cmpI, shiftI, convertA, buildA, fillA, fillS, splice, AV.cells?, storeA, readAt, fieldAddrA, fieldA, indexA, extractA, unA, builtinA, appendA, lenA, sliceCells, isSliceK, makeInterfaceA, nilCheckA, eqA, AV.one, AV.plain, if_false, if_true, Nat.reduceEqDiff, reduceIte, Nat.reduceAdd, List.replicate, Nat.reduceLeDiff, Nat.reduceMul, Nat.reduceSub, Nat.reducePow, Int.reduceLT, Int.reduceLE, Int.reduceToNat, Int.reducePow, IntKind.bits, Int.reduceEq, Int.reduceMul, Int.reduceNeg, ne_eq, reduceCtorEq, escT, BEq.rfl, beq_self_eq_true, Int.reduceAdd, Int.reduceSub, Int.reduceMod, Int.reduceDiv, Nat.reduceMod, Nat.reduceDiv, Nat.reduceLT, cond_true, cond_false, gt_iff_lt, ge_iff_le, lstI, D10, ty1, ty3, ty4, ty22, ty24, ty29, ty95, ty98]
  refine callThen_of he ?_
  simp (maxSteps := 2000000) only [wk0, wk1, wk2, wk3, keepA, frzT, flatT, arrayAtA, ownT, extT, Fr.ev, Fr.put, Fr.get, initFr, buildSliceA, zeros, pickA, ownDst, Env.kd, ofConst, isConst, binA, intI, cmpI, shiftI, convertA, buildA, fillA, fillS, splice, AV.cells?, storeA, readAt, fieldAddrA, fieldA, indexA, extractA, unA, builtinA, appendA, lenA, sliceCells, isSliceK, makeInterfaceA, nilCheckA, eqA, AV.one, AV.plain, if_false, if_true, Nat.reduceEqDiff, reduceIte, Nat.reduceAdd, List.replicate, Nat.reduceLeDiff, Nat.reduceMul, Nat.reduceSub, Nat.reducePow, Int.reduceLT, Int.reduceLE, Int.reduceToNat, Int.reducePow, IntKind.bits, Int.reduceEq, Int.reduceMul, Int.reduceNeg, ne_eq, reduceCtorEq, escT, BEq.rfl, beq_self_eq_true, Int.reduceAdd, Int.reduceSub, Int.reduceMod, Int.reduceDiv, Nat.reduceMod, Nat.reduceDiv, Nat.reduceLT, cond_true, cond_false, gt_iff_lt, ge_iff_le, lstI, D10, ty1, ty3, ty4, ty22, ty24, ty29, ty95, ty98]
  exact retB_plain (by simp [nmd_lst, nmd_bool, nmd_nili]) rfl (by simp)
theorem vecAdd_bad (l r : List Int) (S : Heap) (h0 : ¬ (l.length ≤ 6 ∧ r.length = l.length)) :
    Call theE 10 [lstI l, lstI r] S (.tup [.nils, .bool false, errA 1]) S := by
  have hz := fun S => sized1_ok l r S
  simp only [decide_eq_false h0] at hz
  refine Call.ofC Try.func10 b10 d10 e10 (by simp [Try.f10]) ?_
  dsimp only [c10, Try.f10, Option.getD_some]
  simp (maxSteps := 2000000) only [wk0, wk1, wk2, wk3, keepA, frzT, flatT, arrayAtA, ownT, extT, Fr.ev, Fr.put, Fr.get, initFr, buildSliceA, zeros, pickA, ownDst, Env.kd, ofConst, isConst, binA, intI, cmpI, shiftI, convertA, buildA, fillA, fillS, splice, AV.cells?, storeA, readAt, fieldAddrA, fieldA, indexA, extractA, unA, builtinA, appendA, lenA, sliceCells, isSliceK, makeInterfaceA, nilCheckA, eqA, AV.one, AV.plain, if_false, if_true, Nat.reduceEqDiff, reduceIte, Nat.reduceAdd, List.replicate, Nat.reduceLeDiff, Nat.reduceMul, Nat.reduceSub, Nat.reducePow, Int.reduceLT, Int.reduceLE, Int.reduceToNat, Int.reducePow, IntKind.bits, Int.reduceEq, Int.reduceMul, Int.reduceNeg, ne_eq, reduceCtorEq, escT, BEq.rfl, beq_self_eq_true, Int.reduceAdd, Int.reduceSub, Int.reduceMod, Int.reduceDiv, Nat.reduceMod, Nat.reduceDiv, Nat.reduceLT, cond_true, cond_false, gt_iff_lt, ge_iff_le, lstI, D10, ty1, ty3, ty4, ty22, ty24, ty29, ty95, ty98]
  refine callThen_of (hz _) ?_
  simp (maxSteps := 2000000) only [wk0, wk1, wk2, wk3, keepA, frzT, flatT, arrayAtA, ownT, extT, Fr.ev, Fr.put, Fr.get, initFr, buildSliceA, zeros, pickA, ownDst, Env.kd, ofConst, isConst, binA, intI, cmpI, shiftI, convertA, buildA, fillA, fillS, splice, AV.cells?, storeA, readAt, fieldAddrA, fieldA, indexA, extractA, unA, builtinA, appendA, lenA, sliceCells, isSliceK, makeInterfaceA, nilCheckA, eqA, AV.one, AV.plain, if_false, if_true, Nat.reduceEqDiff, reduceIte, Nat.reduceAdd, List.replicate, Nat.reduceLeDiff, Nat.reduceMul, Nat.reduceSub, Nat.reducePow, Int.reduceLT, Int.reduceLE, Int.reduceToNat, Int.reducePow, IntKind.bits, Int.reduceEq, Int.reduceMul, Int.reduceNeg, ne_eq, reduceCtorEq, escT, BEq.rfl, beq_self_eq_true, Int.reduceAdd, Int.reduceSub, Int.reduceMod, Int.reduceDiv, Nat.reduceMod, Nat.reduceDiv, Nat.reduceLT, cond_true, cond_false, gt_iff_lt, ge_iff_le, lstI, D10, ty1, ty3, ty4, ty22, ty24, ty29, ty95, ty98]
  exact retB_plain (by simp [nmd_nils, nmd_bool, nmd_ifc, nmd_int]) rfl (by simp)
def subL (l r : List Int) : List Int := (List.range l.length).map fun i => bndI (l.getD i 0 + -(r.getD i 0))
def subO (l r : List Int) : Bool := (List.range l.length).any fun i => ovrB (l.getD i 0 + -(r.getD i 0))
theorem vecSub_ok (l r : List Int) (S : Heap) (h0 : l.length ≤ 6) (hlr : r.length = l.length) (h1 : ∀ x ∈ l, inI x) (h2 : ∀ x ∈ r, inI x) :
    Call theE 11 [lstI l, lstI r] S (.tup [lstI (subL l r), .bool (subO l r), .nili]) S := by
  have hd : decide (l.length ≤ 6 ∧ r.length = l.length) = true := decide_eq_true ⟨h0, hlr⟩
  have hz := fun S => sized1_ok l r S
  simp only [hd] at hz
  have he := each_ok 55 [.ptr S.length 0 0, .ptr (S.length + 1) 0 0] l.length (fun i => bndI (l.getD i 0 + -(r.getD i 0))) (fun i => ovrB (l.getD i 0 + -(r.getD i 0))) (S ++ [some ⟨[lstI l], 0⟩, some ⟨[lstI r], 0⟩]) (by omega) (by decide) (fun i hi L => by
    have hir : i < r.length := by omega
    have h := sub1_ok l r i S.length (S ++ [some ⟨[lstI l], 0⟩, some ⟨[lstI r], 0⟩] ++ L) hi hir h1 h2 (by rw [List.append_assoc, blkAt_app0]; rfl) (by rw [List.append_assoc, blkAt_app]; rfl)
    simpa [List.getD_eq_getElem?_getD, List.getElem?_eq_getElem, hi, hir] using h)
  simp only [lstI] at he hz
  refine Call.ofC Try.func11 b11 d11 e11 (by simp [Try.f11]) ?_
  dsimp only [c11, Try.f11, Option.getD_some]
  simp (maxSteps := 2000000) only [wk0, wk1, wk2, wk3, keepA, frzT, flatT, arrayAtA, ownT, extT, Fr.ev, Fr.put, Fr.get, initFr, buildSliceA, zeros, pickA, ownDst, Env.kd, ofConst, isConst, binA, intI, cmpI, shiftI, convertA, buildA, fillA, fillS, splice, AV.cells?, storeA, readAt, fieldAddrA, fieldA, indexA, extractA, unA, builtinA, appendA, lenA, sliceCells, isSliceK, makeInterfaceA, nilCheckA, eqA, AV.one, AV.plain, if_false, if_true, Nat.reduceEqDiff, reduceIte, Nat.reduceAdd, List.replicate, Nat.reduceLeDiff, Nat.reduceMul, Nat.reduceSub, Nat.reducePow, Int.reduceLT, Int.reduceLE, Int.reduceToNat, Int.reducePow, IntKind.bits, Int.reduceEq, Int.reduceMul, Int.reduceNeg, ne_eq, reduceCtorEq, escT, BEq.rfl, beq_self_eq_true, Int.reduceAdd, Int.reduceSub, Int.reduceMod, Int.reduceDiv, Nat.reduceMod, Nat.reduceDiv, Nat.reduceLT, cond_true, cond_false, gt_iff_lt, ge_iff_le, lstI, D11, ty1, ty3, ty4, ty22, ty24, ty29, ty95, ty98]
  refine callThen_of (hz _) ?_
  simp (maxSteps := 2000000) only [wk0, wk1, wk2, wk3, keepA, frzT, flatT, arrayAtA, ownT, extT, Fr.ev, Fr.put, Fr.get, initFr, buildSliceA, zeros, pickA, ownDst, Env.kd, ofConst, isConst, binA, intI, cmpI, shiftI, convertA, buildA, fillA, fillS, splice, AV.cells?, storeA, readAt, fieldAddrA, fieldA, indexA, extractA, unA, builtinA, appendA, lenA, sliceCells, isSliceK, makeInterfaceA, nilCheckA, eqA, AV.one, AV.plain, if_false, if_true, Nat.reduceEqDiff, reduceIte, Nat.reduceAdd, List.replicate, Nat.reduceLeDiff, Nat.reduceMul, Nat.reduceSub, Nat.reducePow, Int.reduceLT, Int.reduceLE, Int.reduceToNat, Int.reducePow, IntKind.bits, Int.reduceEq, Int.reduceMul, Int.reduceNeg, ne_eq, reduceCtorEq, escT, BEq.rfl, beq_self_eq_true, Int.reduceAdd, Int.reduceSub, Int.reduceMod, Int.reduceDiv, Nat.reduceMod, Nat.reduceDiv, Nat.reduceLT, cond_true, cond_false, gt_iff_lt, ge_iff_le, lstI, D11, ty1, ty3, ty4, ty22, ty24, ty29, ty95, ty98]
  refine callThen_of he ?_
  simp (maxSteps := 2000000) only [wk0, wk1, wk2, wk3, keepA, frzT, flatT, arrayAtA, ownT, extT, Fr.ev, Fr.put, Fr.get, initFr, buildSliceA, zeros, pickA, ownDst, Env.kd, ofConst, isConst, binA, intI, cmpI, shiftI, convertA, buildA, fillA, fillS, splice, AV.cells?, storeA, readAt, fieldAddrA, fieldA, indexA, extractA, unA, builtinA, appendA, lenA, sliceCells, isSliceK, makeInterfaceA, nilCheckA, eqA, AV.one, AV.plain, if_false, if_true, Nat.reduceEqDiff, reduceIte, Nat.reduceAdd, List.replicate, Nat.reduceLeDiff, Nat.reduceMul, Nat.reduceSub, Nat.reducePow, Int.reduceLT, Int.reduceLE, Int.reduceToNat, Int.reducePow, IntKind.bits, Int.reduceEq, Int.reduceMul, Int.reduceNeg, ne_eq, reduceCtorEq, escT, BEq.rfl, beq_self_eq_true, Int.reduceAdd, Int.reduceSub, Int.reduceMod, Int.reduceDiv, Nat.reduceMod, Nat.reduceDiv, Nat.reduceLT, cond_true, cond_false, gt_iff_lt, ge_iff_le, lstI, D11, ty1, ty3, ty4, ty22, ty24, ty29, ty95, ty98]
  exact retB_plain (by simp [nmd_lst, nmd_bool, nmd_nili]) rfl (by simp)
theorem vecSub_bad (l r : List Int) (S : Heap) (h0 : ¬ (l.length ≤ 6 ∧ r.length = l.length)) :
    Call theE 11 [lstI l, lstI r] S (.tup [.nils, .bool false, errA 1]) S := by
  have hz := fun S => sized1_ok l r S
  simp only [decide_eq_false h0] at hz
  refine Call.ofC Try.func11 b11 d11 e11 (by simp [Try.f11]) ?_
  dsimp only [c11, Try.f11, Option.getD_some]
  simp (maxSteps := 2000000) only [wk0, wk1, wk2, wk3, keepA, frzT, flatT, arrayAtA, ownT, extT, Fr.ev, Fr.put, Fr.get, initFr, buildSliceA, zeros, pickA, ownDst, Env.kd, ofConst, isConst, binA, intI, cmpI, shiftI, convertA, buildA, fillA, fillS, splice, AV.cells?, storeA, readAt, fieldAddrA, fieldA, indexA, extractA, unA, builtinA, appendA, lenA, sliceCells, isSliceK, makeInterfaceA, nilCheckA, eqA, AV.one, AV.plain, if_false, if_true, Nat.reduceEqDiff, reduceIte, Nat.reduceAdd, List.replicate, Nat.reduceLeDiff, Nat.reduceMul, Nat.reduceSub, Nat.reducePow, Int.reduceLT, Int.reduceLE, Int.reduceToNat, Int.reducePow, IntKind.bits, Int.reduceEq, Int.reduceMul, Int.reduceNeg, ne_eq, reduceCtorEq, escT, BEq.rfl, beq_self_eq_true, Int.reduceAdd, Int.reduceSub, Int.reduceMod, Int.reduceDiv, Nat.reduceMod, Nat.reduceDiv, Nat.reduceLT, cond_true, cond_false, gt_iff_lt, ge_iff_le, lstI, D11, ty1, ty3, ty4, ty22, ty24, ty29, ty95, ty98]
  refine callThen_of (hz _) ?_
  simp (maxSteps := 2000000) only [wk0, wk1, wk2, wk3, keepA, frzT, flatT, arrayAtA, ownT, extT, Fr.ev, Fr.put, Fr.get, initFr, buildSliceA, zeros, pickA, ownDst, Env.kd, ofConst, isConst, binA, intI, cmpI, shiftI, convertA, buildA, fillA, fillS, splice, AV.cells?, storeA, readAt, fieldAddrA, fieldA, indexA, extractA, unA, builtinA, appendA, lenA, sliceCells, isSliceK, makeInterfaceA, nilCheckA, eqA, AV.one, AV.plain, if_false, if_true, Nat.reduceEqDiff, reduceIte, Nat.reduceAdd, List.replicate, Nat.reduceLeDiff, Nat.reduceMul, Nat.reduceSub, Nat.reducePow, Int.reduceLT, Int.reduceLE, Int.reduceToNat, Int.reducePow, IntKind.bits, Int.reduceEq, Int.reduceMul, Int.reduceNeg, ne_eq, reduceCtorEq, escT, BEq.rfl, beq_self_eq_true, Int.reduceAdd, Int.reduceSub, Int.reduceMod, Int.reduceDiv, Nat.reduceMod, Nat.reduceDiv, Nat.reduceLT, cond_true, cond_false, gt_iff_lt, ge_iff_le, lstI, D11, ty1, ty3, ty4, ty22, ty24, ty29, ty95, ty98]
  exact retB_plain (by simp [nmd_nils, nmd_bool, nmd_ifc, nmd_int]) rfl (by simp)
end Go.Proofs.Ytimdnnlfkkkpbaa
