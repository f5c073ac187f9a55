/- vec: sums and differences. -/
import Derived.Test.YtimdnnlfkkkpbaaDoorV0
set_option linter.unusedSimpArgs false
set_option linter.unusedVariables false
set_option maxRecDepth 100000
set_option maxHeartbeats 4000000
namespace Go.Proofs.YtimdnnlfkkkpbaaDoor
noncomputable def c56 : Code := Tryd.f56.body.getD .skip
theorem b56 : Tryd.f56.body = some c56 := rfl
theorem d56 : fnOk Tryd.f56 c56 = true := by kernel_rfl
def D56 : Nat → List Tag := fun _ => []
theorem e56 : drawsOk D56 c56 = true := by kernel_rfl
noncomputable def c15 : Code := Tryd.f15.body.getD .skip
theorem b15 : Tryd.f15.body = some c15 := rfl
theorem d15 : fnOk Tryd.f15 c15 = true := by kernel_rfl
def D15 : Nat → List Tag := fun _ => []
theorem e15 : drawsOk D15 c15 = true := by kernel_rfl
noncomputable def c16 : Code := Tryd.f16.body.getD .skip
theorem b16 : Tryd.f16.body = some c16 := rfl
theorem d16 : fnOk Tryd.f16 c16 = true := by kernel_rfl
def D16 : Nat → List Tag := fun _ => []
theorem e16 : drawsOk D16 c16 = true := by kernel_rfl
noncomputable def c60 : Code := Tryd.f60.body.getD .skip
theorem b60 : Tryd.f60.body = some c60 := rfl
theorem d60 : fnOk Tryd.f60 c60 = true := by kernel_rfl
def D60 : Nat → List Tag
  | 1 => [.quiet, .pure, .pure, .quiet, .quiet, .pure, .pure, .quiet, .seq, .pure, .pure, .pure, .pure]
  | _ => []
theorem e60 : drawsOk D60 c60 = true := by kernel_rfl
noncomputable def c62 : Code := Tryd.f62.body.getD .skip
theorem b62 : Tryd.f62.body = some c62 := rfl
theorem d62 : fnOk Tryd.f62 c62 = true := by kernel_rfl
def D62 : Nat → List Tag
  | 1 => [.quiet, .pure, .pure, .quiet, .quiet, .pure, .pure, .quiet, .seq, .pure, .pure, .pure, .pure]
  | _ => []
theorem e62 : drawsOk D62 c62 = true := by kernel_rfl
theorem sized1_ok (l r : List Int) (S : Heap) : Call theE 56 [lstI l, .lst [lstI r] 1] S (.bool (decide (l.length ≤ 6 ∧ r.length = l.length))) S := by
  refine Call.ofC Tryd.func56 b56 d56 e56 (by simp [Tryd.f56]) ?_
  dsimp only [c56, Tryd.f56, Option.getD_some]
  by_cases h1 : (6 : Int) < l.length
  · simp (maxSteps := 2000000) only [wk0, wk1, wk2, wk3, keepA, frzT, flatT, arrayAtA, ownT, extT, Fr.ev, Fr.put, Fr.get, initFr, buildSliceA, zeros, pkB, pkT, pkF, ownDst, Env.kd, ofConst, isConst, binA, intI, cmpI, shiftI, convertA, buildA, fillA, fillS, splice, AV.cells?, storeA, readAt, fieldAddrA, fieldA, indexA, extractA, unA, builtinA, appendA, lenA, sliceCells, isSliceK, makeInterfaceA, nilCheckA, eqA, AV.one, AV.plain, if_false, if_true, Nat.reduceEqDiff, reduceIte, Nat.reduceAdd, List.replicate, Nat.reduceLeDiff, Nat.reduceMul, Nat.reduceSub, Nat.reducePow, Int.reduceLT, Int.reduceLE, Int.reduceToNat, Int.reducePow, IntKind.bits, Int.reduceEq, Int.reduceMul, Int.reduceNeg, ne_eq, reduceCtorEq, escT, BEq.rfl, beq_self_eq_true, Int.reduceAdd, Int.reduceSub, Int.reduceMod, Int.reduceDiv, Nat.reduceMod, Nat.reduceDiv, Nat.reduceLT, cond_true, cond_false, gt_iff_lt, ge_iff_le, lstI, h1, D56, ty3, ty4, ty22, ty23]
    exact retB_plain (by simp [nmd_bool]) (by rw [decide_eq_false (by omega)]; rfl) (by simp)
  · simp (maxSteps := 2000000) only [wk0, wk1, wk2, wk3, keepA, frzT, flatT, arrayAtA, ownT, extT, Fr.ev, Fr.put, Fr.get, initFr, buildSliceA, zeros, pkB, pkT, pkF, ownDst, Env.kd, ofConst, isConst, binA, intI, cmpI, shiftI, convertA, buildA, fillA, fillS, splice, AV.cells?, storeA, readAt, fieldAddrA, fieldA, indexA, extractA, unA, builtinA, appendA, lenA, sliceCells, isSliceK, makeInterfaceA, nilCheckA, eqA, AV.one, AV.plain, if_false, if_true, Nat.reduceEqDiff, reduceIte, Nat.reduceAdd, List.replicate, Nat.reduceLeDiff, Nat.reduceMul, Nat.reduceSub, Nat.reducePow, Int.reduceLT, Int.reduceLE, Int.reduceToNat, Int.reducePow, IntKind.bits, Int.reduceEq, Int.reduceMul, Int.reduceNeg, ne_eq, reduceCtorEq, escT, BEq.rfl, beq_self_eq_true, Int.reduceAdd, Int.reduceSub, Int.reduceMod, Int.reduceDiv, Nat.reduceMod, Nat.reduceDiv, Nat.reduceLT, cond_true, cond_false, gt_iff_lt, ge_iff_le, lstI, h1, D56, ty3, ty4, ty22, ty23]
    refine loopC_of ?_
    by_cases h2 : (r.length : Int) = l.length
    · simp (maxSteps := 2000000) only [wk0, wk1, wk2, wk3, keepA, frzT, flatT, arrayAtA, ownT, extT, Fr.ev, Fr.put, Fr.get, initFr, buildSliceA, zeros, pkB, pkT, pkF, ownDst, Env.kd, ofConst, isConst, binA, intI, cmpI, shiftI, convertA, buildA, fillA, fillS, splice, AV.cells?, storeA, readAt, fieldAddrA, fieldA, indexA, extractA, unA, builtinA, appendA, lenA, sliceCells, isSliceK, makeInterfaceA, nilCheckA, eqA, AV.one, AV.plain, if_false, if_true, Nat.reduceEqDiff, reduceIte, Nat.reduceAdd, List.replicate, Nat.reduceLeDiff, Nat.reduceMul, Nat.reduceSub, Nat.reducePow, Int.reduceLT, Int.reduceLE, Int.reduceToNat, Int.reducePow, IntKind.bits, Int.reduceEq, Int.reduceMul, Int.reduceNeg, ne_eq, reduceCtorEq, escT, BEq.rfl, beq_self_eq_true, Int.reduceAdd, Int.reduceSub, Int.reduceMod, Int.reduceDiv, Nat.reduceMod, Nat.reduceDiv, Nat.reduceLT, cond_true, cond_false, gt_iff_lt, ge_iff_le, lstI, h2, D56, ty3, ty4, ty22, ty23]
      refine loopC_of ?_
      simp (maxSteps := 2000000) only [wk0, wk1, wk2, wk3, keepA, frzT, flatT, arrayAtA, ownT, extT, Fr.ev, Fr.put, Fr.get, initFr, buildSliceA, zeros, pkB, pkT, pkF, ownDst, Env.kd, ofConst, isConst, binA, intI, cmpI, shiftI, convertA, buildA, fillA, fillS, splice, AV.cells?, storeA, readAt, fieldAddrA, fieldA, indexA, extractA, unA, builtinA, appendA, lenA, sliceCells, isSliceK, makeInterfaceA, nilCheckA, eqA, AV.one, AV.plain, if_false, if_true, Nat.reduceEqDiff, reduceIte, Nat.reduceAdd, List.replicate, Nat.reduceLeDiff, Nat.reduceMul, Nat.reduceSub, Nat.reducePow, Int.reduceLT, Int.reduceLE, Int.reduceToNat, Int.reducePow, IntKind.bits, Int.reduceEq, Int.reduceMul, Int.reduceNeg, ne_eq, reduceCtorEq, escT, BEq.rfl, beq_self_eq_true, Int.reduceAdd, Int.reduceSub, Int.reduceMod, Int.reduceDiv, Nat.reduceMod, Nat.reduceDiv, Nat.reduceLT, cond_true, cond_false, gt_iff_lt, ge_iff_le, lstI, h2, D56, ty3, ty4, ty22, ty23]
      exact retB_plain (by simp [nmd_bool]) (by rw [decide_eq_true (by omega)]; rfl) (by simp)
    · simp (maxSteps := 2000000) only [wk0, wk1, wk2, wk3, keepA, frzT, flatT, arrayAtA, ownT, extT, Fr.ev, Fr.put, Fr.get, initFr, buildSliceA, zeros, pkB, pkT, pkF, ownDst, Env.kd, ofConst, isConst, binA, intI, cmpI, shiftI, convertA, buildA, fillA, fillS, splice, AV.cells?, storeA, readAt, fieldAddrA, fieldA, indexA, extractA, unA, builtinA, appendA, lenA, sliceCells, isSliceK, makeInterfaceA, nilCheckA, eqA, AV.one, AV.plain, if_false, if_true, Nat.reduceEqDiff, reduceIte, Nat.reduceAdd, List.replicate, Nat.reduceLeDiff, Nat.reduceMul, Nat.reduceSub, Nat.reducePow, Int.reduceLT, Int.reduceLE, Int.reduceToNat, Int.reducePow, IntKind.bits, Int.reduceEq, Int.reduceMul, Int.reduceNeg, ne_eq, reduceCtorEq, escT, BEq.rfl, beq_self_eq_true, Int.reduceAdd, Int.reduceSub, Int.reduceMod, Int.reduceDiv, Nat.reduceMod, Nat.reduceDiv, Nat.reduceLT, cond_true, cond_false, gt_iff_lt, ge_iff_le, lstI, h2, D56, ty3, ty4, ty22, ty23]
      exact retB_plain (by simp [nmd_bool]) (by rw [decide_eq_false (by omega)]; rfl) (by simp)
theorem sized0_ok (l : List Int) (S : Heap) : Call theE 56 [lstI l, .nils] S (.bool (decide (l.length ≤ 6))) S := by
  refine Call.ofC Tryd.func56 b56 d56 e56 (by simp [Tryd.f56]) ?_
  dsimp only [c56, Tryd.f56, Option.getD_some]
  by_cases h1 : (6 : Int) < l.length
  · simp (maxSteps := 2000000) only [wk0, wk1, wk2, wk3, keepA, frzT, flatT, arrayAtA, ownT, extT, Fr.ev, Fr.put, Fr.get, initFr, buildSliceA, zeros, pkB, pkT, pkF, ownDst, Env.kd, ofConst, isConst, binA, intI, cmpI, shiftI, convertA, buildA, fillA, fillS, splice, AV.cells?, storeA, readAt, fieldAddrA, fieldA, indexA, extractA, unA, builtinA, appendA, lenA, sliceCells, isSliceK, makeInterfaceA, nilCheckA, eqA, AV.one, AV.plain, if_false, if_true, Nat.reduceEqDiff, reduceIte, Nat.reduceAdd, List.replicate, Nat.reduceLeDiff, Nat.reduceMul, Nat.reduceSub, Nat.reducePow, Int.reduceLT, Int.reduceLE, Int.reduceToNat, Int.reducePow, IntKind.bits, Int.reduceEq, Int.reduceMul, Int.reduceNeg, ne_eq, reduceCtorEq, escT, BEq.rfl, beq_self_eq_true, Int.reduceAdd, Int.reduceSub, Int.reduceMod, Int.reduceDiv, Nat.reduceMod, Nat.reduceDiv, Nat.reduceLT, cond_true, cond_false, gt_iff_lt, ge_iff_le, lstI, h1, D56, ty3, ty4, ty22, ty23]
    exact retB_plain (by simp [nmd_bool]) (by rw [decide_eq_false (by omega)]; rfl) (by simp)
  · simp (maxSteps := 2000000) only [wk0, wk1, wk2, wk3, keepA, frzT, flatT, arrayAtA, ownT, extT, Fr.ev, Fr.put, Fr.get, initFr, buildSliceA, zeros, pkB, pkT, pkF, ownDst, Env.kd, ofConst, isConst, binA, intI, cmpI, shiftI, convertA, buildA, fillA, fillS, splice, AV.cells?, storeA, readAt, fieldAddrA, fieldA, indexA, extractA, unA, builtinA, appendA, lenA, sliceCells, isSliceK, makeInterfaceA, nilCheckA, eqA, AV.one, AV.plain, if_false, if_true, Nat.reduceEqDiff, reduceIte, Nat.reduceAdd, List.replicate, Nat.reduceLeDiff, Nat.reduceMul, Nat.reduceSub, Nat.reducePow, Int.reduceLT, Int.reduceLE, Int.reduceToNat, Int.reducePow, IntKind.bits, Int.reduceEq, Int.reduceMul, Int.reduceNeg, ne_eq, reduceCtorEq, escT, BEq.rfl, beq_self_eq_true, Int.reduceAdd, Int.reduceSub, Int.reduceMod, Int.reduceDiv, Nat.reduceMod, Nat.reduceDiv, Nat.reduceLT, cond_true, cond_false, gt_iff_lt, ge_iff_le, lstI, h1, D56, ty3, ty4, ty22, ty23]
    refine loopC_of ?_
    simp (maxSteps := 2000000) only [wk0, wk1, wk2, wk3, keepA, frzT, flatT, arrayAtA, ownT, extT, Fr.ev, Fr.put, Fr.get, initFr, buildSliceA, zeros, pkB, pkT, pkF, ownDst, Env.kd, ofConst, isConst, binA, intI, cmpI, shiftI, convertA, buildA, fillA, fillS, splice, AV.cells?, storeA, readAt, fieldAddrA, fieldA, indexA, extractA, unA, builtinA, appendA, lenA, sliceCells, isSliceK, makeInterfaceA, nilCheckA, eqA, AV.one, AV.plain, if_false, if_true, Nat.reduceEqDiff, reduceIte, Nat.reduceAdd, List.replicate, Nat.reduceLeDiff, Nat.reduceMul, Nat.reduceSub, Nat.reducePow, Int.reduceLT, Int.reduceLE, Int.reduceToNat, Int.reducePow, IntKind.bits, Int.reduceEq, Int.reduceMul, Int.reduceNeg, ne_eq, reduceCtorEq, escT, BEq.rfl, beq_self_eq_true, Int.reduceAdd, Int.reduceSub, Int.reduceMod, Int.reduceDiv, Nat.reduceMod, Nat.reduceDiv, Nat.reduceLT, cond_true, cond_false, gt_iff_lt, ge_iff_le, lstI, D56, ty3, ty4, ty22, ty23]
    exact retB_plain (by simp [nmd_bool]) (by rw [decide_eq_true (by omega)]; rfl) (by simp)
theorem add1_ok (l r : List Int) (i : Nat) (j : Nat) (S : Heap) (hl : i < l.length) (hr : i < r.length) (h1 : ∀ x ∈ l, inI x) (h2 : ∀ x ∈ r, inI x) (b1 : blkAt S j 0 = some ⟨[lstI l], 0⟩) (b2 : blkAt S (j + 1) 0 = some ⟨[lstI r], 0⟩) :
    Call theE 60 [.int .i64 i, .ptr j 0 0, .ptr (j + 1) 0 0] S (.tup [.int .i64 (bndI (l[i] + (r[i]))), .bool (ovrB (l[i] + (r[i])))]) S := by
  have hv : SlI S (lstI l) l := SlI.lst l
  have hu : SlI S (lstI r) r := SlI.lst r
  have ia1 := fun a c z x => hv.ia a c z x (i : Int) (by omega) (by omega)
  have ia2 := fun a c z x => hu.ia a c z x (i : Int) (by omega) (by omega)
  simp only [Int.toNat_natCast] at ia1 ia2
  have ld1 : ∀ s z k, loadA ⟨false, s, z, k⟩ S (adrI (lstI l) i) = some (.int .i64 (l[i])) := fun s z k => by have := hv.ld i hl false s z k []; simpa using this
  have ld2 : ∀ s z k, loadA ⟨false, s, z, k⟩ S (adrI (lstI r) i) = some (.int .i64 (r[i])) := fun s z k => by have := hu.ld i hr false s z k []; simpa using this
  refine Call.ofC Tryd.func60 b60 d60 e60 (by simp [Tryd.f60]) ?_
  dsimp only [c60, Tryd.f60, Option.getD_some]
  simp (maxSteps := 2000000) only [wk0, wk1, wk2, wk3, keepA, frzT, flatT, arrayAtA, ownT, extT, Fr.ev, Fr.put, Fr.get, initFr, buildSliceA, zeros, pkB, pkT, pkF, ownDst, Env.kd, ofConst, isConst, binA, intI, cmpI, shiftI, convertA, buildA, fillA, fillS, splice, AV.cells?, storeA, readAt, fieldAddrA, fieldA, indexA, extractA, unA, builtinA, appendA, lenA, sliceCells, isSliceK, makeInterfaceA, nilCheckA, eqA, AV.one, AV.plain, if_false, if_true, Nat.reduceEqDiff, reduceIte, Nat.reduceAdd, List.replicate, Nat.reduceLeDiff, Nat.reduceMul, Nat.reduceSub, Nat.reducePow, Int.reduceLT, Int.reduceLE, Int.reduceToNat, Int.reducePow, IntKind.bits, Int.reduceEq, Int.reduceMul, Int.reduceNeg, ne_eq, reduceCtorEq, escT, BEq.rfl, beq_self_eq_true, Int.reduceAdd, Int.reduceSub, Int.reduceMod, Int.reduceDiv, Nat.reduceMod, Nat.reduceDiv, Nat.reduceLT, cond_true, cond_false, gt_iff_lt, ge_iff_le, b1, b2, ia1, ia2, ld1, ld2, D60, ty2, ty3, ty4, ty23]
  refine callThen_of (add_ok _ _ _ (h1 _ (List.getElem_mem hl)) (h2 _ (List.getElem_mem hr))) ?_
  simp (maxSteps := 2000000) only [wk0, wk1, wk2, wk3, keepA, frzT, flatT, arrayAtA, ownT, extT, Fr.ev, Fr.put, Fr.get, initFr, buildSliceA, zeros, pkB, pkT, pkF, ownDst, Env.kd, ofConst, isConst, binA, intI, cmpI, shiftI, convertA, buildA, fillA, fillS, splice, AV.cells?, storeA, readAt, fieldAddrA, fieldA, indexA, extractA, unA, builtinA, appendA, lenA, sliceCells, isSliceK, makeInterfaceA, nilCheckA, eqA, AV.one, AV.plain, if_false, if_true, Nat.reduceEqDiff, reduceIte, Nat.reduceAdd, List.replicate, Nat.reduceLeDiff, Nat.reduceMul, Nat.reduceSub, Nat.reducePow, Int.reduceLT, Int.reduceLE, Int.reduceToNat, Int.reducePow, IntKind.bits, Int.reduceEq, Int.reduceMul, Int.reduceNeg, ne_eq, reduceCtorEq, escT, BEq.rfl, beq_self_eq_true, Int.reduceAdd, Int.reduceSub, Int.reduceMod, Int.reduceDiv, Nat.reduceMod, Nat.reduceDiv, Nat.reduceLT, cond_true, cond_false, gt_iff_lt, ge_iff_le, b1, b2, ia1, ia2, ld1, ld2, D60, ty2, ty3, ty4, ty23]
  exact retB_plain (by simp [nmd_int, nmd_bool]) rfl (by simp)
theorem sub1_ok (l r : List Int) (i : Nat) (j : Nat) (S : Heap) (hl : i < l.length) (hr : i < r.length) (h1 : ∀ x ∈ l, inI x) (h2 : ∀ x ∈ r, inI x) (b1 : blkAt S j 0 = some ⟨[lstI l], 0⟩) (b2 : blkAt S (j + 1) 0 = some ⟨[lstI r], 0⟩) :
    Call theE 62 [.int .i64 i, .ptr j 0 0, .ptr (j + 1) 0 0] S (.tup [.int .i64 (bndI (l[i] + -(r[i]))), .bool (ovrB (l[i] + -(r[i])))]) S := by
  have hv : SlI S (lstI l) l := SlI.lst l
  have hu : SlI S (lstI r) r := SlI.lst r
  have ia1 := fun a c z x => hv.ia a c z x (i : Int) (by omega) (by omega)
  have ia2 := fun a c z x => hu.ia a c z x (i : Int) (by omega) (by omega)
  simp only [Int.toNat_natCast] at ia1 ia2
  have ld1 : ∀ s z k, loadA ⟨false, s, z, k⟩ S (adrI (lstI l) i) = some (.int .i64 (l[i])) := fun s z k => by have := hv.ld i hl false s z k []; simpa using this
  have ld2 : ∀ s z k, loadA ⟨false, s, z, k⟩ S (adrI (lstI r) i) = some (.int .i64 (r[i])) := fun s z k => by have := hu.ld i hr false s z k []; simpa using this
  refine Call.ofC Tryd.func62 b62 d62 e62 (by simp [Tryd.f62]) ?_
  dsimp only [c62, Tryd.f62, Option.getD_some]
  simp (maxSteps := 2000000) only [wk0, wk1, wk2, wk3, keepA, frzT, flatT, arrayAtA, ownT, extT, Fr.ev, Fr.put, Fr.get, initFr, buildSliceA, zeros, pkB, pkT, pkF, ownDst, Env.kd, ofConst, isConst, binA, intI, cmpI, shiftI, convertA, buildA, fillA, fillS, splice, AV.cells?, storeA, readAt, fieldAddrA, fieldA, indexA, extractA, unA, builtinA, appendA, lenA, sliceCells, isSliceK, makeInterfaceA, nilCheckA, eqA, AV.one, AV.plain, if_false, if_true, Nat.reduceEqDiff, reduceIte, Nat.reduceAdd, List.replicate, Nat.reduceLeDiff, Nat.reduceMul, Nat.reduceSub, Nat.reducePow, Int.reduceLT, Int.reduceLE, Int.reduceToNat, Int.reducePow, IntKind.bits, Int.reduceEq, Int.reduceMul, Int.reduceNeg, ne_eq, reduceCtorEq, escT, BEq.rfl, beq_self_eq_true, Int.reduceAdd, Int.reduceSub, Int.reduceMod, Int.reduceDiv, Nat.reduceMod, Nat.reduceDiv, Nat.reduceLT, cond_true, cond_false, gt_iff_lt, ge_iff_le, b1, b2, ia1, ia2, ld1, ld2, D62, ty2, ty3, ty4, ty23]
  refine callThen_of (sub_ok _ _ _ (h1 _ (List.getElem_mem hl)) (h2 _ (List.getElem_mem hr))) ?_
  simp (maxSteps := 2000000) only [wk0, wk1, wk2, wk3, keepA, frzT, flatT, arrayAtA, ownT, extT, Fr.ev, Fr.put, Fr.get, initFr, buildSliceA, zeros, pkB, pkT, pkF, ownDst, Env.kd, ofConst, isConst, binA, intI, cmpI, shiftI, convertA, buildA, fillA, fillS, splice, AV.cells?, storeA, readAt, fieldAddrA, fieldA, indexA, extractA, unA, builtinA, appendA, lenA, sliceCells, isSliceK, makeInterfaceA, nilCheckA, eqA, AV.one, AV.plain, if_false, if_true, Nat.reduceEqDiff, reduceIte, Nat.reduceAdd, List.replicate, Nat.reduceLeDiff, Nat.reduceMul, Nat.reduceSub, Nat.reducePow, Int.reduceLT, Int.reduceLE, Int.reduceToNat, Int.reducePow, IntKind.bits, Int.reduceEq, Int.reduceMul, Int.reduceNeg, ne_eq, reduceCtorEq, escT, BEq.rfl, beq_self_eq_true, Int.reduceAdd, Int.reduceSub, Int.reduceMod, Int.reduceDiv, Nat.reduceMod, Nat.reduceDiv, Nat.reduceLT, cond_true, cond_false, gt_iff_lt, ge_iff_le, b1, b2, ia1, ia2, ld1, ld2, D62, ty2, ty3, ty4, ty23]
  exact retB_plain (by simp [nmd_int, nmd_bool]) rfl (by simp)
def addL (l r : List Int) : List Int := (List.range l.length).map fun i => bndI (l.getD i 0 + (r.getD i 0))
def addO (l r : List Int) : Bool := (List.range l.length).any fun i => ovrB (l.getD i 0 + (r.getD i 0))
theorem vecAdd_ok (l r : List Int) (S : Heap) (h0 : l.length ≤ 6) (hlr : r.length = l.length) (h1 : ∀ x ∈ l, inI x) (h2 : ∀ x ∈ r, inI x) :
    Call theE 15 [lstI l, lstI r] S (.tup [lstI (addL l r), .bool (addO l r), .nili]) S := by
  have hd : decide (l.length ≤ 6 ∧ r.length = l.length) = true := decide_eq_true ⟨h0, hlr⟩
  have hz := fun S => sized1_ok l r S
  simp only [hd] at hz
  have he := each_ok 60 [.ptr S.length 0 0, .ptr (S.length + 1) 0 0] l.length (fun i => bndI (l.getD i 0 + (r.getD i 0))) (fun i => ovrB (l.getD i 0 + (r.getD i 0))) (S ++ [some ⟨[lstI l], 0⟩, some ⟨[lstI r], 0⟩]) (by omega) (by decide) (fun i hi L => by
    have hir : i < r.length := by omega
    have h := add1_ok l r i S.length (S ++ [some ⟨[lstI l], 0⟩, some ⟨[lstI r], 0⟩] ++ L) hi hir h1 h2 (by rw [List.append_assoc, blkAt_app0]; rfl) (by rw [List.append_assoc, blkAt_app]; rfl)
    simpa [List.getD_eq_getElem?_getD, List.getElem?_eq_getElem, hi, hir] using h)
  simp only [lstI] at he hz
  refine Call.ofC Tryd.func15 b15 d15 e15 (by simp [Tryd.f15]) ?_
  dsimp only [c15, Tryd.f15, Option.getD_some]
  simp (maxSteps := 2000000) only [wk0, wk1, wk2, wk3, keepA, frzT, flatT, arrayAtA, ownT, extT, Fr.ev, Fr.put, Fr.get, initFr, buildSliceA, zeros, pkB, pkT, pkF, ownDst, Env.kd, ofConst, isConst, binA, intI, cmpI, shiftI, convertA, buildA, fillA, fillS, splice, AV.cells?, storeA, readAt, fieldAddrA, fieldA, indexA, extractA, unA, builtinA, appendA, lenA, sliceCells, isSliceK, makeInterfaceA, nilCheckA, eqA, AV.one, AV.plain, if_false, if_true, Nat.reduceEqDiff, reduceIte, Nat.reduceAdd, List.replicate, Nat.reduceLeDiff, Nat.reduceMul, Nat.reduceSub, Nat.reducePow, Int.reduceLT, Int.reduceLE, Int.reduceToNat, Int.reducePow, IntKind.bits, Int.reduceEq, Int.reduceMul, Int.reduceNeg, ne_eq, reduceCtorEq, escT, BEq.rfl, beq_self_eq_true, Int.reduceAdd, Int.reduceSub, Int.reduceMod, Int.reduceDiv, Nat.reduceMod, Nat.reduceDiv, Nat.reduceLT, cond_true, cond_false, gt_iff_lt, ge_iff_le, lstI, D15, ty1, ty3, ty4, ty22, ty23, ty25, ty85, ty87]
  refine callThen_of (hz _) ?_
  simp (maxSteps := 2000000) only [wk0, wk1, wk2, wk3, keepA, frzT, flatT, arrayAtA, ownT, extT, Fr.ev, Fr.put, Fr.get, initFr, buildSliceA, zeros, pkB, pkT, pkF, ownDst, Env.kd, ofConst, isConst, binA, intI, cmpI, shiftI, convertA, buildA, fillA, fillS, splice, AV.cells?, storeA, readAt, fieldAddrA, fieldA, indexA, extractA, unA, builtinA, appendA, lenA, sliceCells, isSliceK, makeInterfaceA, nilCheckA, eqA, AV.one, AV.plain, if_false, if_true, Nat.reduceEqDiff, reduceIte, Nat.reduceAdd, List.replicate, Nat.reduceLeDiff, Nat.reduceMul, Nat.reduceSub, Nat.reducePow, Int.reduceLT, Int.reduceLE, Int.reduceToNat, Int.reducePow, IntKind.bits, Int.reduceEq, Int.reduceMul, Int.reduceNeg, ne_eq, reduceCtorEq, escT, BEq.rfl, beq_self_eq_true, Int.reduceAdd, Int.reduceSub, Int.reduceMod, Int.reduceDiv, Nat.reduceMod, Nat.reduceDiv, Nat.reduceLT, cond_true, cond_false, gt_iff_lt, ge_iff_le, lstI, D15, ty1, ty3, ty4, ty22, ty23, ty25, ty85, ty87]
  refine callThen_of he ?_
  simp (maxSteps := 2000000) only [wk0, wk1, wk2, wk3, keepA, frzT, flatT, arrayAtA, ownT, extT, Fr.ev, Fr.put, Fr.get, initFr, buildSliceA, zeros, pkB, pkT, pkF, ownDst, Env.kd, ofConst, isConst, binA, intI, cmpI, shiftI, convertA, buildA, fillA, fillS, splice, AV.cells?, storeA, readAt, fieldAddrA, fieldA, indexA, extractA, unA, builtinA, appendA, lenA, sliceCells, isSliceK, makeInterfaceA, nilCheckA, eqA, AV.one, AV.plain, if_false, if_true, Nat.reduceEqDiff, reduceIte, Nat.reduceAdd, List.replicate, Nat.reduceLeDiff, Nat.reduceMul, Nat.reduceSub, Nat.reducePow, Int.reduceLT, Int.reduceLE, Int.reduceToNat, Int.reducePow, IntKind.bits, Int.reduceEq, Int.reduceMul, Int.reduceNeg, ne_eq, reduceCtorEq, escT, BEq.rfl, beq_self_eq_true, Int.reduceAdd, Int.reduceSub, Int.reduceMod, Int.reduceDiv, Nat.reduceMod, Nat.reduceDiv, Nat.reduceLT, cond_true, cond_false, gt_iff_lt, ge_iff_le, lstI, D15, ty1, ty3, ty4, ty22, ty23, ty25, ty85, ty87]
  exact retB_plain (by simp [nmd_lst, nmd_bool, nmd_nili]) rfl (by simp)
theorem vecAdd_bad (l r : List Int) (S : Heap) (h0 : ¬ (l.length ≤ 6 ∧ r.length = l.length)) :
    Call theE 15 [lstI l, lstI r] S (.tup [.nils, .bool false, errA 1]) S := by
  have hz := fun S => sized1_ok l r S
  simp only [decide_eq_false h0] at hz
  refine Call.ofC Tryd.func15 b15 d15 e15 (by simp [Tryd.f15]) ?_
  dsimp only [c15, Tryd.f15, Option.getD_some]
  simp (maxSteps := 2000000) only [wk0, wk1, wk2, wk3, keepA, frzT, flatT, arrayAtA, ownT, extT, Fr.ev, Fr.put, Fr.get, initFr, buildSliceA, zeros, pkB, pkT, pkF, ownDst, Env.kd, ofConst, isConst, binA, intI, cmpI, shiftI, convertA, buildA, fillA, fillS, splice, AV.cells?, storeA, readAt, fieldAddrA, fieldA, indexA, extractA, unA, builtinA, appendA, lenA, sliceCells, isSliceK, makeInterfaceA, nilCheckA, eqA, AV.one, AV.plain, if_false, if_true, Nat.reduceEqDiff, reduceIte, Nat.reduceAdd, List.replicate, Nat.reduceLeDiff, Nat.reduceMul, Nat.reduceSub, Nat.reducePow, Int.reduceLT, Int.reduceLE, Int.reduceToNat, Int.reducePow, IntKind.bits, Int.reduceEq, Int.reduceMul, Int.reduceNeg, ne_eq, reduceCtorEq, escT, BEq.rfl, beq_self_eq_true, Int.reduceAdd, Int.reduceSub, Int.reduceMod, Int.reduceDiv, Nat.reduceMod, Nat.reduceDiv, Nat.reduceLT, cond_true, cond_false, gt_iff_lt, ge_iff_le, lstI, D15, ty1, ty3, ty4, ty22, ty23, ty25, ty85, ty87]
  refine callThen_of (hz _) ?_
  simp (maxSteps := 2000000) only [wk0, wk1, wk2, wk3, keepA, frzT, flatT, arrayAtA, ownT, extT, Fr.ev, Fr.put, Fr.get, initFr, buildSliceA, zeros, pkB, pkT, pkF, ownDst, Env.kd, ofConst, isConst, binA, intI, cmpI, shiftI, convertA, buildA, fillA, fillS, splice, AV.cells?, storeA, readAt, fieldAddrA, fieldA, indexA, extractA, unA, builtinA, appendA, lenA, sliceCells, isSliceK, makeInterfaceA, nilCheckA, eqA, AV.one, AV.plain, if_false, if_true, Nat.reduceEqDiff, reduceIte, Nat.reduceAdd, List.replicate, Nat.reduceLeDiff, Nat.reduceMul, Nat.reduceSub, Nat.reducePow, Int.reduceLT, Int.reduceLE, Int.reduceToNat, Int.reducePow, IntKind.bits, Int.reduceEq, Int.reduceMul, Int.reduceNeg, ne_eq, reduceCtorEq, escT, BEq.rfl, beq_self_eq_true, Int.reduceAdd, Int.reduceSub, Int.reduceMod, Int.reduceDiv, Nat.reduceMod, Nat.reduceDiv, Nat.reduceLT, cond_true, cond_false, gt_iff_lt, ge_iff_le, lstI, D15, ty1, ty3, ty4, ty22, ty23, ty25, ty85, ty87]
  exact retB_plain (by simp [nmd_nils, nmd_bool, nmd_ifc, nmd_int]) rfl (by simp)
def subL (l r : List Int) : List Int := (List.range l.length).map fun i => bndI (l.getD i 0 + -(r.getD i 0))
def subO (l r : List Int) : Bool := (List.range l.length).any fun i => ovrB (l.getD i 0 + -(r.getD i 0))
theorem vecSub_ok (l r : List Int) (S : Heap) (h0 : l.length ≤ 6) (hlr : r.length = l.length) (h1 : ∀ x ∈ l, inI x) (h2 : ∀ x ∈ r, inI x) :
    Call theE 16 [lstI l, lstI r] S (.tup [lstI (subL l r), .bool (subO l r), .nili]) S := by
  have hd : decide (l.length ≤ 6 ∧ r.length = l.length) = true := decide_eq_true ⟨h0, hlr⟩
  have hz := fun S => sized1_ok l r S
  simp only [hd] at hz
  have he := each_ok 62 [.ptr S.length 0 0, .ptr (S.length + 1) 0 0] l.length (fun i => bndI (l.getD i 0 + -(r.getD i 0))) (fun i => ovrB (l.getD i 0 + -(r.getD i 0))) (S ++ [some ⟨[lstI l], 0⟩, some ⟨[lstI r], 0⟩]) (by omega) (by decide) (fun i hi L => by
    have hir : i < r.length := by omega
    have h := sub1_ok l r i S.length (S ++ [some ⟨[lstI l], 0⟩, some ⟨[lstI r], 0⟩] ++ L) hi hir h1 h2 (by rw [List.append_assoc, blkAt_app0]; rfl) (by rw [List.append_assoc, blkAt_app]; rfl)
    simpa [List.getD_eq_getElem?_getD, List.getElem?_eq_getElem, hi, hir] using h)
  simp only [lstI] at he hz
  refine Call.ofC Tryd.func16 b16 d16 e16 (by simp [Tryd.f16]) ?_
  dsimp only [c16, Tryd.f16, Option.getD_some]
  simp (maxSteps := 2000000) only [wk0, wk1, wk2, wk3, keepA, frzT, flatT, arrayAtA, ownT, extT, Fr.ev, Fr.put, Fr.get, initFr, buildSliceA, zeros, pkB, pkT, pkF, ownDst, Env.kd, ofConst, isConst, binA, intI, cmpI, shiftI, convertA, buildA, fillA, fillS, splice, AV.cells?, storeA, readAt, fieldAddrA, fieldA, indexA, extractA, unA, builtinA, appendA, lenA, sliceCells, isSliceK, makeInterfaceA, nilCheckA, eqA, AV.one, AV.plain, if_false, if_true, Nat.reduceEqDiff, reduceIte, Nat.reduceAdd, List.replicate, Nat.reduceLeDiff, Nat.reduceMul, Nat.reduceSub, Nat.reducePow, Int.reduceLT, Int.reduceLE, Int.reduceToNat, Int.reducePow, IntKind.bits, Int.reduceEq, Int.reduceMul, Int.reduceNeg, ne_eq, reduceCtorEq, escT, BEq.rfl, beq_self_eq_true, Int.reduceAdd, Int.reduceSub, Int.reduceMod, Int.reduceDiv, Nat.reduceMod, Nat.reduceDiv, Nat.reduceLT, cond_true, cond_false, gt_iff_lt, ge_iff_le, lstI, D16, ty1, ty3, ty4, ty22, ty23, ty25, ty85, ty87]
  refine callThen_of (hz _) ?_
  simp (maxSteps := 2000000) only [wk0, wk1, wk2, wk3, keepA, frzT, flatT, arrayAtA, ownT, extT, Fr.ev, Fr.put, Fr.get, initFr, buildSliceA, zeros, pkB, pkT, pkF, ownDst, Env.kd, ofConst, isConst, binA, intI, cmpI, shiftI, convertA, buildA, fillA, fillS, splice, AV.cells?, storeA, readAt, fieldAddrA, fieldA, indexA, extractA, unA, builtinA, appendA, lenA, sliceCells, isSliceK, makeInterfaceA, nilCheckA, eqA, AV.one, AV.plain, if_false, if_true, Nat.reduceEqDiff, reduceIte, Nat.reduceAdd, List.replicate, Nat.reduceLeDiff, Nat.reduceMul, Nat.reduceSub, Nat.reducePow, Int.reduceLT, Int.reduceLE, Int.reduceToNat, Int.reducePow, IntKind.bits, Int.reduceEq, Int.reduceMul, Int.reduceNeg, ne_eq, reduceCtorEq, escT, BEq.rfl, beq_self_eq_true, Int.reduceAdd, Int.reduceSub, Int.reduceMod, Int.reduceDiv, Nat.reduceMod, Nat.reduceDiv, Nat.reduceLT, cond_true, cond_false, gt_iff_lt, ge_iff_le, lstI, D16, ty1, ty3, ty4, ty22, ty23, ty25, ty85, ty87]
  refine callThen_of he ?_
  simp (maxSteps := 2000000) only [wk0, wk1, wk2, wk3, keepA, frzT, flatT, arrayAtA, ownT, extT, Fr.ev, Fr.put, Fr.get, initFr, buildSliceA, zeros, pkB, pkT, pkF, ownDst, Env.kd, ofConst, isConst, binA, intI, cmpI, shiftI, convertA, buildA, fillA, fillS, splice, AV.cells?, storeA, readAt, fieldAddrA, fieldA, indexA, extractA, unA, builtinA, appendA, lenA, sliceCells, isSliceK, makeInterfaceA, nilCheckA, eqA, AV.one, AV.plain, if_false, if_true, Nat.reduceEqDiff, reduceIte, Nat.reduceAdd, List.replicate, Nat.reduceLeDiff, Nat.reduceMul, Nat.reduceSub, Nat.reducePow, Int.reduceLT, Int.reduceLE, Int.reduceToNat, Int.reducePow, IntKind.bits, Int.reduceEq, Int.reduceMul, Int.reduceNeg, ne_eq, reduceCtorEq, escT, BEq.rfl, beq_self_eq_true, Int.reduceAdd, Int.reduceSub, Int.reduceMod, Int.reduceDiv, Nat.reduceMod, Nat.reduceDiv, Nat.reduceLT, cond_true, cond_false, gt_iff_lt, ge_iff_le, lstI, D16, ty1, ty3, ty4, ty22, ty23, ty25, ty85, ty87]
  exact retB_plain (by simp [nmd_lst, nmd_bool, nmd_nili]) rfl (by simp)
theorem vecSub_bad (l r : List Int) (S : Heap) (h0 : ¬ (l.length ≤ 6 ∧ r.length = l.length)) :
    Call theE 16 [lstI l, lstI r] S (.tup [.nils, .bool false, errA 1]) S := by
  have hz := fun S => sized1_ok l r S
  simp only [decide_eq_false h0] at hz
  refine Call.ofC Tryd.func16 b16 d16 e16 (by simp [Tryd.f16]) ?_
  dsimp only [c16, Tryd.f16, Option.getD_some]
  simp (maxSteps := 2000000) only [wk0, wk1, wk2, wk3, keepA, frzT, flatT, arrayAtA, ownT, extT, Fr.ev, Fr.put, Fr.get, initFr, buildSliceA, zeros, pkB, pkT, pkF, ownDst, Env.kd, ofConst, isConst, binA, intI, cmpI, shiftI, convertA, buildA, fillA, fillS, splice, AV.cells?, storeA, readAt, fieldAddrA, fieldA, indexA, extractA, unA, builtinA, appendA, lenA, sliceCells, isSliceK, makeInterfaceA, nilCheckA, eqA, AV.one, AV.plain, if_false, if_true, Nat.reduceEqDiff, reduceIte, Nat.reduceAdd, List.replicate, Nat.reduceLeDiff, Nat.reduceMul, Nat.reduceSub, Nat.reducePow, Int.reduceLT, Int.reduceLE, Int.reduceToNat, Int.reducePow, IntKind.bits, Int.reduceEq, Int.reduceMul, Int.reduceNeg, ne_eq, reduceCtorEq, escT, BEq.rfl, beq_self_eq_true, Int.reduceAdd, Int.reduceSub, Int.reduceMod, Int.reduceDiv, Nat.reduceMod, Nat.reduceDiv, Nat.reduceLT, cond_true, cond_false, gt_iff_lt, ge_iff_le, lstI, D16, ty1, ty3, ty4, ty22, ty23, ty25, ty85, ty87]
  refine callThen_of (hz _) ?_
  simp (maxSteps := 2000000) only [wk0, wk1, wk2, wk3, keepA, frzT, flatT, arrayAtA, ownT, extT, Fr.ev, Fr.put, Fr.get, initFr, buildSliceA, zeros, pkB, pkT, pkF, ownDst, Env.kd, ofConst, isConst, binA, intI, cmpI, shiftI, convertA, buildA, fillA, fillS, splice, AV.cells?, storeA, readAt, fieldAddrA, fieldA, indexA, extractA, unA, builtinA, appendA, lenA, sliceCells, isSliceK, makeInterfaceA, nilCheckA, eqA, AV.one, AV.plain, if_false, if_true, Nat.reduceEqDiff, reduceIte, Nat.reduceAdd, List.replicate, Nat.reduceLeDiff, Nat.reduceMul, Nat.reduceSub, Nat.reducePow, Int.reduceLT, Int.reduceLE, Int.reduceToNat, Int.reducePow, IntKind.bits, Int.reduceEq, Int.reduceMul, Int.reduceNeg, ne_eq, reduceCtorEq, escT, BEq.rfl, beq_self_eq_true, Int.reduceAdd, Int.reduceSub, Int.reduceMod, Int.reduceDiv, Nat.reduceMod, Nat.reduceDiv, Nat.reduceLT, cond_true, cond_false, gt_iff_lt, ge_iff_le, lstI, D16, ty1, ty3, ty4, ty22, ty23, ty25, ty85, ty87]
  exact retB_plain (by simp [nmd_nils, nmd_bool, nmd_ifc, nmd_int]) rfl (by simp)
end Go.Proofs.YtimdnnlfkkkpbaaDoor
