/- mat: sums, differences, vectors as a matrix, rows. -/
import Derived.Test.YtimdnnlfkkkpbaaDoorM4
import Derived.Test.YtimdnnlfkkkpbaaDoorEvV
set_option linter.unusedSimpArgs false
set_option linter.unusedVariables false
set_option maxRecDepth 100000
set_option maxHeartbeats 4000000
namespace Go.Proofs.YtimdnnlfkkkpbaaDoor
noncomputable def c76 : Code := Tryd.f76.body.getD .skip
theorem b76 : Tryd.f76.body = some c76 := rfl
theorem d76 : fnOk Tryd.f76 c76 = true := by kernel_rfl
def D76 : Nat → List Tag := fun _ => []
theorem e76 : drawsOk D76 c76 = true := by kernel_rfl
noncomputable def c40 : Code := Tryd.f40.body.getD .skip
theorem b40 : Tryd.f40.body = some c40 := rfl
theorem d40 : fnOk Tryd.f40 c40 = true := by kernel_rfl
def D40 : Nat → List Tag := fun _ => []
theorem e40 : drawsOk D40 c40 = true := by kernel_rfl
noncomputable def c41 : Code := Tryd.f41.body.getD .skip
theorem b41 : Tryd.f41.body = some c41 := rfl
theorem d41 : fnOk Tryd.f41 c41 = true := by kernel_rfl
def D41 : Nat → List Tag := fun _ => []
theorem e41 : drawsOk D41 c41 = true := by kernel_rfl
noncomputable def c77 : Code := Tryd.f77.body.getD .skip
theorem b77 : Tryd.f77.body = some c77 := rfl
theorem d77 : fnOk Tryd.f77 c77 = true := by kernel_rfl
def D77 : Nat → List Tag
  | 1 => [.quiet, .pure, .pure, .quiet, .quiet, .pure, .pure, .seq, .seq, .pure, .pure, .pure, .pure]
  | _ => []
theorem e77 : drawsOk D77 c77 = true := by kernel_rfl
noncomputable def c78 : Code := Tryd.f78.body.getD .skip
theorem b78 : Tryd.f78.body = some c78 := rfl
theorem d78 : fnOk Tryd.f78 c78 = true := by kernel_rfl
def D78 : Nat → List Tag
  | 1 => [.quiet, .pure, .pure, .quiet, .quiet, .pure, .pure, .seq, .seq, .pure, .pure, .pure, .pure]
  | _ => []
theorem e78 : drawsOk D78 c78 = true := by kernel_rfl
noncomputable def c48 : Code := Tryd.f48.body.getD .skip
theorem b48 : Tryd.f48.body = some c48 := rfl
theorem d48 : fnOk Tryd.f48 c48 = true := by kernel_rfl
def D48 : Nat → List Tag := fun _ => []
theorem e48 : drawsOk D48 c48 = true := by kernel_rfl
noncomputable def c81 : Code := Tryd.f81.body.getD .skip
theorem b81 : Tryd.f81.body = some c81 := rfl
theorem d81 : fnOk Tryd.f81 c81 = true := by kernel_rfl
def D81 : Nat → List Tag
  | 1 => [.quiet, .pure, .pure, .pure, .quiet, .quiet, .pure, .pure, .pure, .quiet, .seq, .pure, .pure, .pure, .pure]
  | _ => []
theorem e81 : drawsOk D81 c81 = true := by kernel_rfl
noncomputable def c34 : Code := Tryd.f34.body.getD .skip
theorem b34 : Tryd.f34.body = some c34 := rfl
theorem d34 : fnOk Tryd.f34 c34 = true := by kernel_rfl
def D34 : Nat → List Tag := fun _ => []
theorem e34 : drawsOk D34 c34 = true := by kernel_rfl
theorem alike_ok (r c : Nat) (f g : Nat → Nat → Int) (S : Heap) (hr : 1 ≤ r ∧ r ≤ 6) (hc : 1 ≤ c ∧ c ≤ 6) : Call theE 76 [mk r c f, mk r c g] S .nili S := by
  have tk1 := take36 (gridP_len c f (r * c))
  have tk2 := take36 (gridP_len c g (r * c))
  have k1 := fun S => check_ok r c f S hr hc
  have k2 := fun S => check_ok r c g S hr hc
  simp only [mk, matA] at k1 k2
  refine Call.ofC Tryd.func76 YtimdnnlfkkkpbaaDoor.b76 YtimdnnlfkkkpbaaDoor.d76 YtimdnnlfkkkpbaaDoor.e76 (by simp [Tryd.f76]) ?_
  dsimp only [YtimdnnlfkkkpbaaDoor.c76, Tryd.f76, Option.getD_some]
  simp (maxSteps := 2000000) only [wk0, wk1, wk2, wk3, keepA, keepT, Fr.keep, frzT, flatT, arrayAtA, ownT, extT, Fr.ev, Fr.put, Fr.get, initFr, buildSliceA, zeros, pkB, pkT, pkF, ownDst, Env.kd, ofConst, isConst, binA, intI, cmpI, shiftI, convertA, buildA, fillA, fillS, splice, AV.cells?, storeA, readAt, fieldAddrA, fieldA, indexA, extractA, unA, builtinA, appendA, lenA, sliceCells, isSliceK, makeInterfaceA, nilCheckA, eqA, AV.one, AV.plain, if_false, if_true, Nat.reduceEqDiff, reduceIte, Nat.reduceAdd, List.replicate, Nat.reduceLeDiff, Nat.reduceMul, Nat.reduceSub, Nat.reducePow, Int.reduceLT, Int.reduceLE, Int.reduceToNat, Int.reducePow, IntKind.bits, Int.reduceEq, Int.reduceMul, Int.reduceNeg, ne_eq, reduceCtorEq, escT, BEq.rfl, beq_self_eq_true, Int.reduceAdd, Int.reduceSub, Int.reduceMod, Int.reduceDiv, Nat.reduceMod, Nat.reduceDiv, Nat.reduceLT, cond_true, cond_false, gt_iff_lt, ge_iff_le, mk, matA, List.length_map, gridP_len, tk1, tk2, YtimdnnlfkkkpbaaDoor.D76, ty1, ty3, ty4, ty25, ty49, ty85]
  refine callThen_of (k1 _) ?_
  simp (maxSteps := 2000000) only [wk0, wk1, wk2, wk3, keepA, keepT, Fr.keep, frzT, flatT, arrayAtA, ownT, extT, Fr.ev, Fr.put, Fr.get, initFr, buildSliceA, zeros, pkB, pkT, pkF, ownDst, Env.kd, ofConst, isConst, binA, intI, cmpI, shiftI, convertA, buildA, fillA, fillS, splice, AV.cells?, storeA, readAt, fieldAddrA, fieldA, indexA, extractA, unA, builtinA, appendA, lenA, sliceCells, isSliceK, makeInterfaceA, nilCheckA, eqA, AV.one, AV.plain, if_false, if_true, Nat.reduceEqDiff, reduceIte, Nat.reduceAdd, List.replicate, Nat.reduceLeDiff, Nat.reduceMul, Nat.reduceSub, Nat.reducePow, Int.reduceLT, Int.reduceLE, Int.reduceToNat, Int.reducePow, IntKind.bits, Int.reduceEq, Int.reduceMul, Int.reduceNeg, ne_eq, reduceCtorEq, escT, BEq.rfl, beq_self_eq_true, Int.reduceAdd, Int.reduceSub, Int.reduceMod, Int.reduceDiv, Nat.reduceMod, Nat.reduceDiv, Nat.reduceLT, cond_true, cond_false, gt_iff_lt, ge_iff_le, mk, matA, List.length_map, gridP_len, tk1, tk2, YtimdnnlfkkkpbaaDoor.D76, ty1, ty3, ty4, ty25, ty49, ty85]
  refine callThen_of (k2 _) ?_
  simp (maxSteps := 2000000) only [wk0, wk1, wk2, wk3, keepA, keepT, Fr.keep, frzT, flatT, arrayAtA, ownT, extT, Fr.ev, Fr.put, Fr.get, initFr, buildSliceA, zeros, pkB, pkT, pkF, ownDst, Env.kd, ofConst, isConst, binA, intI, cmpI, shiftI, convertA, buildA, fillA, fillS, splice, AV.cells?, storeA, readAt, fieldAddrA, fieldA, indexA, extractA, unA, builtinA, appendA, lenA, sliceCells, isSliceK, makeInterfaceA, nilCheckA, eqA, AV.one, AV.plain, if_false, if_true, Nat.reduceEqDiff, reduceIte, Nat.reduceAdd, List.replicate, Nat.reduceLeDiff, Nat.reduceMul, Nat.reduceSub, Nat.reducePow, Int.reduceLT, Int.reduceLE, Int.reduceToNat, Int.reducePow, IntKind.bits, Int.reduceEq, Int.reduceMul, Int.reduceNeg, ne_eq, reduceCtorEq, escT, BEq.rfl, beq_self_eq_true, Int.reduceAdd, Int.reduceSub, Int.reduceMod, Int.reduceDiv, Nat.reduceMod, Nat.reduceDiv, Nat.reduceLT, cond_true, cond_false, gt_iff_lt, ge_iff_le, mk, matA, List.length_map, gridP_len, tk1, tk2, YtimdnnlfkkkpbaaDoor.D76, ty1, ty3, ty4, ty25, ty49, ty85]
  exact retB_plain (by simp [nmd_nili]) rfl (by simp)
theorem matAddOne_ok (r c i j p : Nat) (f g : Nat → Nat → Int) (S : Heap) (hr : r ≤ 6) (hc : c ≤ 6) (hi : i < r) (hj : j < c) (hf : ∀ i j, i < r → j < c → inI (f i j)) (hg : ∀ i j, i < r → j < c → inI (g i j))
    (b1 : blkAt S p 0 = some ⟨.int .i64 r :: .int .i64 c :: (gridP c f (r * c)).map fun x => .int .i64 x, 0⟩) (b2 : blkAt S (p + 1) 0 = some ⟨.int .i64 r :: .int .i64 c :: (gridP c g (r * c)).map fun x => .int .i64 x, 0⟩) :
    Call theE 77 [.int .i64 i, .int .i64 j, .ptr p 0 0, .ptr (p + 1) 0 0] S (.tup [.int .i64 (bndI (f i j + (g i j))), .bool (ovrB (f i j + (g i j)))]) S := by
  have tk1 := take36 (gridP_len c f (r * c))
  have tk2 := take36 (gridP_len c g (r * c))
  have a1 := at_mk r c i j f S hr hc hi hj
  have a2 := at_mk r c i j g S hr hc hi hj
  have ad := add_ok (f i j) (g i j) S (hf _ _ hi hj) (hg _ _ hi hj)
  simp only [mk, matA] at a1 a2
  refine Call.ofC Tryd.func77 YtimdnnlfkkkpbaaDoor.b77 YtimdnnlfkkkpbaaDoor.d77 YtimdnnlfkkkpbaaDoor.e77 (by simp [Tryd.f77]) ?_
  dsimp only [YtimdnnlfkkkpbaaDoor.c77, Tryd.f77, Option.getD_some]
  simp (maxSteps := 2000000) only [wk0, wk1, wk2, wk3, keepA, keepT, Fr.keep, frzT, flatT, arrayAtA, ownT, extT, Fr.ev, Fr.put, Fr.get, initFr, buildSliceA, zeros, pkB, pkT, pkF, ownDst, Env.kd, ofConst, isConst, binA, intI, cmpI, shiftI, convertA, buildA, fillA, fillS, splice, AV.cells?, storeA, readAt, fieldAddrA, fieldA, indexA, extractA, unA, builtinA, appendA, lenA, sliceCells, isSliceK, makeInterfaceA, nilCheckA, eqA, AV.one, AV.plain, if_false, if_true, Nat.reduceEqDiff, reduceIte, Nat.reduceAdd, List.replicate, Nat.reduceLeDiff, Nat.reduceMul, Nat.reduceSub, Nat.reducePow, Int.reduceLT, Int.reduceLE, Int.reduceToNat, Int.reducePow, IntKind.bits, Int.reduceEq, Int.reduceMul, Int.reduceNeg, ne_eq, reduceCtorEq, escT, BEq.rfl, beq_self_eq_true, Int.reduceAdd, Int.reduceSub, Int.reduceMod, Int.reduceDiv, Nat.reduceMod, Nat.reduceDiv, Nat.reduceLT, cond_true, cond_false, gt_iff_lt, ge_iff_le, b1, b2, List.length_map, gridP_len, tk1, tk2, YtimdnnlfkkkpbaaDoor.D77, ty2, ty3, ty4, ty49]
  refine callThen_of (a1) ?_
  simp (maxSteps := 2000000) only [wk0, wk1, wk2, wk3, keepA, keepT, Fr.keep, frzT, flatT, arrayAtA, ownT, extT, Fr.ev, Fr.put, Fr.get, initFr, buildSliceA, zeros, pkB, pkT, pkF, ownDst, Env.kd, ofConst, isConst, binA, intI, cmpI, shiftI, convertA, buildA, fillA, fillS, splice, AV.cells?, storeA, readAt, fieldAddrA, fieldA, indexA, extractA, unA, builtinA, appendA, lenA, sliceCells, isSliceK, makeInterfaceA, nilCheckA, eqA, AV.one, AV.plain, if_false, if_true, Nat.reduceEqDiff, reduceIte, Nat.reduceAdd, List.replicate, Nat.reduceLeDiff, Nat.reduceMul, Nat.reduceSub, Nat.reducePow, Int.reduceLT, Int.reduceLE, Int.reduceToNat, Int.reducePow, IntKind.bits, Int.reduceEq, Int.reduceMul, Int.reduceNeg, ne_eq, reduceCtorEq, escT, BEq.rfl, beq_self_eq_true, Int.reduceAdd, Int.reduceSub, Int.reduceMod, Int.reduceDiv, Nat.reduceMod, Nat.reduceDiv, Nat.reduceLT, cond_true, cond_false, gt_iff_lt, ge_iff_le, b1, b2, List.length_map, gridP_len, tk1, tk2, YtimdnnlfkkkpbaaDoor.D77, ty2, ty3, ty4, ty49]
  refine callThen_of (a2) ?_
  simp (maxSteps := 2000000) only [wk0, wk1, wk2, wk3, keepA, keepT, Fr.keep, frzT, flatT, arrayAtA, ownT, extT, Fr.ev, Fr.put, Fr.get, initFr, buildSliceA, zeros, pkB, pkT, pkF, ownDst, Env.kd, ofConst, isConst, binA, intI, cmpI, shiftI, convertA, buildA, fillA, fillS, splice, AV.cells?, storeA, readAt, fieldAddrA, fieldA, indexA, extractA, unA, builtinA, appendA, lenA, sliceCells, isSliceK, makeInterfaceA, nilCheckA, eqA, AV.one, AV.plain, if_false, if_true, Nat.reduceEqDiff, reduceIte, Nat.reduceAdd, List.replicate, Nat.reduceLeDiff, Nat.reduceMul, Nat.reduceSub, Nat.reducePow, Int.reduceLT, Int.reduceLE, Int.reduceToNat, Int.reducePow, IntKind.bits, Int.reduceEq, Int.reduceMul, Int.reduceNeg, ne_eq, reduceCtorEq, escT, BEq.rfl, beq_self_eq_true, Int.reduceAdd, Int.reduceSub, Int.reduceMod, Int.reduceDiv, Nat.reduceMod, Nat.reduceDiv, Nat.reduceLT, cond_true, cond_false, gt_iff_lt, ge_iff_le, b1, b2, List.length_map, gridP_len, tk1, tk2, YtimdnnlfkkkpbaaDoor.D77, ty2, ty3, ty4, ty49]
  refine callThen_of (ad) ?_
  simp (maxSteps := 2000000) only [wk0, wk1, wk2, wk3, keepA, keepT, Fr.keep, frzT, flatT, arrayAtA, ownT, extT, Fr.ev, Fr.put, Fr.get, initFr, buildSliceA, zeros, pkB, pkT, pkF, ownDst, Env.kd, ofConst, isConst, binA, intI, cmpI, shiftI, convertA, buildA, fillA, fillS, splice, AV.cells?, storeA, readAt, fieldAddrA, fieldA, indexA, extractA, unA, builtinA, appendA, lenA, sliceCells, isSliceK, makeInterfaceA, nilCheckA, eqA, AV.one, AV.plain, if_false, if_true, Nat.reduceEqDiff, reduceIte, Nat.reduceAdd, List.replicate, Nat.reduceLeDiff, Nat.reduceMul, Nat.reduceSub, Nat.reducePow, Int.reduceLT, Int.reduceLE, Int.reduceToNat, Int.reducePow, IntKind.bits, Int.reduceEq, Int.reduceMul, Int.reduceNeg, ne_eq, reduceCtorEq, escT, BEq.rfl, beq_self_eq_true, Int.reduceAdd, Int.reduceSub, Int.reduceMod, Int.reduceDiv, Nat.reduceMod, Nat.reduceDiv, Nat.reduceLT, cond_true, cond_false, gt_iff_lt, ge_iff_le, b1, b2, List.length_map, gridP_len, tk1, tk2, YtimdnnlfkkkpbaaDoor.D77, ty2, ty3, ty4, ty49]
  exact retB_plain (by simp [nmd_int, nmd_bool]) rfl (by simp)
theorem matAdd_ok (r c : Nat) (f g : Nat → Nat → Int) (S : Heap) (hr : 1 ≤ r ∧ r ≤ 6) (hc : 1 ≤ c ∧ c ≤ 6) (hf : ∀ i j, i < r → j < c → inI (f i j)) (hg : ∀ i j, i < r → j < c → inI (g i j)) :
    Call theE 40 [mk r c f, mk r c g] S (.tup [mk r c (fun i j => bndI (f i j + (g i j))), .bool (anyP c (fun i j => ovrB (f i j + (g i j))) (r * c)), .nili]) S := by
  have tk1 := take36 (gridP_len c f (r * c))
  have tk2 := take36 (gridP_len c g (r * c))
  have tk3 := take36 (gridP_len c (fun i j => bndI (f i j + (g i j))) (r * c))
  have al : (List.map (fun x => AV.int .i64 x) (gridP c (fun i j => bndI (f i j + (g i j))) (r * c))).all AV.one = true := by simp [AV.one]
  have ck := fun S => alike_ok r c f g S hr hc
  have md := made_ok 77 [.ptr S.length 0 0, .ptr (S.length + 1) 0 0] r c (fun i j => bndI (f i j + (g i j))) (fun i j => ovrB (f i j + (g i j))) (S ++ [some ⟨.int .i64 r :: .int .i64 c :: (gridP c f (r * c)).map fun x => .int .i64 x, 0⟩, some ⟨.int .i64 r :: .int .i64 c :: (gridP c g (r * c)).map fun x => .int .i64 x, 0⟩, some ⟨zero38, 0⟩]) hr.2 hc.2 (by decide)
    (fun i j hi hj L => matAddOne_ok r c i j S.length f g _ hr.2 hc.2 hi hj hf hg (by rw [List.append_assoc, blkAt_app0]; rfl) (by rw [List.append_assoc, blkAt_app]; rfl))
  simp only [mk, matA, zero38, List.replicate] at ck md
  refine Call.ofC Tryd.func40 YtimdnnlfkkkpbaaDoor.b40 YtimdnnlfkkkpbaaDoor.d40 YtimdnnlfkkkpbaaDoor.e40 (by simp [Tryd.f40]) ?_
  dsimp only [YtimdnnlfkkkpbaaDoor.c40, Tryd.f40, Option.getD_some]
  simp (maxSteps := 2000000) only [wk0, wk1, wk2, wk3, keepA, keepT, Fr.keep, frzT, flatT, arrayAtA, ownT, extT, Fr.ev, Fr.put, Fr.get, initFr, buildSliceA, zeros, pkB, pkT, pkF, ownDst, Env.kd, ofConst, isConst, binA, intI, cmpI, shiftI, convertA, buildA, fillA, fillS, splice, AV.cells?, storeA, readAt, fieldAddrA, fieldA, indexA, extractA, unA, builtinA, appendA, lenA, sliceCells, isSliceK, makeInterfaceA, nilCheckA, eqA, AV.one, AV.plain, if_false, if_true, Nat.reduceEqDiff, reduceIte, Nat.reduceAdd, List.replicate, Nat.reduceLeDiff, Nat.reduceMul, Nat.reduceSub, Nat.reducePow, Int.reduceLT, Int.reduceLE, Int.reduceToNat, Int.reducePow, IntKind.bits, Int.reduceEq, Int.reduceMul, Int.reduceNeg, ne_eq, reduceCtorEq, escT, BEq.rfl, beq_self_eq_true, Int.reduceAdd, Int.reduceSub, Int.reduceMod, Int.reduceDiv, Nat.reduceMod, Nat.reduceDiv, Nat.reduceLT, cond_true, cond_false, gt_iff_lt, ge_iff_le, mk, matA, List.length_map, gridP_len, tk1, tk2, tk3, al, YtimdnnlfkkkpbaaDoor.D40, ty1, ty3, ty4, ty25, ty49, ty99]
  refine callThen_of (ck _) ?_
  simp (maxSteps := 2000000) only [wk0, wk1, wk2, wk3, keepA, keepT, Fr.keep, frzT, flatT, arrayAtA, ownT, extT, Fr.ev, Fr.put, Fr.get, initFr, buildSliceA, zeros, pkB, pkT, pkF, ownDst, Env.kd, ofConst, isConst, binA, intI, cmpI, shiftI, convertA, buildA, fillA, fillS, splice, AV.cells?, storeA, readAt, fieldAddrA, fieldA, indexA, extractA, unA, builtinA, appendA, lenA, sliceCells, isSliceK, makeInterfaceA, nilCheckA, eqA, AV.one, AV.plain, if_false, if_true, Nat.reduceEqDiff, reduceIte, Nat.reduceAdd, List.replicate, Nat.reduceLeDiff, Nat.reduceMul, Nat.reduceSub, Nat.reducePow, Int.reduceLT, Int.reduceLE, Int.reduceToNat, Int.reducePow, IntKind.bits, Int.reduceEq, Int.reduceMul, Int.reduceNeg, ne_eq, reduceCtorEq, escT, BEq.rfl, beq_self_eq_true, Int.reduceAdd, Int.reduceSub, Int.reduceMod, Int.reduceDiv, Nat.reduceMod, Nat.reduceDiv, Nat.reduceLT, cond_true, cond_false, gt_iff_lt, ge_iff_le, mk, matA, List.length_map, gridP_len, tk1, tk2, tk3, al, YtimdnnlfkkkpbaaDoor.D40, ty1, ty3, ty4, ty25, ty49, ty99]
  refine callThen_of (md) ?_
  simp (maxSteps := 2000000) only [wk0, wk1, wk2, wk3, keepA, keepT, Fr.keep, frzT, flatT, arrayAtA, ownT, extT, Fr.ev, Fr.put, Fr.get, initFr, buildSliceA, zeros, pkB, pkT, pkF, ownDst, Env.kd, ofConst, isConst, binA, intI, cmpI, shiftI, convertA, buildA, fillA, fillS, splice, AV.cells?, storeA, readAt, fieldAddrA, fieldA, indexA, extractA, unA, builtinA, appendA, lenA, sliceCells, isSliceK, makeInterfaceA, nilCheckA, eqA, AV.one, AV.plain, if_false, if_true, Nat.reduceEqDiff, reduceIte, Nat.reduceAdd, List.replicate, Nat.reduceLeDiff, Nat.reduceMul, Nat.reduceSub, Nat.reducePow, Int.reduceLT, Int.reduceLE, Int.reduceToNat, Int.reducePow, IntKind.bits, Int.reduceEq, Int.reduceMul, Int.reduceNeg, ne_eq, reduceCtorEq, escT, BEq.rfl, beq_self_eq_true, Int.reduceAdd, Int.reduceSub, Int.reduceMod, Int.reduceDiv, Nat.reduceMod, Nat.reduceDiv, Nat.reduceLT, cond_true, cond_false, gt_iff_lt, ge_iff_le, mk, matA, List.length_map, gridP_len, tk1, tk2, tk3, al, YtimdnnlfkkkpbaaDoor.D40, ty1, ty3, ty4, ty25, ty49, ty99]
  exact retB_plain (by simp [nmd_agg, nmd_int, nmd_nili, nmd_bool]) (by simp [packA]) (by simp)
theorem matSubOne_ok (r c i j p : Nat) (f g : Nat → Nat → Int) (S : Heap) (hr : r ≤ 6) (hc : c ≤ 6) (hi : i < r) (hj : j < c) (hf : ∀ i j, i < r → j < c → inI (f i j)) (hg : ∀ i j, i < r → j < c → inI (g i j))
    (b1 : blkAt S p 0 = some ⟨.int .i64 r :: .int .i64 c :: (gridP c f (r * c)).map fun x => .int .i64 x, 0⟩) (b2 : blkAt S (p + 1) 0 = some ⟨.int .i64 r :: .int .i64 c :: (gridP c g (r * c)).map fun x => .int .i64 x, 0⟩) :
    Call theE 78 [.int .i64 i, .int .i64 j, .ptr p 0 0, .ptr (p + 1) 0 0] S (.tup [.int .i64 (bndI (f i j + -(g i j))), .bool (ovrB (f i j + -(g i j)))]) S := by
  have tk1 := take36 (gridP_len c f (r * c))
  have tk2 := take36 (gridP_len c g (r * c))
  have a1 := at_mk r c i j f S hr hc hi hj
  have a2 := at_mk r c i j g S hr hc hi hj
  have ad := sub_ok (f i j) (g i j) S (hf _ _ hi hj) (hg _ _ hi hj)
  simp only [mk, matA] at a1 a2
  refine Call.ofC Tryd.func78 YtimdnnlfkkkpbaaDoor.b78 YtimdnnlfkkkpbaaDoor.d78 YtimdnnlfkkkpbaaDoor.e78 (by simp [Tryd.f78]) ?_
  dsimp only [YtimdnnlfkkkpbaaDoor.c78, Tryd.f78, Option.getD_some]
  simp (maxSteps := 2000000) only [wk0, wk1, wk2, wk3, keepA, keepT, Fr.keep, frzT, flatT, arrayAtA, ownT, extT, Fr.ev, Fr.put, Fr.get, initFr, buildSliceA, zeros, pkB, pkT, pkF, ownDst, Env.kd, ofConst, isConst, binA, intI, cmpI, shiftI, convertA, buildA, fillA, fillS, splice, AV.cells?, storeA, readAt, fieldAddrA, fieldA, indexA, extractA, unA, builtinA, appendA, lenA, sliceCells, isSliceK, makeInterfaceA, nilCheckA, eqA, AV.one, AV.plain, if_false, if_true, Nat.reduceEqDiff, reduceIte, Nat.reduceAdd, List.replicate, Nat.reduceLeDiff, Nat.reduceMul, Nat.reduceSub, Nat.reducePow, Int.reduceLT, Int.reduceLE, Int.reduceToNat, Int.reducePow, IntKind.bits, Int.reduceEq, Int.reduceMul, Int.reduceNeg, ne_eq, reduceCtorEq, escT, BEq.rfl, beq_self_eq_true, Int.reduceAdd, Int.reduceSub, Int.reduceMod, Int.reduceDiv, Nat.reduceMod, Nat.reduceDiv, Nat.reduceLT, cond_true, cond_false, gt_iff_lt, ge_iff_le, b1, b2, List.length_map, gridP_len, tk1, tk2, YtimdnnlfkkkpbaaDoor.D78, ty2, ty3, ty4, ty49]
  refine callThen_of (a1) ?_
  simp (maxSteps := 2000000) only [wk0, wk1, wk2, wk3, keepA, keepT, Fr.keep, frzT, flatT, arrayAtA, ownT, extT, Fr.ev, Fr.put, Fr.get, initFr, buildSliceA, zeros, pkB, pkT, pkF, ownDst, Env.kd, ofConst, isConst, binA, intI, cmpI, shiftI, convertA, buildA, fillA, fillS, splice, AV.cells?, storeA, readAt, fieldAddrA, fieldA, indexA, extractA, unA, builtinA, appendA, lenA, sliceCells, isSliceK, makeInterfaceA, nilCheckA, eqA, AV.one, AV.plain, if_false, if_true, Nat.reduceEqDiff, reduceIte, Nat.reduceAdd, List.replicate, Nat.reduceLeDiff, Nat.reduceMul, Nat.reduceSub, Nat.reducePow, Int.reduceLT, Int.reduceLE, Int.reduceToNat, Int.reducePow, IntKind.bits, Int.reduceEq, Int.reduceMul, Int.reduceNeg, ne_eq, reduceCtorEq, escT, BEq.rfl, beq_self_eq_true, Int.reduceAdd, Int.reduceSub, Int.reduceMod, Int.reduceDiv, Nat.reduceMod, Nat.reduceDiv, Nat.reduceLT, cond_true, cond_false, gt_iff_lt, ge_iff_le, b1, b2, List.length_map, gridP_len, tk1, tk2, YtimdnnlfkkkpbaaDoor.D78, ty2, ty3, ty4, ty49]
  refine callThen_of (a2) ?_
  simp (maxSteps := 2000000) only [wk0, wk1, wk2, wk3, keepA, keepT, Fr.keep, frzT, flatT, arrayAtA, ownT, extT, Fr.ev, Fr.put, Fr.get, initFr, buildSliceA, zeros, pkB, pkT, pkF, ownDst, Env.kd, ofConst, isConst, binA, intI, cmpI, shiftI, convertA, buildA, fillA, fillS, splice, AV.cells?, storeA, readAt, fieldAddrA, fieldA, indexA, extractA, unA, builtinA, appendA, lenA, sliceCells, isSliceK, makeInterfaceA, nilCheckA, eqA, AV.one, AV.plain, if_false, if_true, Nat.reduceEqDiff, reduceIte, Nat.reduceAdd, List.replicate, Nat.reduceLeDiff, Nat.reduceMul, Nat.reduceSub, Nat.reducePow, Int.reduceLT, Int.reduceLE, Int.reduceToNat, Int.reducePow, IntKind.bits, Int.reduceEq, Int.reduceMul, Int.reduceNeg, ne_eq, reduceCtorEq, escT, BEq.rfl, beq_self_eq_true, Int.reduceAdd, Int.reduceSub, Int.reduceMod, Int.reduceDiv, Nat.reduceMod, Nat.reduceDiv, Nat.reduceLT, cond_true, cond_false, gt_iff_lt, ge_iff_le, b1, b2, List.length_map, gridP_len, tk1, tk2, YtimdnnlfkkkpbaaDoor.D78, ty2, ty3, ty4, ty49]
  refine callThen_of (ad) ?_
  simp (maxSteps := 2000000) only [wk0, wk1, wk2, wk3, keepA, keepT, Fr.keep, frzT, flatT, arrayAtA, ownT, extT, Fr.ev, Fr.put, Fr.get, initFr, buildSliceA, zeros, pkB, pkT, pkF, ownDst, Env.kd, ofConst, isConst, binA, intI, cmpI, shiftI, convertA, buildA, fillA, fillS, splice, AV.cells?, storeA, readAt, fieldAddrA, fieldA, indexA, extractA, unA, builtinA, appendA, lenA, sliceCells, isSliceK, makeInterfaceA, nilCheckA, eqA, AV.one, AV.plain, if_false, if_true, Nat.reduceEqDiff, reduceIte, Nat.reduceAdd, List.replicate, Nat.reduceLeDiff, Nat.reduceMul, Nat.reduceSub, Nat.reducePow, Int.reduceLT, Int.reduceLE, Int.reduceToNat, Int.reducePow, IntKind.bits, Int.reduceEq, Int.reduceMul, Int.reduceNeg, ne_eq, reduceCtorEq, escT, BEq.rfl, beq_self_eq_true, Int.reduceAdd, Int.reduceSub, Int.reduceMod, Int.reduceDiv, Nat.reduceMod, Nat.reduceDiv, Nat.reduceLT, cond_true, cond_false, gt_iff_lt, ge_iff_le, b1, b2, List.length_map, gridP_len, tk1, tk2, YtimdnnlfkkkpbaaDoor.D78, ty2, ty3, ty4, ty49]
  exact retB_plain (by simp [nmd_int, nmd_bool]) rfl (by simp)
theorem matSub_ok (r c : Nat) (f g : Nat → Nat → Int) (S : Heap) (hr : 1 ≤ r ∧ r ≤ 6) (hc : 1 ≤ c ∧ c ≤ 6) (hf : ∀ i j, i < r → j < c → inI (f i j)) (hg : ∀ i j, i < r → j < c → inI (g i j)) :
    Call theE 41 [mk r c f, mk r c g] S (.tup [mk r c (fun i j => bndI (f i j + -(g i j))), .bool (anyP c (fun i j => ovrB (f i j + -(g i j))) (r * c)), .nili]) S := by
  have tk1 := take36 (gridP_len c f (r * c))
  have tk2 := take36 (gridP_len c g (r * c))
  have tk3 := take36 (gridP_len c (fun i j => bndI (f i j + -(g i j))) (r * c))
  have al : (List.map (fun x => AV.int .i64 x) (gridP c (fun i j => bndI (f i j + -(g i j))) (r * c))).all AV.one = true := by simp [AV.one]
  have ck := fun S => alike_ok r c f g S hr hc
  have md := made_ok 78 [.ptr S.length 0 0, .ptr (S.length + 1) 0 0] r c (fun i j => bndI (f i j + -(g i j))) (fun i j => ovrB (f i j + -(g i j))) (S ++ [some ⟨.int .i64 r :: .int .i64 c :: (gridP c f (r * c)).map fun x => .int .i64 x, 0⟩, some ⟨.int .i64 r :: .int .i64 c :: (gridP c g (r * c)).map fun x => .int .i64 x, 0⟩, some ⟨zero38, 0⟩]) hr.2 hc.2 (by decide)
    (fun i j hi hj L => matSubOne_ok r c i j S.length f g _ hr.2 hc.2 hi hj hf hg (by rw [List.append_assoc, blkAt_app0]; rfl) (by rw [List.append_assoc, blkAt_app]; rfl))
  simp only [mk, matA, zero38, List.replicate] at ck md
  refine Call.ofC Tryd.func41 YtimdnnlfkkkpbaaDoor.b41 YtimdnnlfkkkpbaaDoor.d41 YtimdnnlfkkkpbaaDoor.e41 (by simp [Tryd.f41]) ?_
  dsimp only [YtimdnnlfkkkpbaaDoor.c41, Tryd.f41, Option.getD_some]
  simp (maxSteps := 2000000) only [wk0, wk1, wk2, wk3, keepA, keepT, Fr.keep, frzT, flatT, arrayAtA, ownT, extT, Fr.ev, Fr.put, Fr.get, initFr, buildSliceA, zeros, pkB, pkT, pkF, ownDst, Env.kd, ofConst, isConst, binA, intI, cmpI, shiftI, convertA, buildA, fillA, fillS, splice, AV.cells?, storeA, readAt, fieldAddrA, fieldA, indexA, extractA, unA, builtinA, appendA, lenA, sliceCells, isSliceK, makeInterfaceA, nilCheckA, eqA, AV.one, AV.plain, if_false, if_true, Nat.reduceEqDiff, reduceIte, Nat.reduceAdd, List.replicate, Nat.reduceLeDiff, Nat.reduceMul, Nat.reduceSub, Nat.reducePow, Int.reduceLT, Int.reduceLE, Int.reduceToNat, Int.reducePow, IntKind.bits, Int.reduceEq, Int.reduceMul, Int.reduceNeg, ne_eq, reduceCtorEq, escT, BEq.rfl, beq_self_eq_true, Int.reduceAdd, Int.reduceSub, Int.reduceMod, Int.reduceDiv, Nat.reduceMod, Nat.reduceDiv, Nat.reduceLT, cond_true, cond_false, gt_iff_lt, ge_iff_le, mk, matA, List.length_map, gridP_len, tk1, tk2, tk3, al, YtimdnnlfkkkpbaaDoor.D41, ty1, ty3, ty4, ty25, ty49, ty99]
  refine callThen_of (ck _) ?_
  simp (maxSteps := 2000000) only [wk0, wk1, wk2, wk3, keepA, keepT, Fr.keep, frzT, flatT, arrayAtA, ownT, extT, Fr.ev, Fr.put, Fr.get, initFr, buildSliceA, zeros, pkB, pkT, pkF, ownDst, Env.kd, ofConst, isConst, binA, intI, cmpI, shiftI, convertA, buildA, fillA, fillS, splice, AV.cells?, storeA, readAt, fieldAddrA, fieldA, indexA, extractA, unA, builtinA, appendA, lenA, sliceCells, isSliceK, makeInterfaceA, nilCheckA, eqA, AV.one, AV.plain, if_false, if_true, Nat.reduceEqDiff, reduceIte, Nat.reduceAdd, List.replicate, Nat.reduceLeDiff, Nat.reduceMul, Nat.reduceSub, Nat.reducePow, Int.reduceLT, Int.reduceLE, Int.reduceToNat, Int.reducePow, IntKind.bits, Int.reduceEq, Int.reduceMul, Int.reduceNeg, ne_eq, reduceCtorEq, escT, BEq.rfl, beq_self_eq_true, Int.reduceAdd, Int.reduceSub, Int.reduceMod, Int.reduceDiv, Nat.reduceMod, Nat.reduceDiv, Nat.reduceLT, cond_true, cond_false, gt_iff_lt, ge_iff_le, mk, matA, List.length_map, gridP_len, tk1, tk2, tk3, al, YtimdnnlfkkkpbaaDoor.D41, ty1, ty3, ty4, ty25, ty49, ty99]
  refine callThen_of (md) ?_
  simp (maxSteps := 2000000) only [wk0, wk1, wk2, wk3, keepA, keepT, Fr.keep, frzT, flatT, arrayAtA, ownT, extT, Fr.ev, Fr.put, Fr.get, initFr, buildSliceA, zeros, pkB, pkT, pkF, ownDst, Env.kd, ofConst, isConst, binA, intI, cmpI, shiftI, convertA, buildA, fillA, fillS, splice, AV.cells?, storeA, readAt, fieldAddrA, fieldA, indexA, extractA, unA, builtinA, appendA, lenA, sliceCells, isSliceK, makeInterfaceA, nilCheckA, eqA, AV.one, AV.plain, if_false, if_true, Nat.reduceEqDiff, reduceIte, Nat.reduceAdd, List.replicate, Nat.reduceLeDiff, Nat.reduceMul, Nat.reduceSub, Nat.reducePow, Int.reduceLT, Int.reduceLE, Int.reduceToNat, Int.reducePow, IntKind.bits, Int.reduceEq, Int.reduceMul, Int.reduceNeg, ne_eq, reduceCtorEq, escT, BEq.rfl, beq_self_eq_true, Int.reduceAdd, Int.reduceSub, Int.reduceMod, Int.reduceDiv, Nat.reduceMod, Nat.reduceDiv, Nat.reduceLT, cond_true, cond_false, gt_iff_lt, ge_iff_le, mk, matA, List.length_map, gridP_len, tk1, tk2, tk3, al, YtimdnnlfkkkpbaaDoor.D41, ty1, ty3, ty4, ty25, ty49, ty99]
  exact retB_plain (by simp [nmd_agg, nmd_int, nmd_nili, nmd_bool]) (by simp [packA]) (by simp)
theorem part_lst {l : List Int} {i : Nat} (h : i < l.length) : List.take 1 (List.drop i (l.map fun x => AV.int .i64 x)) = [.int .i64 (l.getD i 0)] := by
  rw [List.drop_eq_getElem_cons (by simpa using h)]
  simp [List.getD_eq_getElem?_getD, List.getElem?_eq_getElem h]
theorem outer1_ok (a b : List Int) (i j p : Nat) (S : Heap) (ha : a.length ≤ 6) (hb : b.length ≤ 6) (hi : i < a.length) (hj : j < b.length) (h1 : ∀ x ∈ a, inI x) (h2 : ∀ x ∈ b, inI x)
    (b1 : blkAt S p 0 = some ⟨[lstI a], 0⟩) (b2 : blkAt S (p + 1) 0 = some ⟨[lstI b], 0⟩) :
    Call theE 81 [.int .i64 i, .int .i64 j, .ptr p 0 0, .ptr (p + 1) 0 0] S (.tup [.int .i64 (bndI (rnd (a.getD i 0 * b.getD j 0) (2 ^ 20))), .bool (ovrB (rnd (a.getD i 0 * b.getD j 0) (2 ^ 20)))]) S := by
  have md := mdot_ok _ _ [a.getD i 0] [b.getD j 0] S (SlI.lst _) (SlI.lst _) rfl (by simp) (by
    intro x hx; simp only [List.mem_singleton] at hx; subst hx
    rw [List.getD_eq_getElem?_getD, List.getElem?_eq_getElem hi]; exact h1 _ (List.getElem_mem hi)) (by
    intro x hx; simp only [List.mem_singleton] at hx; subst hx
    rw [List.getD_eq_getElem?_getD, List.getElem?_eq_getElem hj]; exact h2 _ (List.getElem_mem hj))
  rw [show dotZ [a.getD i 0] [b.getD j 0] = a.getD i 0 * b.getD j 0 by simp [dotZ]] at md
  have pa := part_lst hi
  have pb := part_lst hj
  have w1 : IntKind.i64.wrap ((i : Int) + 1) = ((i + 1 : Nat) : Int) := wrapI (by omega)
  have w2 : IntKind.i64.wrap ((j : Int) + 1) = ((j + 1 : Nat) : Int) := wrapI (by omega)
  have k1 : (0 : Int) ≤ i := by omega
  have k2 : (0 : Int) ≤ j := by omega
  have k3 : (i : Int) ≤ ((i + 1 : Nat) : Int) := by omega
  have k4 : (j : Int) ≤ ((j + 1 : Nat) : Int) := by omega
  have k5 : ((i + 1 : Nat) : Int) ≤ a.length := by omega
  have k6 : ((j + 1 : Nat) : Int) ≤ b.length := by omega
  have k7 : i + 1 ≤ a.length := by omega
  have k8 : j + 1 ≤ b.length := by omega
  have k9 : ¬ (i : Int) = ((i + 1 : Nat) : Int) := by omega
  have k10 : ¬ (j : Int) = ((j + 1 : Nat) : Int) := by omega
  have k11 : i + 1 - i = 1 := by omega
  have k12 : j + 1 - j = 1 := by omega
  simp only [List.map_cons, List.map_nil, List.length_cons, List.length_nil, Nat.zero_add] at md
  refine Call.ofC Tryd.func81 YtimdnnlfkkkpbaaDoor.b81 YtimdnnlfkkkpbaaDoor.d81 YtimdnnlfkkkpbaaDoor.e81 (by simp [Tryd.f81]) ?_
  dsimp only [YtimdnnlfkkkpbaaDoor.c81, Tryd.f81, Option.getD_some]
  simp (maxSteps := 2000000) only [wk0, wk1, wk2, wk3, keepA, keepT, Fr.keep, frzT, flatT, arrayAtA, ownT, extT, Fr.ev, Fr.put, Fr.get, initFr, buildSliceA, zeros, pkB, pkT, pkF, ownDst, Env.kd, ofConst, isConst, binA, intI, cmpI, shiftI, convertA, buildA, fillA, fillS, splice, AV.cells?, storeA, readAt, fieldAddrA, fieldA, indexA, extractA, unA, builtinA, appendA, lenA, sliceCells, isSliceK, makeInterfaceA, nilCheckA, eqA, AV.one, AV.plain, if_false, if_true, Nat.reduceEqDiff, reduceIte, Nat.reduceAdd, List.replicate, Nat.reduceLeDiff, Nat.reduceMul, Nat.reduceSub, Nat.reducePow, Int.reduceLT, Int.reduceLE, Int.reduceToNat, Int.reducePow, IntKind.bits, Int.reduceEq, Int.reduceMul, Int.reduceNeg, ne_eq, reduceCtorEq, escT, BEq.rfl, beq_self_eq_true, Int.reduceAdd, Int.reduceSub, Int.reduceMod, Int.reduceDiv, Nat.reduceMod, Nat.reduceDiv, Nat.reduceLT, cond_true, cond_false, gt_iff_lt, ge_iff_le, lstI, b1, b2, w1, w2, k1, k2, k3, k4, k5, k6, k7, k8, k9, k10, k11, k12, pa, pb, sa_lst, bd_none, bd_some, bv_int, List.length_map, Int.toNat_natCast, Nat.mul_one, YtimdnnlfkkkpbaaDoor.D81, ty2, ty3, ty4, ty23]
  refine callThen_of (md) ?_
  simp (maxSteps := 2000000) only [wk0, wk1, wk2, wk3, keepA, keepT, Fr.keep, frzT, flatT, arrayAtA, ownT, extT, Fr.ev, Fr.put, Fr.get, initFr, buildSliceA, zeros, pkB, pkT, pkF, ownDst, Env.kd, ofConst, isConst, binA, intI, cmpI, shiftI, convertA, buildA, fillA, fillS, splice, AV.cells?, storeA, readAt, fieldAddrA, fieldA, indexA, extractA, unA, builtinA, appendA, lenA, sliceCells, isSliceK, makeInterfaceA, nilCheckA, eqA, AV.one, AV.plain, if_false, if_true, Nat.reduceEqDiff, reduceIte, Nat.reduceAdd, List.replicate, Nat.reduceLeDiff, Nat.reduceMul, Nat.reduceSub, Nat.reducePow, Int.reduceLT, Int.reduceLE, Int.reduceToNat, Int.reducePow, IntKind.bits, Int.reduceEq, Int.reduceMul, Int.reduceNeg, ne_eq, reduceCtorEq, escT, BEq.rfl, beq_self_eq_true, Int.reduceAdd, Int.reduceSub, Int.reduceMod, Int.reduceDiv, Nat.reduceMod, Nat.reduceDiv, Nat.reduceLT, cond_true, cond_false, gt_iff_lt, ge_iff_le, lstI, b1, b2, w1, w2, k1, k2, k3, k4, k5, k6, k7, k8, k9, k10, k11, k12, pa, pb, sa_lst, bd_none, bd_some, bv_int, List.length_map, Int.toNat_natCast, Nat.mul_one, YtimdnnlfkkkpbaaDoor.D81, ty2, ty3, ty4, ty23]
  exact retB_plain (by simp [nmd_int, nmd_bool]) rfl (by simp)
def outF (a b : List Int) (i j : Nat) : Int := rnd (a.getD i 0 * b.getD j 0) (2 ^ 20)
theorem outer_ok (a b : List Int) (S : Heap) (ha : 1 ≤ a.length ∧ a.length ≤ 6) (hb : 1 ≤ b.length ∧ b.length ≤ 6) (h1 : ∀ x ∈ a, inI x) (h2 : ∀ x ∈ b, inI x) :
    Call theE 48 [lstI a, lstI b] S (.tup [mk a.length b.length (fun i j => bndI (outF a b i j)), .bool (anyP b.length (fun i j => ovrB (outF a b i j)) (a.length * b.length)), .nili]) S := by
  have tk3 := take36 (gridP_len b.length (fun i j => bndI (outF a b i j)) (a.length * b.length))
  have al : (List.map (fun x => AV.int .i64 x) (gridP b.length (fun i j => bndI (outF a b i j)) (a.length * b.length))).all AV.one = true := by simp [AV.one]
  have s1 := fun S => sizedM_ok a.length S
  have s2 := fun S => sizedM_ok b.length S
  rw [decide_eq_true (by omega)] at s1 s2
  have md := made_ok 81 [.ptr S.length 0 0, .ptr (S.length + 1) 0 0] a.length b.length (fun i j => bndI (outF a b i j)) (fun i j => ovrB (outF a b i j)) (S ++ [some ⟨[lstI a], 0⟩, some ⟨[lstI b], 0⟩, some ⟨zero38, 0⟩]) ha.2 hb.2 (by decide)
    (fun i j hi hj L => outer1_ok a b i j S.length _ ha.2 hb.2 hi hj h1 h2 (by rw [List.append_assoc, blkAt_app0]; rfl) (by rw [List.append_assoc, blkAt_app]; rfl))
  simp only [mk, matA, zero38, List.replicate, lstI] at md ⊢
  refine Call.ofC Tryd.func48 YtimdnnlfkkkpbaaDoor.b48 YtimdnnlfkkkpbaaDoor.d48 YtimdnnlfkkkpbaaDoor.e48 (by simp [Tryd.f48]) ?_
  dsimp only [YtimdnnlfkkkpbaaDoor.c48, Tryd.f48, Option.getD_some]
  simp (maxSteps := 2000000) only [wk0, wk1, wk2, wk3, keepA, keepT, Fr.keep, frzT, flatT, arrayAtA, ownT, extT, Fr.ev, Fr.put, Fr.get, initFr, buildSliceA, zeros, pkB, pkT, pkF, ownDst, Env.kd, ofConst, isConst, binA, intI, cmpI, shiftI, convertA, buildA, fillA, fillS, splice, AV.cells?, storeA, readAt, fieldAddrA, fieldA, indexA, extractA, unA, builtinA, appendA, lenA, sliceCells, isSliceK, makeInterfaceA, nilCheckA, eqA, AV.one, AV.plain, if_false, if_true, Nat.reduceEqDiff, reduceIte, Nat.reduceAdd, List.replicate, Nat.reduceLeDiff, Nat.reduceMul, Nat.reduceSub, Nat.reducePow, Int.reduceLT, Int.reduceLE, Int.reduceToNat, Int.reducePow, IntKind.bits, Int.reduceEq, Int.reduceMul, Int.reduceNeg, ne_eq, reduceCtorEq, escT, BEq.rfl, beq_self_eq_true, Int.reduceAdd, Int.reduceSub, Int.reduceMod, Int.reduceDiv, Nat.reduceMod, Nat.reduceDiv, Nat.reduceLT, cond_true, cond_false, gt_iff_lt, ge_iff_le, mk, matA, lstI, List.length_map, gridP_len, tk3, al, YtimdnnlfkkkpbaaDoor.D48, ty3, ty4, ty23, ty25, ty49, ty85, ty99]
  refine callThen_of (s1 _) ?_
  simp (maxSteps := 2000000) only [wk0, wk1, wk2, wk3, keepA, keepT, Fr.keep, frzT, flatT, arrayAtA, ownT, extT, Fr.ev, Fr.put, Fr.get, initFr, buildSliceA, zeros, pkB, pkT, pkF, ownDst, Env.kd, ofConst, isConst, binA, intI, cmpI, shiftI, convertA, buildA, fillA, fillS, splice, AV.cells?, storeA, readAt, fieldAddrA, fieldA, indexA, extractA, unA, builtinA, appendA, lenA, sliceCells, isSliceK, makeInterfaceA, nilCheckA, eqA, AV.one, AV.plain, if_false, if_true, Nat.reduceEqDiff, reduceIte, Nat.reduceAdd, List.replicate, Nat.reduceLeDiff, Nat.reduceMul, Nat.reduceSub, Nat.reducePow, Int.reduceLT, Int.reduceLE, Int.reduceToNat, Int.reducePow, IntKind.bits, Int.reduceEq, Int.reduceMul, Int.reduceNeg, ne_eq, reduceCtorEq, escT, BEq.rfl, beq_self_eq_true, Int.reduceAdd, Int.reduceSub, Int.reduceMod, Int.reduceDiv, Nat.reduceMod, Nat.reduceDiv, Nat.reduceLT, cond_true, cond_false, gt_iff_lt, ge_iff_le, mk, matA, lstI, List.length_map, gridP_len, tk3, al, YtimdnnlfkkkpbaaDoor.D48, ty3, ty4, ty23, ty25, ty49, ty85, ty99]
  refine callThen_of (s2 _) ?_
  simp (maxSteps := 2000000) only [wk0, wk1, wk2, wk3, keepA, keepT, Fr.keep, frzT, flatT, arrayAtA, ownT, extT, Fr.ev, Fr.put, Fr.get, initFr, buildSliceA, zeros, pkB, pkT, pkF, ownDst, Env.kd, ofConst, isConst, binA, intI, cmpI, shiftI, convertA, buildA, fillA, fillS, splice, AV.cells?, storeA, readAt, fieldAddrA, fieldA, indexA, extractA, unA, builtinA, appendA, lenA, sliceCells, isSliceK, makeInterfaceA, nilCheckA, eqA, AV.one, AV.plain, if_false, if_true, Nat.reduceEqDiff, reduceIte, Nat.reduceAdd, List.replicate, Nat.reduceLeDiff, Nat.reduceMul, Nat.reduceSub, Nat.reducePow, Int.reduceLT, Int.reduceLE, Int.reduceToNat, Int.reducePow, IntKind.bits, Int.reduceEq, Int.reduceMul, Int.reduceNeg, ne_eq, reduceCtorEq, escT, BEq.rfl, beq_self_eq_true, Int.reduceAdd, Int.reduceSub, Int.reduceMod, Int.reduceDiv, Nat.reduceMod, Nat.reduceDiv, Nat.reduceLT, cond_true, cond_false, gt_iff_lt, ge_iff_le, mk, matA, lstI, List.length_map, gridP_len, tk3, al, YtimdnnlfkkkpbaaDoor.D48, ty3, ty4, ty23, ty25, ty49, ty85, ty99]
  refine callThen_of (md) ?_
  simp (maxSteps := 2000000) only [wk0, wk1, wk2, wk3, keepA, keepT, Fr.keep, frzT, flatT, arrayAtA, ownT, extT, Fr.ev, Fr.put, Fr.get, initFr, buildSliceA, zeros, pkB, pkT, pkF, ownDst, Env.kd, ofConst, isConst, binA, intI, cmpI, shiftI, convertA, buildA, fillA, fillS, splice, AV.cells?, storeA, readAt, fieldAddrA, fieldA, indexA, extractA, unA, builtinA, appendA, lenA, sliceCells, isSliceK, makeInterfaceA, nilCheckA, eqA, AV.one, AV.plain, if_false, if_true, Nat.reduceEqDiff, reduceIte, Nat.reduceAdd, List.replicate, Nat.reduceLeDiff, Nat.reduceMul, Nat.reduceSub, Nat.reducePow, Int.reduceLT, Int.reduceLE, Int.reduceToNat, Int.reducePow, IntKind.bits, Int.reduceEq, Int.reduceMul, Int.reduceNeg, ne_eq, reduceCtorEq, escT, BEq.rfl, beq_self_eq_true, Int.reduceAdd, Int.reduceSub, Int.reduceMod, Int.reduceDiv, Nat.reduceMod, Nat.reduceDiv, Nat.reduceLT, cond_true, cond_false, gt_iff_lt, ge_iff_le, mk, matA, lstI, List.length_map, gridP_len, tk3, al, YtimdnnlfkkkpbaaDoor.D48, ty3, ty4, ty23, ty25, ty49, ty85, ty99]
  exact retB_plain (by simp [nmd_agg, nmd_int, nmd_nili, nmd_bool]) (by simp [packA]) (by simp)
theorem rowM_ok (r c i : Nat) (f : Nat → Nat → Int) (S : Heap) (hr : 1 ≤ r ∧ r ≤ 6) (hc : 1 ≤ c ∧ c ≤ 6) (hi : i < r) :
    Call theE 34 [mk r c f, .int .i64 i] S (.tup [lstI (rowF f c i), .nili]) S := by
  have h36 : r * c ≤ 36 := by have := Nat.mul_le_mul hr.2 hc.2; omega
  have hin : i * c + c ≤ r * c := by
    have := Nat.mul_le_mul_right c (show i + 1 ≤ r by omega)
    rw [Nat.add_mul, Nat.one_mul] at this
    omega
  have e2 : (i + 1) * c = i * c + c := by rw [Nat.add_mul, Nat.one_mul]
  have tk := take36 (gridP_len c f (r * c))
  have ck := fun S => check_ok r c f S hr hc
  have w1 : IntKind.i64.wrap ((i : Int) * c) = ((i * c : Nat) : Int) := by rw [wrapI (by rw [← Int.natCast_mul]; omega)]; simp
  have w2 : IntKind.i64.wrap ((i : Int) + 1) = ((i + 1 : Nat) : Int) := wrapI (by omega)
  have w3 : IntKind.i64.wrap (((i + 1 : Nat) : Int) * c) = ((i * c + c : Nat) : Int) := by rw [← e2, wrapI (by rw [← Int.natCast_mul, e2]; omega)]; simp
  have q1 : ¬ (i : Int) < 0 := by omega
  have q2 : ¬ (r : Int) ≤ i := by omega
  have k1 : (0 : Int) ≤ ((i * c : Nat) : Int) := by omega
  have k2 : ((i * c : Nat) : Int) ≤ ((i * c + c : Nat) : Int) := by omega
  have k3 : ((i * c + c : Nat) : Int) ≤ 36 := by omega
  have k4 : ¬ ((i * c : Nat) : Int) = ((i * c + c : Nat) : Int) := by omega
  have k5 : i * c + c - i * c = c := by omega
  have a1 : c * 8 ≤ maxBytes := by unfold maxBytes; omega
  have a2 : c ≤ 9223372036854775807 := by omega
  have k6 : 2 + i * c + c ≤ 38 := by omega
  have rc := row_cells r c i f (r : Int) (c : Int) hi h36
  have lr : (rowF f c i).length = c := by simp [rowF]
  simp only [mk, matA] at ck
  refine Call.ofC Tryd.func34 YtimdnnlfkkkpbaaDoor.b34 YtimdnnlfkkkpbaaDoor.d34 YtimdnnlfkkkpbaaDoor.e34 (by simp [Tryd.f34]) ?_
  dsimp only [YtimdnnlfkkkpbaaDoor.c34, Tryd.f34, Option.getD_some]
  simp (maxSteps := 2000000) only [wk0, wk1, wk2, wk3, keepA, keepT, Fr.keep, frzT, flatT, arrayAtA, ownT, extT, Fr.ev, Fr.put, Fr.get, initFr, buildSliceA, zeros, pkB, pkT, pkF, ownDst, Env.kd, ofConst, isConst, binA, intI, cmpI, shiftI, convertA, buildA, fillA, fillS, splice, AV.cells?, storeA, readAt, fieldAddrA, fieldA, indexA, extractA, unA, builtinA, appendA, lenA, sliceCells, isSliceK, makeInterfaceA, nilCheckA, eqA, AV.one, AV.plain, if_false, if_true, Nat.reduceEqDiff, reduceIte, Nat.reduceAdd, List.replicate, Nat.reduceLeDiff, Nat.reduceMul, Nat.reduceSub, Nat.reducePow, Int.reduceLT, Int.reduceLE, Int.reduceToNat, Int.reducePow, IntKind.bits, Int.reduceEq, Int.reduceMul, Int.reduceNeg, ne_eq, reduceCtorEq, escT, BEq.rfl, beq_self_eq_true, Int.reduceAdd, Int.reduceSub, Int.reduceMod, Int.reduceDiv, Nat.reduceMod, Nat.reduceDiv, Nat.reduceLT, cond_true, cond_false, gt_iff_lt, ge_iff_le, mk, matA, List.length_map, gridP_len, tk, q1, q2, bd_none, bd_some, bv_int, sa_arr, w1, w2, w3, k1, k2, k3, k4, k5, k6, Int.toNat_natCast, Nat.mul_one, Nat.le_refl, a1, a2, rc, YtimdnnlfkkkpbaaDoor.D34, ty1, ty2, ty3, ty4, ty23, ty25, ty47, ty49, ty85]
  refine callThen_of (ck _) ?_
  simp (maxSteps := 2000000) only [wk0, wk1, wk2, wk3, keepA, keepT, Fr.keep, frzT, flatT, arrayAtA, ownT, extT, Fr.ev, Fr.put, Fr.get, initFr, buildSliceA, zeros, pkB, pkT, pkF, ownDst, Env.kd, ofConst, isConst, binA, intI, cmpI, shiftI, convertA, buildA, fillA, fillS, splice, AV.cells?, storeA, readAt, fieldAddrA, fieldA, indexA, extractA, unA, builtinA, appendA, lenA, sliceCells, isSliceK, makeInterfaceA, nilCheckA, eqA, AV.one, AV.plain, if_false, if_true, Nat.reduceEqDiff, reduceIte, Nat.reduceAdd, List.replicate, Nat.reduceLeDiff, Nat.reduceMul, Nat.reduceSub, Nat.reducePow, Int.reduceLT, Int.reduceLE, Int.reduceToNat, Int.reducePow, IntKind.bits, Int.reduceEq, Int.reduceMul, Int.reduceNeg, ne_eq, reduceCtorEq, escT, BEq.rfl, beq_self_eq_true, Int.reduceAdd, Int.reduceSub, Int.reduceMod, Int.reduceDiv, Nat.reduceMod, Nat.reduceDiv, Nat.reduceLT, cond_true, cond_false, gt_iff_lt, ge_iff_le, mk, matA, List.length_map, gridP_len, tk, q1, q2, bd_none, bd_some, bv_int, sa_arr, w1, w2, w3, k1, k2, k3, k4, k5, k6, Int.toNat_natCast, Nat.mul_one, Nat.le_refl, a1, a2, rc, YtimdnnlfkkkpbaaDoor.D34, ty1, ty2, ty3, ty4, ty23, ty25, ty47, ty49, ty85]
  refine retB_two ?_ (.same _ .nili) (by simp)
  have h := fin_sl (base := S.length) (id := S.length + 1) (ver := c) (cap := c) (u := c) (L := rowF f c i) (H := S ++ [some ⟨.int .i64 r :: .int .i64 c :: (gridP c f (r * c)).map fun x => .int .i64 x, 0⟩, some ⟨(rowF f c i).map fun x => .int .i64 x, c⟩]) (by omega) (by rw [blkAt_app, blkAt_succ, blkAt_zero])
  rw [lr] at h
  exact h
end Go.Proofs.YtimdnnlfkkkpbaaDoor
