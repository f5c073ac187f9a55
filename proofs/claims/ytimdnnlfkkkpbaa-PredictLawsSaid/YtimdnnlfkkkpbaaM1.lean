/- mat: what may be; single numbers; columns; turned; products; middles. -/
import Derived.Test.YtimdnnlfkkkpbaaM0
set_option linter.unusedSimpArgs false
set_option linter.unusedVariables false
set_option maxRecDepth 100000
set_option maxHeartbeats 4000000
namespace Go.Proofs.Ytimdnnlfkkkpbaa
noncomputable def c20 : Code := Try.f20.body.getD .skip
theorem b20 : Try.f20.body = some c20 := rfl
theorem d20 : fnOk Try.f20 c20 = true := by kernel_rfl
def D20 : Nat → List Tag := fun _ => []
theorem e20 : drawsOk D20 c20 = true := by kernel_rfl
noncomputable def c67 : Code := Try.f67.body.getD .skip
theorem b67 : Try.f67.body = some c67 := rfl
theorem d67 : fnOk Try.f67 c67 = true := by kernel_rfl
def D67 : Nat → List Tag
  | 1 => [.pure, .pure, .pure, .quiet, .pure, .pure, .pure, .pure, .quiet, .pure, .quiet, .quiet, .pure, .quiet, .seq, .pure, .pure, .pure, .pure]
  | _ => []
theorem e67 : drawsOk D67 c67 = true := by kernel_rfl
noncomputable def c22 : Code := Try.f22.body.getD .skip
theorem b22 : Try.f22.body = some c22 := rfl
theorem d22 : fnOk Try.f22 c22 = true := by kernel_rfl
def D22 : Nat → List Tag := fun _ => []
theorem e22 : drawsOk D22 c22 = true := by kernel_rfl
noncomputable def c71 : Code := Try.f71.body.getD .skip
theorem b71 : Try.f71.body = some c71 := rfl
theorem d71 : fnOk Try.f71 c71 = true := by kernel_rfl
def D71 : Nat → List Tag
  | 1 => [.quiet, .pure, .pure, .quiet, .quiet, .pure, .pure, .seq, .pure, .pure, .seq, .pure, .pure, .pure, .pure]
  | _ => []
theorem e71 : drawsOk D71 c71 = true := by kernel_rfl
theorem get38 {r c x : Int} {l : List Int} {k : Nat} (h : l[k]? = some x) : (AV.int .i64 r :: AV.int .i64 c :: l.map fun x => AV.int .i64 x)[2 + k]? = some (.int .i64 x) := by
  rw [show 2 + k = k + 1 + 1 by omega, List.getElem?_cons_succ, List.getElem?_cons_succ, List.getElem?_map, h]; rfl
theorem at_ok (r c i j : Nat) (l : List Int) (x : Int) (S : Heap) (hl : l.length = 36) (hk : i * c + j < 36) (hx : l[i * c + j]? = some x) (hc : c ≤ 36) (hi : i ≤ 36) (hj : j ≤ 36) :
    Call theE 66 [matA r c l, .int .i64 i, .int .i64 j] S (.int .i64 x) S := by
  have hic : i * c < 36 := by omega
  have w1 : IntKind.i64.wrap ((i : Int) * c) = ((i * c : Nat) : Int) := by rw [wrapI (by rw [← Int.natCast_mul]; omega)]; simp
  have w2 : IntKind.i64.wrap (((i * c : Nat) : Int) + j) = ((i * c + j : Nat) : Int) := wrapI (by omega)
  have k1 : (0 : Int) ≤ ((i * c + j : Nat) : Int) := by omega
  have k2 : ((i * c + j : Nat) : Int) < 36 := by omega
  have g := get38 (r := r) (c := c) hx
  refine Call.ofC Try.func66 Ytimdnnlfkkkpbaa.b66 Ytimdnnlfkkkpbaa.d66 Ytimdnnlfkkkpbaa.e66 (by simp [Try.f66]) ?_
  dsimp only [Ytimdnnlfkkkpbaa.c66, Try.f66, Option.getD_some]
  simp (maxSteps := 2000000) only [wk0, wk1, wk2, wk3, keepA, keepT, Fr.keep, frzT, flatT, arrayAtA, ownT, extT, Fr.ev, Fr.put, Fr.get, initFr, buildSliceA, zeros, pkB, pkT, pkF, ownDst, Env.kd, ofConst, isConst, binA, intI, cmpI, shiftI, convertA, buildA, fillA, fillS, splice, AV.cells?, storeA, readAt, fieldAddrA, fieldA, indexA, extractA, unA, builtinA, appendA, lenA, sliceCells, isSliceK, makeInterfaceA, nilCheckA, eqA, AV.one, AV.plain, if_false, if_true, Nat.reduceEqDiff, reduceIte, Nat.reduceAdd, List.replicate, Nat.reduceLeDiff, Nat.reduceMul, Nat.reduceSub, Nat.reducePow, Int.reduceLT, Int.reduceLE, Int.reduceToNat, Int.reducePow, IntKind.bits, Int.reduceEq, Int.reduceMul, Int.reduceNeg, ne_eq, reduceCtorEq, escT, BEq.rfl, beq_self_eq_true, Int.reduceAdd, Int.reduceSub, Int.reduceMod, Int.reduceDiv, Nat.reduceMod, Nat.reduceDiv, Nat.reduceLT, cond_true, cond_false, gt_iff_lt, ge_iff_le, matA, w1, w2, k1, k2, Int.toNat_natCast, Nat.mul_one, g, Ytimdnnlfkkkpbaa.D66, ty1, ty2, ty3, ty34, ty36]
  exact retB_plain (by simp [nmd_int]) rfl (by simp)
theorem at_mk (r c i j : Nat) (f : Nat → Nat → Int) (S : Heap) (hr : r ≤ 6) (hc : c ≤ 6) (hi : i < r) (hj : j < c) :
    Call theE 66 [mk r c f, .int .i64 i, .int .i64 j] S (.int .i64 (f i j)) S := by
  have h36 : r * c ≤ 36 := by have := Nat.mul_le_mul hr hc; omega
  have hk : i * c + j < r * c := by
    have := Nat.mul_le_mul_right c (show i + 1 ≤ r by omega)
    rw [Nat.add_mul, Nat.one_mul] at this
    omega
  exact at_ok r c i j _ _ S (gridP_len _ _ _) (by omega) (grid_get r c f i j hi hj h36) (by omega) (by omega) (by omega)
theorem check_ok (r c : Nat) (f : Nat → Nat → Int) (S : Heap) (hr : 1 ≤ r ∧ r ≤ 6) (hc : 1 ≤ c ∧ c ≤ 6) : Call theE 63 [mk r c f] S .nili S := by
  have h36 : r * c ≤ 36 := by have := Nat.mul_le_mul hr.2 hc.2; omega
  have s1 := fun S => sizedM_ok r S
  have s2 := fun S => sizedM_ok c S
  rw [decide_eq_true (by omega)] at s1 s2
  have w1 : IntKind.i64.wrap ((r : Int) * c) = ((r * c : Nat) : Int) := by rw [wrapI (by rw [← Int.natCast_mul]; omega)]; simp
  obtain ⟨p, hp⟩ : ∃ p, r * c = p := ⟨_, rfl⟩
  rw [hp] at w1 h36
  have k1 : (0 : Int) ≤ (p : Int) := by omega
  have k2 : (p : Int) ≤ 36 := by omega
  have gl := gridP_len c f p
  unfold mk
  rw [hp]
  refine Call.ofC Try.func63 Ytimdnnlfkkkpbaa.b63 Ytimdnnlfkkkpbaa.d63 Ytimdnnlfkkkpbaa.e63 (by simp [Try.f63]) ?_
  dsimp only [Ytimdnnlfkkkpbaa.c63, Try.f63, Option.getD_some]
  simp (maxSteps := 2000000) only [wk0, wk1, wk2, wk3, keepA, keepT, Fr.keep, frzT, flatT, arrayAtA, ownT, extT, Fr.ev, Fr.put, Fr.get, initFr, buildSliceA, zeros, pkB, pkT, pkF, ownDst, Env.kd, ofConst, isConst, binA, intI, cmpI, shiftI, convertA, buildA, fillA, fillS, splice, AV.cells?, storeA, readAt, fieldAddrA, fieldA, indexA, extractA, unA, builtinA, appendA, lenA, sliceCells, isSliceK, makeInterfaceA, nilCheckA, eqA, AV.one, AV.plain, if_false, if_true, Nat.reduceEqDiff, reduceIte, Nat.reduceAdd, List.replicate, Nat.reduceLeDiff, Nat.reduceMul, Nat.reduceSub, Nat.reducePow, Int.reduceLT, Int.reduceLE, Int.reduceToNat, Int.reducePow, IntKind.bits, Int.reduceEq, Int.reduceMul, Int.reduceNeg, ne_eq, reduceCtorEq, escT, BEq.rfl, beq_self_eq_true, Int.reduceAdd, Int.reduceSub, Int.reduceMod, Int.reduceDiv, Nat.reduceMod, Nat.reduceDiv, Nat.reduceLT, cond_true, cond_false, gt_iff_lt, ge_iff_le, matA, Ytimdnnlfkkkpbaa.D63, ty1, ty2, ty3, ty4, ty22, ty24, ty34, ty36, ty95]
  refine callThen_of (s1 _) ?_
  simp (maxSteps := 2000000) only [wk0, wk1, wk2, wk3, keepA, keepT, Fr.keep, frzT, flatT, arrayAtA, ownT, extT, Fr.ev, Fr.put, Fr.get, initFr, buildSliceA, zeros, pkB, pkT, pkF, ownDst, Env.kd, ofConst, isConst, binA, intI, cmpI, shiftI, convertA, buildA, fillA, fillS, splice, AV.cells?, storeA, readAt, fieldAddrA, fieldA, indexA, extractA, unA, builtinA, appendA, lenA, sliceCells, isSliceK, makeInterfaceA, nilCheckA, eqA, AV.one, AV.plain, if_false, if_true, Nat.reduceEqDiff, reduceIte, Nat.reduceAdd, List.replicate, Nat.reduceLeDiff, Nat.reduceMul, Nat.reduceSub, Nat.reducePow, Int.reduceLT, Int.reduceLE, Int.reduceToNat, Int.reducePow, IntKind.bits, Int.reduceEq, Int.reduceMul, Int.reduceNeg, ne_eq, reduceCtorEq, escT, BEq.rfl, beq_self_eq_true, Int.reduceAdd, Int.reduceSub, Int.reduceMod, Int.reduceDiv, Nat.reduceMod, Nat.reduceDiv, Nat.reduceLT, cond_true, cond_false, gt_iff_lt, ge_iff_le, Ytimdnnlfkkkpbaa.D63, ty1, ty2, ty3, ty4, ty22, ty24, ty34, ty36, ty95]
  refine callThen_of (s2 _) ?_
  by_cases h : p = 36
  · have h' : (p : Int) = 36 := by omega
    simp (maxSteps := 2000000) only [wk0, wk1, wk2, wk3, keepA, keepT, Fr.keep, frzT, flatT, arrayAtA, ownT, extT, Fr.ev, Fr.put, Fr.get, initFr, buildSliceA, zeros, pkB, pkT, pkF, ownDst, Env.kd, ofConst, isConst, binA, intI, cmpI, shiftI, convertA, buildA, fillA, fillS, splice, AV.cells?, storeA, readAt, fieldAddrA, fieldA, indexA, extractA, unA, builtinA, appendA, lenA, sliceCells, isSliceK, makeInterfaceA, nilCheckA, eqA, AV.one, AV.plain, if_false, if_true, Nat.reduceEqDiff, reduceIte, Nat.reduceAdd, List.replicate, Nat.reduceLeDiff, Nat.reduceMul, Nat.reduceSub, Nat.reducePow, Int.reduceLT, Int.reduceLE, Int.reduceToNat, Int.reducePow, IntKind.bits, Int.reduceEq, Int.reduceMul, Int.reduceNeg, ne_eq, reduceCtorEq, escT, BEq.rfl, beq_self_eq_true, Int.reduceAdd, Int.reduceSub, Int.reduceMod, Int.reduceDiv, Nat.reduceMod, Nat.reduceDiv, Nat.reduceLT, cond_true, cond_false, gt_iff_lt, ge_iff_le, bd_none, bd_some, bv_int, sa_arr, w1, k1, k2, h', List.length_map, gl, Int.le_refl, Nat.le_refl, Ytimdnnlfkkkpbaa.D63, ty1, ty2, ty3, ty4, ty22, ty24, ty34, ty36, ty95]
    refine loopC_of ?_
    simp (maxSteps := 2000000) only [wk0, wk1, wk2, wk3, keepA, keepT, Fr.keep, frzT, flatT, arrayAtA, ownT, extT, Fr.ev, Fr.put, Fr.get, initFr, buildSliceA, zeros, pkB, pkT, pkF, ownDst, Env.kd, ofConst, isConst, binA, intI, cmpI, shiftI, convertA, buildA, fillA, fillS, splice, AV.cells?, storeA, readAt, fieldAddrA, fieldA, indexA, extractA, unA, builtinA, appendA, lenA, sliceCells, isSliceK, makeInterfaceA, nilCheckA, eqA, AV.one, AV.plain, if_false, if_true, Nat.reduceEqDiff, reduceIte, Nat.reduceAdd, List.replicate, Nat.reduceLeDiff, Nat.reduceMul, Nat.reduceSub, Nat.reducePow, Int.reduceLT, Int.reduceLE, Int.reduceToNat, Int.reducePow, IntKind.bits, Int.reduceEq, Int.reduceMul, Int.reduceNeg, ne_eq, reduceCtorEq, escT, BEq.rfl, beq_self_eq_true, Int.reduceAdd, Int.reduceSub, Int.reduceMod, Int.reduceDiv, Nat.reduceMod, Nat.reduceDiv, Nat.reduceLT, cond_true, cond_false, gt_iff_lt, ge_iff_le, Ytimdnnlfkkkpbaa.D63, ty1, ty2, ty3, ty4, ty22, ty24, ty34, ty36, ty95]
    exact retB_plain (by simp [nmd_nili]) rfl (by simp)
  · have h' : ¬ (p : Int) = 36 := by omega
    have tz : ∀ k : Nat, k < 36 - p → (AV.int .i64 r :: AV.int .i64 c :: (gridP c f p).map fun x => AV.int .i64 x)[2 + p + k]? = some (.int .i64 0) := by
      intro k hk
      have := grid_tail r c f (p + k) (by omega) (by omega)
      rw [hp] at this
      rw [Nat.add_assoc]
      exact get38 this
    simp (maxSteps := 2000000) only [wk0, wk1, wk2, wk3, keepA, keepT, Fr.keep, frzT, flatT, arrayAtA, ownT, extT, Fr.ev, Fr.put, Fr.get, initFr, buildSliceA, zeros, pkB, pkT, pkF, ownDst, Env.kd, ofConst, isConst, binA, intI, cmpI, shiftI, convertA, buildA, fillA, fillS, splice, AV.cells?, storeA, readAt, fieldAddrA, fieldA, indexA, extractA, unA, builtinA, appendA, lenA, sliceCells, isSliceK, makeInterfaceA, nilCheckA, eqA, AV.one, AV.plain, if_false, if_true, Nat.reduceEqDiff, reduceIte, Nat.reduceAdd, List.replicate, Nat.reduceLeDiff, Nat.reduceMul, Nat.reduceSub, Nat.reducePow, Int.reduceLT, Int.reduceLE, Int.reduceToNat, Int.reducePow, IntKind.bits, Int.reduceEq, Int.reduceMul, Int.reduceNeg, ne_eq, reduceCtorEq, escT, BEq.rfl, beq_self_eq_true, Int.reduceAdd, Int.reduceSub, Int.reduceMod, Int.reduceDiv, Nat.reduceMod, Nat.reduceDiv, Nat.reduceLT, cond_true, cond_false, gt_iff_lt, ge_iff_le, bd_none, bd_some, bv_int, sa_arr, w1, k1, k2, h', List.length_map, gl, Int.le_refl, Nat.le_refl, Int.toNat_natCast, Nat.mul_one, Ytimdnnlfkkkpbaa.D63, ty1, ty2, ty3, ty4, ty22, ty24, ty34, ty36, ty95]
    refine loopC_ind (fun m fr H => ∃ k : Nat, k + m = 36 - p ∧ fr.get 24 = .int .i64 k ∧ fr.get 23 = .int .i64 ((36 - p : Nat) : Int) ∧ fr.get 22 = .sl S.length 0 (2 + p) (36 - p) (36 - p) 1 ∧ H = S ++ [some ⟨.int .i64 r :: .int .i64 c :: (gridP c f p).map fun x => .int .i64 x, 0⟩]) ?_ (n := 36 - p) ⟨0, by omega, rfl, rfl, rfl, rfl⟩
    rintro m fr H ⟨k, hkm, g24, g23, g22, rfl⟩ ih
    by_cases hk : (k : Int) < ((36 - p : Nat) : Int)
    · have q1 : (0 : Int) ≤ k := by omega
      have q2 := tz k (by omega)
      have wk : IntKind.i64.wrap ((k : Int) + 1) = ((k + 1 : Nat) : Int) := wrapI (by omega)
      simp (maxSteps := 2000000) only [wk0, wk1, wk2, wk3, keepA, keepT, Fr.keep, frzT, flatT, arrayAtA, ownT, extT, Fr.ev, Fr.put, Fr.get, initFr, buildSliceA, zeros, pkB, pkT, pkF, ownDst, Env.kd, ofConst, isConst, binA, intI, cmpI, shiftI, convertA, buildA, fillA, fillS, splice, AV.cells?, storeA, readAt, fieldAddrA, fieldA, indexA, extractA, unA, builtinA, appendA, lenA, sliceCells, isSliceK, makeInterfaceA, nilCheckA, eqA, AV.one, AV.plain, if_false, if_true, Nat.reduceEqDiff, reduceIte, Nat.reduceAdd, List.replicate, Nat.reduceLeDiff, Nat.reduceMul, Nat.reduceSub, Nat.reducePow, Int.reduceLT, Int.reduceLE, Int.reduceToNat, Int.reducePow, IntKind.bits, Int.reduceEq, Int.reduceMul, Int.reduceNeg, ne_eq, reduceCtorEq, escT, BEq.rfl, beq_self_eq_true, Int.reduceAdd, Int.reduceSub, Int.reduceMod, Int.reduceDiv, Nat.reduceMod, Nat.reduceDiv, Nat.reduceLT, cond_true, cond_false, gt_iff_lt, ge_iff_le, g24, g23, g22, hk, q1, q2, Int.toNat_natCast, Nat.mul_one, wk, Ytimdnnlfkkkpbaa.D63, ty1, ty2, ty3, ty4, ty22, ty24, ty34, ty36, ty95]
      exact ih (m - 1) _ _ (by omega) ⟨k + 1, by omega, by simp [Fr.get], by simp [Fr.get, g23], by simp [Fr.get, g22], rfl⟩
    · simp (maxSteps := 2000000) only [wk0, wk1, wk2, wk3, keepA, keepT, Fr.keep, frzT, flatT, arrayAtA, ownT, extT, Fr.ev, Fr.put, Fr.get, initFr, buildSliceA, zeros, pkB, pkT, pkF, ownDst, Env.kd, ofConst, isConst, binA, intI, cmpI, shiftI, convertA, buildA, fillA, fillS, splice, AV.cells?, storeA, readAt, fieldAddrA, fieldA, indexA, extractA, unA, builtinA, appendA, lenA, sliceCells, isSliceK, makeInterfaceA, nilCheckA, eqA, AV.one, AV.plain, if_false, if_true, Nat.reduceEqDiff, reduceIte, Nat.reduceAdd, List.replicate, Nat.reduceLeDiff, Nat.reduceMul, Nat.reduceSub, Nat.reducePow, Int.reduceLT, Int.reduceLE, Int.reduceToNat, Int.reducePow, IntKind.bits, Int.reduceEq, Int.reduceMul, Int.reduceNeg, ne_eq, reduceCtorEq, escT, BEq.rfl, beq_self_eq_true, Int.reduceAdd, Int.reduceSub, Int.reduceMod, Int.reduceDiv, Nat.reduceMod, Nat.reduceDiv, Nat.reduceLT, cond_true, cond_false, gt_iff_lt, ge_iff_le, g24, g23, g22, hk, Ytimdnnlfkkkpbaa.D63, ty1, ty2, ty3, ty4, ty22, ty24, ty34, ty36, ty95]
      exact retB_plain (by simp [nmd_nili]) rfl (by simp)
theorem turn1_ok (r c i j p : Nat) (f : Nat → Nat → Int) (S : Heap) (hr : r ≤ 6) (hc : c ≤ 6) (hi : i < c) (hj : j < r) (b1 : blkAt S p 0 = some ⟨.int .i64 r :: .int .i64 c :: (gridP c f (r * c)).map fun x => .int .i64 x, 0⟩) :
    Call theE 65 [.int .i64 i, .int .i64 j, .ptr p 0 0] S (.tup [.int .i64 (f j i), .bool false]) S := by
  have tk := take36 (gridP_len c f (r * c))
  have ha := at_mk r c j i f S hr hc hj hi
  simp only [mk, matA] at ha
  refine Call.ofC Try.func65 Ytimdnnlfkkkpbaa.b65 Ytimdnnlfkkkpbaa.d65 Ytimdnnlfkkkpbaa.e65 (by simp [Try.f65]) ?_
  dsimp only [Ytimdnnlfkkkpbaa.c65, Try.f65, Option.getD_some]
  simp (maxSteps := 2000000) only [wk0, wk1, wk2, wk3, keepA, keepT, Fr.keep, frzT, flatT, arrayAtA, ownT, extT, Fr.ev, Fr.put, Fr.get, initFr, buildSliceA, zeros, pkB, pkT, pkF, ownDst, Env.kd, ofConst, isConst, binA, intI, cmpI, shiftI, convertA, buildA, fillA, fillS, splice, AV.cells?, storeA, readAt, fieldAddrA, fieldA, indexA, extractA, unA, builtinA, appendA, lenA, sliceCells, isSliceK, makeInterfaceA, nilCheckA, eqA, AV.one, AV.plain, if_false, if_true, Nat.reduceEqDiff, reduceIte, Nat.reduceAdd, List.replicate, Nat.reduceLeDiff, Nat.reduceMul, Nat.reduceSub, Nat.reducePow, Int.reduceLT, Int.reduceLE, Int.reduceToNat, Int.reducePow, IntKind.bits, Int.reduceEq, Int.reduceMul, Int.reduceNeg, ne_eq, reduceCtorEq, escT, BEq.rfl, beq_self_eq_true, Int.reduceAdd, Int.reduceSub, Int.reduceMod, Int.reduceDiv, Nat.reduceMod, Nat.reduceDiv, Nat.reduceLT, cond_true, cond_false, gt_iff_lt, ge_iff_le, b1, List.length_map, gridP_len, tk, Ytimdnnlfkkkpbaa.D65, ty2, ty3, ty4, ty36]
  refine callThen_of ha ?_
  simp (maxSteps := 2000000) only [wk0, wk1, wk2, wk3, keepA, keepT, Fr.keep, frzT, flatT, arrayAtA, ownT, extT, Fr.ev, Fr.put, Fr.get, initFr, buildSliceA, zeros, pkB, pkT, pkF, ownDst, Env.kd, ofConst, isConst, binA, intI, cmpI, shiftI, convertA, buildA, fillA, fillS, splice, AV.cells?, storeA, readAt, fieldAddrA, fieldA, indexA, extractA, unA, builtinA, appendA, lenA, sliceCells, isSliceK, makeInterfaceA, nilCheckA, eqA, AV.one, AV.plain, if_false, if_true, Nat.reduceEqDiff, reduceIte, Nat.reduceAdd, List.replicate, Nat.reduceLeDiff, Nat.reduceMul, Nat.reduceSub, Nat.reducePow, Int.reduceLT, Int.reduceLE, Int.reduceToNat, Int.reducePow, IntKind.bits, Int.reduceEq, Int.reduceMul, Int.reduceNeg, ne_eq, reduceCtorEq, escT, BEq.rfl, beq_self_eq_true, Int.reduceAdd, Int.reduceSub, Int.reduceMod, Int.reduceDiv, Nat.reduceMod, Nat.reduceDiv, Nat.reduceLT, cond_true, cond_false, gt_iff_lt, ge_iff_le, Ytimdnnlfkkkpbaa.D65, ty2, ty3, ty4, ty36]
  exact retB_plain (by simp [nmd_int, nmd_bool]) rfl (by simp)
theorem turn_ok (r c : Nat) (f : Nat → Nat → Int) (S : Heap) (hr : 1 ≤ r ∧ r ≤ 6) (hc : 1 ≤ c ∧ c ≤ 6) : Call theE 19 [mk r c f] S (.tup [mk c r (fun i j => f j i), .nili]) S := by
  have tk := take36 (gridP_len c f (r * c))
  have tk2 := take36 (gridP_len r (fun i j => f j i) (c * r))
  have al : (List.map (fun x => AV.int .i64 x) (gridP r (fun i j => f j i) (c * r))).all AV.one = true := by simp [AV.one]
  have ck := fun S => check_ok r c f S hr hc
  have md := made_ok 65 [.ptr S.length 0 0] c r (fun i j => f j i) (fun _ _ => false) (S ++ [some ⟨.int .i64 r :: .int .i64 c :: (gridP c f (r * c)).map fun x => .int .i64 x, 0⟩, some ⟨zero38, 0⟩]) hc.2 hr.2 (by decide)
    (fun i j hi hj L => turn1_ok r c i j S.length f _ hr.2 hc.2 hi hj (by rw [List.append_assoc, blkAt_app0]; rfl))
  simp only [mk, matA, zero38, List.replicate] at ck md
  refine Call.ofC Try.func19 Ytimdnnlfkkkpbaa.b19 Ytimdnnlfkkkpbaa.d19 Ytimdnnlfkkkpbaa.e19 (by simp [Try.f19]) ?_
  dsimp only [Ytimdnnlfkkkpbaa.c19, Try.f19, Option.getD_some]
  simp (maxSteps := 2000000) only [wk0, wk1, wk2, wk3, keepA, keepT, Fr.keep, frzT, flatT, arrayAtA, ownT, extT, Fr.ev, Fr.put, Fr.get, initFr, buildSliceA, zeros, pkB, pkT, pkF, ownDst, Env.kd, ofConst, isConst, binA, intI, cmpI, shiftI, convertA, buildA, fillA, fillS, splice, AV.cells?, storeA, readAt, fieldAddrA, fieldA, indexA, extractA, unA, builtinA, appendA, lenA, sliceCells, isSliceK, makeInterfaceA, nilCheckA, eqA, AV.one, AV.plain, if_false, if_true, Nat.reduceEqDiff, reduceIte, Nat.reduceAdd, List.replicate, Nat.reduceLeDiff, Nat.reduceMul, Nat.reduceSub, Nat.reducePow, Int.reduceLT, Int.reduceLE, Int.reduceToNat, Int.reducePow, IntKind.bits, Int.reduceEq, Int.reduceMul, Int.reduceNeg, ne_eq, reduceCtorEq, escT, BEq.rfl, beq_self_eq_true, Int.reduceAdd, Int.reduceSub, Int.reduceMod, Int.reduceDiv, Nat.reduceMod, Nat.reduceDiv, Nat.reduceLT, cond_true, cond_false, gt_iff_lt, ge_iff_le, mk, matA, List.length_map, gridP_len, tk, Ytimdnnlfkkkpbaa.D19, ty1, ty3, ty4, ty24, ty36, ty109]
  refine callThen_of (ck _) ?_
  simp (maxSteps := 2000000) only [wk0, wk1, wk2, wk3, keepA, keepT, Fr.keep, frzT, flatT, arrayAtA, ownT, extT, Fr.ev, Fr.put, Fr.get, initFr, buildSliceA, zeros, pkB, pkT, pkF, ownDst, Env.kd, ofConst, isConst, binA, intI, cmpI, shiftI, convertA, buildA, fillA, fillS, splice, AV.cells?, storeA, readAt, fieldAddrA, fieldA, indexA, extractA, unA, builtinA, appendA, lenA, sliceCells, isSliceK, makeInterfaceA, nilCheckA, eqA, AV.one, AV.plain, if_false, if_true, Nat.reduceEqDiff, reduceIte, Nat.reduceAdd, List.replicate, Nat.reduceLeDiff, Nat.reduceMul, Nat.reduceSub, Nat.reducePow, Int.reduceLT, Int.reduceLE, Int.reduceToNat, Int.reducePow, IntKind.bits, Int.reduceEq, Int.reduceMul, Int.reduceNeg, ne_eq, reduceCtorEq, escT, BEq.rfl, beq_self_eq_true, Int.reduceAdd, Int.reduceSub, Int.reduceMod, Int.reduceDiv, Nat.reduceMod, Nat.reduceDiv, Nat.reduceLT, cond_true, cond_false, gt_iff_lt, ge_iff_le, Ytimdnnlfkkkpbaa.D19, ty1, ty3, ty4, ty24, ty36, ty109]
  refine callThen_of md ?_
  simp (maxSteps := 2000000) only [wk0, wk1, wk2, wk3, keepA, keepT, Fr.keep, frzT, flatT, arrayAtA, ownT, extT, Fr.ev, Fr.put, Fr.get, initFr, buildSliceA, zeros, pkB, pkT, pkF, ownDst, Env.kd, ofConst, isConst, binA, intI, cmpI, shiftI, convertA, buildA, fillA, fillS, splice, AV.cells?, storeA, readAt, fieldAddrA, fieldA, indexA, extractA, unA, builtinA, appendA, lenA, sliceCells, isSliceK, makeInterfaceA, nilCheckA, eqA, AV.one, AV.plain, if_false, if_true, Nat.reduceEqDiff, reduceIte, Nat.reduceAdd, List.replicate, Nat.reduceLeDiff, Nat.reduceMul, Nat.reduceSub, Nat.reducePow, Int.reduceLT, Int.reduceLE, Int.reduceToNat, Int.reducePow, IntKind.bits, Int.reduceEq, Int.reduceMul, Int.reduceNeg, ne_eq, reduceCtorEq, escT, BEq.rfl, beq_self_eq_true, Int.reduceAdd, Int.reduceSub, Int.reduceMod, Int.reduceDiv, Nat.reduceMod, Nat.reduceDiv, Nat.reduceLT, cond_true, cond_false, gt_iff_lt, ge_iff_le, List.length_map, gridP_len, tk2, al, Ytimdnnlfkkkpbaa.D19, ty1, ty3, ty4, ty24, ty36, ty109]
  exact retB_plain (by simp [nmd_agg, nmd_int, nmd_nili]) (by simp [packA]) (by simp)
end Go.Proofs.Ytimdnnlfkkkpbaa
