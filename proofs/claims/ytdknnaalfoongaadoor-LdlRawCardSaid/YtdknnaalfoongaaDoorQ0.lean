/- qnum: the sums of 192 bits. -/
import Derived.Test.YtdknnaalfoongaaDoorB0
set_option linter.unusedSimpArgs false
set_option linter.unusedVariables false
set_option maxRecDepth 100000
set_option maxHeartbeats 4000000
namespace Go.Proofs.YtdknnaalfoongaaDoor
def w0 (z : Int) : Int := z % 18446744073709551616
def w1 (z : Int) : Int := z / 18446744073709551616 % 18446744073709551616
def w2 (z : Int) : Int := z / 18446744073709551616 / 18446744073709551616 % 18446744073709551616
def enc3 (z : Int) : AV := .agg [.int .u64 (w0 z), .int .u64 (w1 z), .int .u64 (w2 z)]
theorem w0_in (z : Int) : 0 ≤ w0 z ∧ w0 z < 18446744073709551616 := by unfold w0; omega
theorem w1_in (z : Int) : 0 ≤ w1 z ∧ w1 z < 18446744073709551616 := by unfold w1; omega
theorem w2_in (z : Int) : 0 ≤ w2 z ∧ w2 z < 18446744073709551616 := by unfold w2; omega
noncomputable def c72 : Code := Tryd.f72.body.getD .skip
theorem b72 : Tryd.f72.body = some c72 := rfl
theorem d72 : fnOk Tryd.f72 c72 = true := by kernel_rfl
def D72 : Nat → List Tag := fun _ => []
theorem e72 : drawsOk D72 c72 = true := by kernel_rfl
noncomputable def c73 : Code := Tryd.f73.body.getD .skip
theorem b73 : Tryd.f73.body = some c73 := rfl
theorem d73 : fnOk Tryd.f73 c73 = true := by kernel_rfl
def D73 : Nat → List Tag
  | 5 => [.pure, .pure, .pure, .quiet, .pure, .pure, .quiet, .pure, .pure, .pure, .pure, .pure, .pure, .seq, .pure]
  | _ => []
theorem e73 : drawsOk D73 c73 = true := by kernel_rfl
noncomputable def c68 : Code := Tryd.f68.body.getD .skip
theorem b68 : Tryd.f68.body = some c68 := rfl
theorem d68 : fnOk Tryd.f68 c68 = true := by kernel_rfl
def D68 : Nat → List Tag := fun _ => []
theorem e68 : drawsOk D68 c68 = true := by kernel_rfl
noncomputable def c105 : Code := Tryd.f105.body.getD .skip
theorem b105 : Tryd.f105.body = some c105 := rfl
theorem d105 : fnOk Tryd.f105 c105 = true := by kernel_rfl
def D105 : Nat → List Tag := fun _ => []
theorem e105 : drawsOk D105 c105 = true := by kernel_rfl
noncomputable def c69 : Code := Tryd.f69.body.getD .skip
theorem b69 : Tryd.f69.body = some c69 := rfl
theorem d69 : fnOk Tryd.f69 c69 = true := by kernel_rfl
def D69 : Nat → List Tag
  | 1 => [.quiet, .quiet, .quiet, .fresh, .seq]
  | 2 => [.quiet, .quiet, .quiet, .fresh, .seq]
  | _ => []
theorem e69 : drawsOk D69 c69 = true := by kernel_rfl
theorem of_ok (a : Int) (S : Heap) (ha : -9223372036854775808 ≤ a ∧ a < 9223372036854775808) : Call theE 72 [.int .i64 a] S (enc3 a) S := by
  refine Call.ofC Tryd.func72 YtdknnaalfoongaaDoor.b72 YtdknnaalfoongaaDoor.d72 YtdknnaalfoongaaDoor.e72 (by simp [Tryd.f72]) ?_
  dsimp only [YtdknnaalfoongaaDoor.c72, Tryd.f72, Option.getD_some]
  simp (maxSteps := 2000000) only [wk0, wk1, wk2, wk3, wk4, wk5, Fr.ev, Fr.put, Fr.get, pkB, pkT, pkF, storeA, if_false, if_true, Nat.reduceEqDiff, reduceIte, Nat.reduceAdd, List.replicate, Nat.reduceLeDiff, Nat.reduceMul, Nat.reduceSub, Nat.reducePow, Int.reduceLT, Int.reduceLE, Int.reduceToNat, Int.reducePow, IntKind.bits, Int.reduceEq, Int.reduceMul, Int.reduceNeg, ne_eq, reduceCtorEq, BEq.rfl, beq_self_eq_true, Int.reduceAdd, Int.reduceSub, Int.reduceMod, Int.reduceDiv, Nat.reduceMod, Nat.reduceDiv, Nat.reduceLT, cond_true, cond_false, gt_iff_lt, ge_iff_le, YtdknnaalfoongaaDoor.D72, ty2, ty64, ty122, ty127]
  refine retB_plain (by simp [nmd_agg, nmd_int]) ?_ (by simp)
  have h : a.fdiv 9223372036854775808 = a / 9223372036854775808 := Int.fdiv_eq_ediv_of_nonneg a (by decide)
  simp only [packA, enc3, w0, w1, w2, h, wrapU64]
  have e1 : a / 9223372036854775808 % 18446744073709551616 = a / 18446744073709551616 % 18446744073709551616 := by omega
  have e2 : a / 9223372036854775808 % 18446744073709551616 = a / 18446744073709551616 / 18446744073709551616 % 18446744073709551616 := by
    rcases Int.lt_or_le a 0 with h | h
    · rw [show a / 9223372036854775808 = -1 by omega, show a / 18446744073709551616 / 18446744073709551616 = -1 by omega]
    · rw [show a / 9223372036854775808 = 0 by omega, show a / 18446744073709551616 / 18446744073709551616 = 0 by omega]
  rw [← e2, ← e1]
theorem plus_raw (x0 x1 x2 y0 y1 y2 : Int) (S : Heap) (hx0 : 0 ≤ x0 ∧ x0 < 18446744073709551616) (hx1 : 0 ≤ x1 ∧ x1 < 18446744073709551616) (hx2 : 0 ≤ x2 ∧ x2 < 18446744073709551616)
    (hy0 : 0 ≤ y0 ∧ y0 < 18446744073709551616) (hy1 : 0 ≤ y1 ∧ y1 < 18446744073709551616) (hy2 : 0 ≤ y2 ∧ y2 < 18446744073709551616) :
    Call theE 73 [.agg [.int .u64 x0, .int .u64 x1, .int .u64 x2], .agg [.int .u64 y0, .int .u64 y1, .int .u64 y2]] S
      (.agg [.int .u64 ((x0 + y0 + 0) % 18446744073709551616), .int .u64 ((x1 + y1 + (x0 + y0 + 0) / 18446744073709551616) % 18446744073709551616),
        .int .u64 ((x2 + y2 + (x1 + y1 + (x0 + y0 + 0) / 18446744073709551616) / 18446744073709551616) % 18446744073709551616)]) S := by
  have a0 := add64A_ok (x := x0) (y := y0) (c := 0) hx0.1 hy0.1 (by decide) (by decide)
  have a1 := add64A_ok (x := x1) (y := y1) (c := (x0 + y0 + 0) / 18446744073709551616) hx1.1 hy1.1 (by omega) (by omega)
  have a2 := add64A_ok (x := x2) (y := y2) (c := (x1 + y1 + (x0 + y0 + 0) / 18446744073709551616) / 18446744073709551616) hx2.1 hy2.1 (by omega) (by omega)
  refine Call.ofC Tryd.func73 YtdknnaalfoongaaDoor.b73 YtdknnaalfoongaaDoor.d73 YtdknnaalfoongaaDoor.e73 (by simp [Tryd.f73]) ?_
  dsimp only [YtdknnaalfoongaaDoor.c73, Tryd.f73, Option.getD_some]
  simp (maxSteps := 2000000) only [wk0, wk1, wk2, wk3, wk4, wk5, Fr.ev, Fr.put, Fr.get, pkB, pkT, pkF, storeA, if_false, if_true, Nat.reduceEqDiff, reduceIte, Nat.reduceAdd, List.replicate, Nat.reduceLeDiff, Nat.reduceMul, Nat.reduceSub, Nat.reducePow, Int.reduceLT, Int.reduceLE, Int.reduceToNat, Int.reducePow, IntKind.bits, Int.reduceEq, Int.reduceMul, Int.reduceNeg, ne_eq, reduceCtorEq, BEq.rfl, beq_self_eq_true, Int.reduceAdd, Int.reduceSub, Int.reduceMod, Int.reduceDiv, Nat.reduceMod, Nat.reduceDiv, Nat.reduceLT, cond_true, cond_false, gt_iff_lt, ge_iff_le, YtdknnaalfoongaaDoor.D73, ty3, ty122, ty127]
  refine loopC_of ?_
  simp (maxSteps := 2000000) only [wk0, wk1, wk2, wk3, wk4, wk5, Fr.ev, Fr.put, Fr.get, pkB, pkT, pkF, storeA, if_false, if_true, Nat.reduceEqDiff, reduceIte, Nat.reduceAdd, List.replicate, Nat.reduceLeDiff, Nat.reduceMul, Nat.reduceSub, Nat.reducePow, Int.reduceLT, Int.reduceLE, Int.reduceToNat, Int.reducePow, IntKind.bits, Int.reduceEq, Int.reduceMul, Int.reduceNeg, ne_eq, reduceCtorEq, BEq.rfl, beq_self_eq_true, Int.reduceAdd, Int.reduceSub, Int.reduceMod, Int.reduceDiv, Nat.reduceMod, Nat.reduceDiv, Nat.reduceLT, cond_true, cond_false, gt_iff_lt, ge_iff_le, a0, YtdknnaalfoongaaDoor.D73, ty3, ty122, ty127]
  refine loopC_of ?_
  simp (maxSteps := 2000000) only [wk0, wk1, wk2, wk3, wk4, wk5, Fr.ev, Fr.put, Fr.get, pkB, pkT, pkF, storeA, if_false, if_true, Nat.reduceEqDiff, reduceIte, Nat.reduceAdd, List.replicate, Nat.reduceLeDiff, Nat.reduceMul, Nat.reduceSub, Nat.reducePow, Int.reduceLT, Int.reduceLE, Int.reduceToNat, Int.reducePow, IntKind.bits, Int.reduceEq, Int.reduceMul, Int.reduceNeg, ne_eq, reduceCtorEq, BEq.rfl, beq_self_eq_true, Int.reduceAdd, Int.reduceSub, Int.reduceMod, Int.reduceDiv, Nat.reduceMod, Nat.reduceDiv, Nat.reduceLT, cond_true, cond_false, gt_iff_lt, ge_iff_le, a1, YtdknnaalfoongaaDoor.D73, ty3, ty122, ty127]
  refine loopC_of ?_
  simp (maxSteps := 2000000) only [wk0, wk1, wk2, wk3, wk4, wk5, Fr.ev, Fr.put, Fr.get, pkB, pkT, pkF, storeA, if_false, if_true, Nat.reduceEqDiff, reduceIte, Nat.reduceAdd, List.replicate, Nat.reduceLeDiff, Nat.reduceMul, Nat.reduceSub, Nat.reducePow, Int.reduceLT, Int.reduceLE, Int.reduceToNat, Int.reducePow, IntKind.bits, Int.reduceEq, Int.reduceMul, Int.reduceNeg, ne_eq, reduceCtorEq, BEq.rfl, beq_self_eq_true, Int.reduceAdd, Int.reduceSub, Int.reduceMod, Int.reduceDiv, Nat.reduceMod, Nat.reduceDiv, Nat.reduceLT, cond_true, cond_false, gt_iff_lt, ge_iff_le, a2, YtdknnaalfoongaaDoor.D73, ty3, ty122, ty127]
  refine loopC_of ?_
  simp (maxSteps := 2000000) only [wk0, wk1, wk2, wk3, wk4, wk5, Fr.ev, Fr.put, Fr.get, pkB, pkT, pkF, storeA, if_false, if_true, Nat.reduceEqDiff, reduceIte, Nat.reduceAdd, List.replicate, Nat.reduceLeDiff, Nat.reduceMul, Nat.reduceSub, Nat.reducePow, Int.reduceLT, Int.reduceLE, Int.reduceToNat, Int.reducePow, IntKind.bits, Int.reduceEq, Int.reduceMul, Int.reduceNeg, ne_eq, reduceCtorEq, BEq.rfl, beq_self_eq_true, Int.reduceAdd, Int.reduceSub, Int.reduceMod, Int.reduceDiv, Nat.reduceMod, Nat.reduceDiv, Nat.reduceLT, cond_true, cond_false, gt_iff_lt, ge_iff_le, YtdknnaalfoongaaDoor.D73, ty3, ty122, ty127]
  exact retB_plain (by simp [nmd_agg, nmd_int]) rfl (by simp)
theorem enc_add (x y : Int) : AV.agg [.int .u64 ((x % 18446744073709551616 + y % 18446744073709551616 + 0) % 18446744073709551616),
      .int .u64 ((x / 18446744073709551616 % 18446744073709551616 + y / 18446744073709551616 % 18446744073709551616 + (x % 18446744073709551616 + y % 18446744073709551616 + 0) / 18446744073709551616) % 18446744073709551616),
      .int .u64 ((x / 18446744073709551616 / 18446744073709551616 % 18446744073709551616 + y / 18446744073709551616 / 18446744073709551616 % 18446744073709551616 +
        (x / 18446744073709551616 % 18446744073709551616 + y / 18446744073709551616 % 18446744073709551616 + (x % 18446744073709551616 + y % 18446744073709551616 + 0) / 18446744073709551616) / 18446744073709551616) % 18446744073709551616)] = enc3 (x + y) := by
  have e0 : (x % 18446744073709551616 + y % 18446744073709551616 + 0) % 18446744073709551616 = (x + y) % 18446744073709551616 := by omega
  have e1 : (x / 18446744073709551616 % 18446744073709551616 + y / 18446744073709551616 % 18446744073709551616 + (x % 18446744073709551616 + y % 18446744073709551616 + 0) / 18446744073709551616) % 18446744073709551616 = (x + y) / 18446744073709551616 % 18446744073709551616 := by omega
  have e2 : (x / 18446744073709551616 / 18446744073709551616 % 18446744073709551616 + y / 18446744073709551616 / 18446744073709551616 % 18446744073709551616 +
        (x / 18446744073709551616 % 18446744073709551616 + y / 18446744073709551616 % 18446744073709551616 + (x % 18446744073709551616 + y % 18446744073709551616 + 0) / 18446744073709551616) / 18446744073709551616) % 18446744073709551616 = (x + y) / 18446744073709551616 / 18446744073709551616 % 18446744073709551616 := by omega
  rw [e0, e1, e2]; rfl
theorem plus_ok (x y : Int) (S : Heap) : Call theE 73 [enc3 x, enc3 y] S (enc3 (x + y)) S := by
  rw [← enc_add]
  exact plus_raw _ _ _ _ _ _ S (w0_in x) (w1_in x) (w2_in x) (w0_in y) (w1_in y) (w2_in y)
theorem neg_raw (x0 x1 x2 : Int) (S : Heap) (hx0 : 0 ≤ x0 ∧ x0 < 18446744073709551616) (hx1 : 0 ≤ x1 ∧ x1 < 18446744073709551616) (hx2 : 0 ≤ x2 ∧ x2 < 18446744073709551616) :
    Call theE 68 [.agg [.int .u64 x0, .int .u64 x1, .int .u64 x2]] S
      (.agg [.int .u64 ((18446744073709551615 - x0 + 0 + 1) % 18446744073709551616), .int .u64 ((18446744073709551615 - x1 + 0 + (18446744073709551615 - x0 + 0 + 1) / 18446744073709551616) % 18446744073709551616),
        .int .u64 ((18446744073709551615 - x2 + 0 + (18446744073709551615 - x1 + 0 + (18446744073709551615 - x0 + 0 + 1) / 18446744073709551616) / 18446744073709551616) % 18446744073709551616)]) S := by
  have a0 := add64A_ok (x := 18446744073709551615 - x0) (y := 0) (c := 1) (by omega) (by decide) (by decide) (by decide)
  have a1 := add64A_ok (x := 18446744073709551615 - x1) (y := 0) (c := (18446744073709551615 - x0 + 0 + 1) / 18446744073709551616) (by omega) (by omega) (by omega) (by omega)
  have a2 := add64A_ok (x := 18446744073709551615 - x2) (y := 0) (c := (18446744073709551615 - x1 + 0 + (18446744073709551615 - x0 + 0 + 1) / 18446744073709551616) / 18446744073709551616) (by omega) (by omega) (by omega) (by omega)
  have n0 := notU hx0
  have n1 := notU hx1
  have n2 := notU hx2
  refine Call.ofC Tryd.func68 YtdknnaalfoongaaDoor.b68 YtdknnaalfoongaaDoor.d68 YtdknnaalfoongaaDoor.e68 (by simp [Tryd.f68]) ?_
  dsimp only [YtdknnaalfoongaaDoor.c68, Tryd.f68, Option.getD_some]
  simp (maxSteps := 2000000) only [wk0, wk1, wk2, wk3, wk4, wk5, Fr.ev, Fr.put, Fr.get, pkB, pkT, pkF, storeA, if_false, if_true, Nat.reduceEqDiff, reduceIte, Nat.reduceAdd, List.replicate, Nat.reduceLeDiff, Nat.reduceMul, Nat.reduceSub, Nat.reducePow, Int.reduceLT, Int.reduceLE, Int.reduceToNat, Int.reducePow, IntKind.bits, Int.reduceEq, Int.reduceMul, Int.reduceNeg, ne_eq, reduceCtorEq, BEq.rfl, beq_self_eq_true, Int.reduceAdd, Int.reduceSub, Int.reduceMod, Int.reduceDiv, Nat.reduceMod, Nat.reduceDiv, Nat.reduceLT, cond_true, cond_false, gt_iff_lt, ge_iff_le, YtdknnaalfoongaaDoor.D68, ty3, ty122, ty127]
  refine loopC_of ?_
  simp (maxSteps := 2000000) only [wk0, wk1, wk2, wk3, wk4, wk5, Fr.ev, Fr.put, Fr.get, pkB, pkT, pkF, storeA, if_false, if_true, Nat.reduceEqDiff, reduceIte, Nat.reduceAdd, List.replicate, Nat.reduceLeDiff, Nat.reduceMul, Nat.reduceSub, Nat.reducePow, Int.reduceLT, Int.reduceLE, Int.reduceToNat, Int.reducePow, IntKind.bits, Int.reduceEq, Int.reduceMul, Int.reduceNeg, ne_eq, reduceCtorEq, BEq.rfl, beq_self_eq_true, Int.reduceAdd, Int.reduceSub, Int.reduceMod, Int.reduceDiv, Nat.reduceMod, Nat.reduceDiv, Nat.reduceLT, cond_true, cond_false, gt_iff_lt, ge_iff_le, a0, n0, YtdknnaalfoongaaDoor.D68, ty3, ty122, ty127]
  refine loopC_of ?_
  simp (maxSteps := 2000000) only [wk0, wk1, wk2, wk3, wk4, wk5, Fr.ev, Fr.put, Fr.get, pkB, pkT, pkF, storeA, if_false, if_true, Nat.reduceEqDiff, reduceIte, Nat.reduceAdd, List.replicate, Nat.reduceLeDiff, Nat.reduceMul, Nat.reduceSub, Nat.reducePow, Int.reduceLT, Int.reduceLE, Int.reduceToNat, Int.reducePow, IntKind.bits, Int.reduceEq, Int.reduceMul, Int.reduceNeg, ne_eq, reduceCtorEq, BEq.rfl, beq_self_eq_true, Int.reduceAdd, Int.reduceSub, Int.reduceMod, Int.reduceDiv, Nat.reduceMod, Nat.reduceDiv, Nat.reduceLT, cond_true, cond_false, gt_iff_lt, ge_iff_le, a1, n1, YtdknnaalfoongaaDoor.D68, ty3, ty122, ty127]
  refine loopC_of ?_
  simp (maxSteps := 2000000) only [wk0, wk1, wk2, wk3, wk4, wk5, Fr.ev, Fr.put, Fr.get, pkB, pkT, pkF, storeA, if_false, if_true, Nat.reduceEqDiff, reduceIte, Nat.reduceAdd, List.replicate, Nat.reduceLeDiff, Nat.reduceMul, Nat.reduceSub, Nat.reducePow, Int.reduceLT, Int.reduceLE, Int.reduceToNat, Int.reducePow, IntKind.bits, Int.reduceEq, Int.reduceMul, Int.reduceNeg, ne_eq, reduceCtorEq, BEq.rfl, beq_self_eq_true, Int.reduceAdd, Int.reduceSub, Int.reduceMod, Int.reduceDiv, Nat.reduceMod, Nat.reduceDiv, Nat.reduceLT, cond_true, cond_false, gt_iff_lt, ge_iff_le, a2, n2, YtdknnaalfoongaaDoor.D68, ty3, ty122, ty127]
  refine loopC_of ?_
  simp (maxSteps := 2000000) only [wk0, wk1, wk2, wk3, wk4, wk5, Fr.ev, Fr.put, Fr.get, pkB, pkT, pkF, storeA, if_false, if_true, Nat.reduceEqDiff, reduceIte, Nat.reduceAdd, List.replicate, Nat.reduceLeDiff, Nat.reduceMul, Nat.reduceSub, Nat.reducePow, Int.reduceLT, Int.reduceLE, Int.reduceToNat, Int.reducePow, IntKind.bits, Int.reduceEq, Int.reduceMul, Int.reduceNeg, ne_eq, reduceCtorEq, BEq.rfl, beq_self_eq_true, Int.reduceAdd, Int.reduceSub, Int.reduceMod, Int.reduceDiv, Nat.reduceMod, Nat.reduceDiv, Nat.reduceLT, cond_true, cond_false, gt_iff_lt, ge_iff_le, YtdknnaalfoongaaDoor.D68, ty3, ty122, ty127]
  exact retB_plain (by simp [nmd_agg, nmd_int]) rfl (by simp)
theorem enc_neg (x : Int) : AV.agg [.int .u64 ((18446744073709551615 - x % 18446744073709551616 + 0 + 1) % 18446744073709551616), .int .u64 ((18446744073709551615 - x / 18446744073709551616 % 18446744073709551616 + 0 + (18446744073709551615 - x % 18446744073709551616 + 0 + 1) / 18446744073709551616) % 18446744073709551616),
        .int .u64 ((18446744073709551615 - x / 18446744073709551616 / 18446744073709551616 % 18446744073709551616 + 0 + (18446744073709551615 - x / 18446744073709551616 % 18446744073709551616 + 0 + (18446744073709551615 - x % 18446744073709551616 + 0 + 1) / 18446744073709551616) / 18446744073709551616) % 18446744073709551616)] = enc3 (-x) := by
  have e0 : (18446744073709551615 - x % 18446744073709551616 + 0 + 1) % 18446744073709551616 = (-x) % 18446744073709551616 := by omega
  have e1 : (18446744073709551615 - x / 18446744073709551616 % 18446744073709551616 + 0 + (18446744073709551615 - x % 18446744073709551616 + 0 + 1) / 18446744073709551616) % 18446744073709551616 = (-x) / 18446744073709551616 % 18446744073709551616 := by omega
  have e2 : (18446744073709551615 - x / 18446744073709551616 / 18446744073709551616 % 18446744073709551616 + 0 + (18446744073709551615 - x / 18446744073709551616 % 18446744073709551616 + 0 + (18446744073709551615 - x % 18446744073709551616 + 0 + 1) / 18446744073709551616) / 18446744073709551616) % 18446744073709551616 = (-x) / 18446744073709551616 / 18446744073709551616 % 18446744073709551616 := by omega
  rw [e0, e1, e2]; rfl
theorem neg_ok (x : Int) (S : Heap) : Call theE 68 [enc3 x] S (enc3 (-x)) S := by
  rw [← enc_neg]
  exact neg_raw _ _ _ S (w0_in x) (w1_in x) (w2_in x)
theorem below_raw (x0 x1 x2 : Int) (S : Heap) (hx2 : 0 ≤ x2 ∧ x2 < 18446744073709551616) :
    Call theE 105 [.agg [.int .u64 x0, .int .u64 x1, .int .u64 x2]] S (.bool (decide (x2.fdiv 9223372036854775808 = 1))) S := by
  refine Call.ofC Tryd.func105 YtdknnaalfoongaaDoor.b105 YtdknnaalfoongaaDoor.d105 YtdknnaalfoongaaDoor.e105 (by simp [Tryd.f105]) ?_
  dsimp only [YtdknnaalfoongaaDoor.c105, Tryd.f105, Option.getD_some]
  simp (maxSteps := 2000000) only [wk0, wk1, wk2, wk3, wk4, wk5, Fr.ev, Fr.put, Fr.get, pkB, pkT, pkF, storeA, if_false, if_true, Nat.reduceEqDiff, reduceIte, Nat.reduceAdd, List.replicate, Nat.reduceLeDiff, Nat.reduceMul, Nat.reduceSub, Nat.reducePow, Int.reduceLT, Int.reduceLE, Int.reduceToNat, Int.reducePow, IntKind.bits, Int.reduceEq, Int.reduceMul, Int.reduceNeg, ne_eq, reduceCtorEq, BEq.rfl, beq_self_eq_true, Int.reduceAdd, Int.reduceSub, Int.reduceMod, Int.reduceDiv, Nat.reduceMod, Nat.reduceDiv, Nat.reduceLT, cond_true, cond_false, gt_iff_lt, ge_iff_le, YtdknnaalfoongaaDoor.D105, ty4, ty64, ty122, ty127]
  exact retB_plain (by simp [nmd_bool]) rfl (by simp)
theorem below_ok (x : Int) (S : Heap) (hx : -3138550867693340381917894711603833208051177722232017256448 ≤ x ∧ x < 3138550867693340381917894711603833208051177722232017256448) :
    Call theE 105 [enc3 x] S (.bool (decide (x < 0))) S := by
  have h : decide (x < 0) = decide ((x / 18446744073709551616 / 18446744073709551616 % 18446744073709551616).fdiv 9223372036854775808 = 1) := by
    rw [shr0 (by decide)]
    congr 1
    apply propext
    omega
  rw [h]
  exact below_raw _ _ _ S (w2_in x)
theorem bounded_ok (x : Int) (S : Heap) (hx : -1569275433846670190958947355801916604025588861116008628224 ≤ x ∧ x < 1569275433846670190958947355801916604025588861116008628224) :
    Call theE 69 [enc3 x] S (.tup [.int .i64 (bndI x), .bool (ovrB x)]) S := by
  refine Call.ofC Tryd.func69 YtdknnaalfoongaaDoor.b69 YtdknnaalfoongaaDoor.d69 YtdknnaalfoongaaDoor.e69 (by simp [Tryd.f69]) ?_
  dsimp only [YtdknnaalfoongaaDoor.c69, Tryd.f69, Option.getD_some]
  simp (maxSteps := 2000000) only [wk0, wk1, wk2, wk3, wk4, wk5, Fr.ev, Fr.put, Fr.get, pkB, pkT, pkF, storeA, if_false, if_true, Nat.reduceEqDiff, reduceIte, Nat.reduceAdd, List.replicate, Nat.reduceLeDiff, Nat.reduceMul, Nat.reduceSub, Nat.reducePow, Int.reduceLT, Int.reduceLE, Int.reduceToNat, Int.reducePow, IntKind.bits, Int.reduceEq, Int.reduceMul, Int.reduceNeg, ne_eq, reduceCtorEq, BEq.rfl, beq_self_eq_true, Int.reduceAdd, Int.reduceSub, Int.reduceMod, Int.reduceDiv, Nat.reduceMod, Nat.reduceDiv, Nat.reduceLT, cond_true, cond_false, gt_iff_lt, ge_iff_le, enc3, YtdknnaalfoongaaDoor.D69, ty2, ty4, ty122, ty127]
  refine callThen_of (of_ok 4611686018427387903 _ (by decide)) ?_
  simp (maxSteps := 2000000) only [wk0, wk1, wk2, wk3, wk4, wk5, Fr.ev, Fr.put, Fr.get, pkB, pkT, pkF, storeA, if_false, if_true, Nat.reduceEqDiff, reduceIte, Nat.reduceAdd, List.replicate, Nat.reduceLeDiff, Nat.reduceMul, Nat.reduceSub, Nat.reducePow, Int.reduceLT, Int.reduceLE, Int.reduceToNat, Int.reducePow, IntKind.bits, Int.reduceEq, Int.reduceMul, Int.reduceNeg, ne_eq, reduceCtorEq, BEq.rfl, beq_self_eq_true, Int.reduceAdd, Int.reduceSub, Int.reduceMod, Int.reduceDiv, Nat.reduceMod, Nat.reduceDiv, Nat.reduceLT, cond_true, cond_false, gt_iff_lt, ge_iff_le, enc3, YtdknnaalfoongaaDoor.D69, ty2, ty4, ty122, ty127]
  refine callThen_of (plus_ok _ _ _) ?_
  simp (maxSteps := 2000000) only [wk0, wk1, wk2, wk3, wk4, wk5, Fr.ev, Fr.put, Fr.get, pkB, pkT, pkF, storeA, if_false, if_true, Nat.reduceEqDiff, reduceIte, Nat.reduceAdd, List.replicate, Nat.reduceLeDiff, Nat.reduceMul, Nat.reduceSub, Nat.reducePow, Int.reduceLT, Int.reduceLE, Int.reduceToNat, Int.reducePow, IntKind.bits, Int.reduceEq, Int.reduceMul, Int.reduceNeg, ne_eq, reduceCtorEq, BEq.rfl, beq_self_eq_true, Int.reduceAdd, Int.reduceSub, Int.reduceMod, Int.reduceDiv, Nat.reduceMod, Nat.reduceDiv, Nat.reduceLT, cond_true, cond_false, gt_iff_lt, ge_iff_le, enc3, YtdknnaalfoongaaDoor.D69, ty2, ty4, ty122, ty127]
  refine callThen_of (of_ok (-4611686018427387904) _ (by decide)) ?_
  simp (maxSteps := 2000000) only [wk0, wk1, wk2, wk3, wk4, wk5, Fr.ev, Fr.put, Fr.get, pkB, pkT, pkF, storeA, if_false, if_true, Nat.reduceEqDiff, reduceIte, Nat.reduceAdd, List.replicate, Nat.reduceLeDiff, Nat.reduceMul, Nat.reduceSub, Nat.reducePow, Int.reduceLT, Int.reduceLE, Int.reduceToNat, Int.reducePow, IntKind.bits, Int.reduceEq, Int.reduceMul, Int.reduceNeg, ne_eq, reduceCtorEq, BEq.rfl, beq_self_eq_true, Int.reduceAdd, Int.reduceSub, Int.reduceMod, Int.reduceDiv, Nat.reduceMod, Nat.reduceDiv, Nat.reduceLT, cond_true, cond_false, gt_iff_lt, ge_iff_le, enc3, YtdknnaalfoongaaDoor.D69, ty2, ty4, ty122, ty127]
  refine callThen_of (plus_ok _ _ _) ?_
  simp (maxSteps := 2000000) only [wk0, wk1, wk2, wk3, wk4, wk5, Fr.ev, Fr.put, Fr.get, pkB, pkT, pkF, storeA, if_false, if_true, Nat.reduceEqDiff, reduceIte, Nat.reduceAdd, List.replicate, Nat.reduceLeDiff, Nat.reduceMul, Nat.reduceSub, Nat.reducePow, Int.reduceLT, Int.reduceLE, Int.reduceToNat, Int.reducePow, IntKind.bits, Int.reduceEq, Int.reduceMul, Int.reduceNeg, ne_eq, reduceCtorEq, BEq.rfl, beq_self_eq_true, Int.reduceAdd, Int.reduceSub, Int.reduceMod, Int.reduceDiv, Nat.reduceMod, Nat.reduceDiv, Nat.reduceLT, cond_true, cond_false, gt_iff_lt, ge_iff_le, enc3, YtdknnaalfoongaaDoor.D69, ty2, ty4, ty122, ty127]
  refine callThen_of (below_ok (x + 4611686018427387903) _ (by omega)) ?_
  by_cases h : x + 4611686018427387903 < 0
  · simp (maxSteps := 2000000) only [wk0, wk1, wk2, wk3, wk4, wk5, Fr.ev, Fr.put, Fr.get, pkB, pkT, pkF, storeA, if_false, if_true, Nat.reduceEqDiff, reduceIte, Nat.reduceAdd, List.replicate, Nat.reduceLeDiff, Nat.reduceMul, Nat.reduceSub, Nat.reducePow, Int.reduceLT, Int.reduceLE, Int.reduceToNat, Int.reducePow, IntKind.bits, Int.reduceEq, Int.reduceMul, Int.reduceNeg, ne_eq, reduceCtorEq, BEq.rfl, beq_self_eq_true, Int.reduceAdd, Int.reduceSub, Int.reduceMod, Int.reduceDiv, Nat.reduceMod, Nat.reduceDiv, Nat.reduceLT, cond_true, cond_false, gt_iff_lt, ge_iff_le, enc3, h, YtdknnaalfoongaaDoor.D69, ty2, ty4, ty122, ty127]
    refine retB_plain (by simp [nmd_bool, nmd_int]) ?_ (by simp)
    rw [show bndI x = -4611686018427387903 by unfold bndI; omega, show ovrB x = true from decide_eq_true (by omega)]; rfl
  · simp (maxSteps := 2000000) only [wk0, wk1, wk2, wk3, wk4, wk5, Fr.ev, Fr.put, Fr.get, pkB, pkT, pkF, storeA, if_false, if_true, Nat.reduceEqDiff, reduceIte, Nat.reduceAdd, List.replicate, Nat.reduceLeDiff, Nat.reduceMul, Nat.reduceSub, Nat.reducePow, Int.reduceLT, Int.reduceLE, Int.reduceToNat, Int.reducePow, IntKind.bits, Int.reduceEq, Int.reduceMul, Int.reduceNeg, ne_eq, reduceCtorEq, BEq.rfl, beq_self_eq_true, Int.reduceAdd, Int.reduceSub, Int.reduceMod, Int.reduceDiv, Nat.reduceMod, Nat.reduceDiv, Nat.reduceLT, cond_true, cond_false, gt_iff_lt, ge_iff_le, enc3, h, YtdknnaalfoongaaDoor.D69, ty2, ty4, ty122, ty127]
    refine callThen_of (below_ok (x + -4611686018427387904) _ (by omega)) ?_
    by_cases h' : x + -4611686018427387904 < 0
    · simp (maxSteps := 2000000) only [wk0, wk1, wk2, wk3, wk4, wk5, Fr.ev, Fr.put, Fr.get, pkB, pkT, pkF, storeA, if_false, if_true, Nat.reduceEqDiff, reduceIte, Nat.reduceAdd, List.replicate, Nat.reduceLeDiff, Nat.reduceMul, Nat.reduceSub, Nat.reducePow, Int.reduceLT, Int.reduceLE, Int.reduceToNat, Int.reducePow, IntKind.bits, Int.reduceEq, Int.reduceMul, Int.reduceNeg, ne_eq, reduceCtorEq, BEq.rfl, beq_self_eq_true, Int.reduceAdd, Int.reduceSub, Int.reduceMod, Int.reduceDiv, Nat.reduceMod, Nat.reduceDiv, Nat.reduceLT, cond_true, cond_false, gt_iff_lt, ge_iff_le, enc3, h', YtdknnaalfoongaaDoor.D69, ty2, ty4, ty122, ty127]
      refine retB_plain (by simp [nmd_bool, nmd_int]) ?_ (by simp)
      rw [show bndI x = x by unfold bndI; omega, show ovrB x = false from decide_eq_false (by omega)]
      rw [show IntKind.i64.wrap (w0 x) = x by rw [wrapI64]; unfold w0; omega]; rfl
    · simp (maxSteps := 2000000) only [wk0, wk1, wk2, wk3, wk4, wk5, Fr.ev, Fr.put, Fr.get, pkB, pkT, pkF, storeA, if_false, if_true, Nat.reduceEqDiff, reduceIte, Nat.reduceAdd, List.replicate, Nat.reduceLeDiff, Nat.reduceMul, Nat.reduceSub, Nat.reducePow, Int.reduceLT, Int.reduceLE, Int.reduceToNat, Int.reducePow, IntKind.bits, Int.reduceEq, Int.reduceMul, Int.reduceNeg, ne_eq, reduceCtorEq, BEq.rfl, beq_self_eq_true, Int.reduceAdd, Int.reduceSub, Int.reduceMod, Int.reduceDiv, Nat.reduceMod, Nat.reduceDiv, Nat.reduceLT, cond_true, cond_false, gt_iff_lt, ge_iff_le, enc3, h', YtdknnaalfoongaaDoor.D69, ty2, ty4, ty122, ty127]
      refine retB_plain (by simp [nmd_bool, nmd_int]) ?_ (by simp)
      rw [show bndI x = 4611686018427387903 by unfold bndI; omega, show ovrB x = true from decide_eq_true (by omega)]; rfl
noncomputable def c36 : Code := Tryd.f36.body.getD .skip
theorem b36 : Tryd.f36.body = some c36 := rfl
theorem d36 : fnOk Tryd.f36 c36 = true := by kernel_rfl
def D36 : Nat → List Tag := fun _ => []
theorem e36 : drawsOk D36 c36 = true := by kernel_rfl
noncomputable def c95 : Code := Tryd.f95.body.getD .skip
theorem b95 : Tryd.f95.body = some c95 := rfl
theorem d95 : fnOk Tryd.f95 c95 = true := by kernel_rfl
def D95 : Nat → List Tag := fun _ => []
theorem e95 : drawsOk D95 c95 = true := by kernel_rfl
theorem add_ok (a b : Int) (S : Heap) (ha : -9223372036854775808 ≤ a ∧ a < 9223372036854775808) (hb : -9223372036854775808 ≤ b ∧ b < 9223372036854775808) :
    Call theE 36 [.int .i64 a, .int .i64 b] S (.tup [.int .i64 (bndI (a + b)), .bool (ovrB (a + b))]) S := by
  refine Call.ofC Tryd.func36 YtdknnaalfoongaaDoor.b36 YtdknnaalfoongaaDoor.d36 YtdknnaalfoongaaDoor.e36 (by simp [Tryd.f36]) ?_
  dsimp only [YtdknnaalfoongaaDoor.c36, Tryd.f36, Option.getD_some]
  simp (maxSteps := 2000000) only [wk0, wk1, wk2, wk3, wk4, wk5, Fr.ev, Fr.put, Fr.get, pkB, pkT, pkF, storeA, if_false, if_true, Nat.reduceEqDiff, reduceIte, Nat.reduceAdd, List.replicate, Nat.reduceLeDiff, Nat.reduceMul, Nat.reduceSub, Nat.reducePow, Int.reduceLT, Int.reduceLE, Int.reduceToNat, Int.reducePow, IntKind.bits, Int.reduceEq, Int.reduceMul, Int.reduceNeg, ne_eq, reduceCtorEq, BEq.rfl, beq_self_eq_true, Int.reduceAdd, Int.reduceSub, Int.reduceMod, Int.reduceDiv, Nat.reduceMod, Nat.reduceDiv, Nat.reduceLT, cond_true, cond_false, gt_iff_lt, ge_iff_le, YtdknnaalfoongaaDoor.D36, ty2, ty4, ty127]
  refine callThen_of (of_ok a _ ha) ?_
  simp (maxSteps := 2000000) only [wk0, wk1, wk2, wk3, wk4, wk5, Fr.ev, Fr.put, Fr.get, pkB, pkT, pkF, storeA, if_false, if_true, Nat.reduceEqDiff, reduceIte, Nat.reduceAdd, List.replicate, Nat.reduceLeDiff, Nat.reduceMul, Nat.reduceSub, Nat.reducePow, Int.reduceLT, Int.reduceLE, Int.reduceToNat, Int.reducePow, IntKind.bits, Int.reduceEq, Int.reduceMul, Int.reduceNeg, ne_eq, reduceCtorEq, BEq.rfl, beq_self_eq_true, Int.reduceAdd, Int.reduceSub, Int.reduceMod, Int.reduceDiv, Nat.reduceMod, Nat.reduceDiv, Nat.reduceLT, cond_true, cond_false, gt_iff_lt, ge_iff_le, YtdknnaalfoongaaDoor.D36, ty2, ty4, ty127]
  refine callThen_of (of_ok b _ hb) ?_
  simp (maxSteps := 2000000) only [wk0, wk1, wk2, wk3, wk4, wk5, Fr.ev, Fr.put, Fr.get, pkB, pkT, pkF, storeA, if_false, if_true, Nat.reduceEqDiff, reduceIte, Nat.reduceAdd, List.replicate, Nat.reduceLeDiff, Nat.reduceMul, Nat.reduceSub, Nat.reducePow, Int.reduceLT, Int.reduceLE, Int.reduceToNat, Int.reducePow, IntKind.bits, Int.reduceEq, Int.reduceMul, Int.reduceNeg, ne_eq, reduceCtorEq, BEq.rfl, beq_self_eq_true, Int.reduceAdd, Int.reduceSub, Int.reduceMod, Int.reduceDiv, Nat.reduceMod, Nat.reduceDiv, Nat.reduceLT, cond_true, cond_false, gt_iff_lt, ge_iff_le, YtdknnaalfoongaaDoor.D36, ty2, ty4, ty127]
  refine callThen_of (plus_ok a b _) ?_
  simp (maxSteps := 2000000) only [wk0, wk1, wk2, wk3, wk4, wk5, Fr.ev, Fr.put, Fr.get, pkB, pkT, pkF, storeA, if_false, if_true, Nat.reduceEqDiff, reduceIte, Nat.reduceAdd, List.replicate, Nat.reduceLeDiff, Nat.reduceMul, Nat.reduceSub, Nat.reducePow, Int.reduceLT, Int.reduceLE, Int.reduceToNat, Int.reducePow, IntKind.bits, Int.reduceEq, Int.reduceMul, Int.reduceNeg, ne_eq, reduceCtorEq, BEq.rfl, beq_self_eq_true, Int.reduceAdd, Int.reduceSub, Int.reduceMod, Int.reduceDiv, Nat.reduceMod, Nat.reduceDiv, Nat.reduceLT, cond_true, cond_false, gt_iff_lt, ge_iff_le, YtdknnaalfoongaaDoor.D36, ty2, ty4, ty127]
  refine callThen_of (bounded_ok (a + b) _ (by omega)) ?_
  simp (maxSteps := 2000000) only [wk0, wk1, wk2, wk3, wk4, wk5, Fr.ev, Fr.put, Fr.get, pkB, pkT, pkF, storeA, if_false, if_true, Nat.reduceEqDiff, reduceIte, Nat.reduceAdd, List.replicate, Nat.reduceLeDiff, Nat.reduceMul, Nat.reduceSub, Nat.reducePow, Int.reduceLT, Int.reduceLE, Int.reduceToNat, Int.reducePow, IntKind.bits, Int.reduceEq, Int.reduceMul, Int.reduceNeg, ne_eq, reduceCtorEq, BEq.rfl, beq_self_eq_true, Int.reduceAdd, Int.reduceSub, Int.reduceMod, Int.reduceDiv, Nat.reduceMod, Nat.reduceDiv, Nat.reduceLT, cond_true, cond_false, gt_iff_lt, ge_iff_le, YtdknnaalfoongaaDoor.D36, ty2, ty4, ty127]
  exact retB_plain (by simp [nmd_bool, nmd_int]) rfl (by simp)
theorem sub_ok (a b : Int) (S : Heap) (ha : -9223372036854775808 ≤ a ∧ a < 9223372036854775808) (hb : -9223372036854775808 ≤ b ∧ b < 9223372036854775808) :
    Call theE 95 [.int .i64 a, .int .i64 b] S (.tup [.int .i64 (bndI (a + -b)), .bool (ovrB (a + -b))]) S := by
  refine Call.ofC Tryd.func95 YtdknnaalfoongaaDoor.b95 YtdknnaalfoongaaDoor.d95 YtdknnaalfoongaaDoor.e95 (by simp [Tryd.f95]) ?_
  dsimp only [YtdknnaalfoongaaDoor.c95, Tryd.f95, Option.getD_some]
  simp (maxSteps := 2000000) only [wk0, wk1, wk2, wk3, wk4, wk5, Fr.ev, Fr.put, Fr.get, pkB, pkT, pkF, storeA, if_false, if_true, Nat.reduceEqDiff, reduceIte, Nat.reduceAdd, List.replicate, Nat.reduceLeDiff, Nat.reduceMul, Nat.reduceSub, Nat.reducePow, Int.reduceLT, Int.reduceLE, Int.reduceToNat, Int.reducePow, IntKind.bits, Int.reduceEq, Int.reduceMul, Int.reduceNeg, ne_eq, reduceCtorEq, BEq.rfl, beq_self_eq_true, Int.reduceAdd, Int.reduceSub, Int.reduceMod, Int.reduceDiv, Nat.reduceMod, Nat.reduceDiv, Nat.reduceLT, cond_true, cond_false, gt_iff_lt, ge_iff_le, YtdknnaalfoongaaDoor.D95, ty2, ty4, ty127]
  refine callThen_of (of_ok a _ ha) ?_
  simp (maxSteps := 2000000) only [wk0, wk1, wk2, wk3, wk4, wk5, Fr.ev, Fr.put, Fr.get, pkB, pkT, pkF, storeA, if_false, if_true, Nat.reduceEqDiff, reduceIte, Nat.reduceAdd, List.replicate, Nat.reduceLeDiff, Nat.reduceMul, Nat.reduceSub, Nat.reducePow, Int.reduceLT, Int.reduceLE, Int.reduceToNat, Int.reducePow, IntKind.bits, Int.reduceEq, Int.reduceMul, Int.reduceNeg, ne_eq, reduceCtorEq, BEq.rfl, beq_self_eq_true, Int.reduceAdd, Int.reduceSub, Int.reduceMod, Int.reduceDiv, Nat.reduceMod, Nat.reduceDiv, Nat.reduceLT, cond_true, cond_false, gt_iff_lt, ge_iff_le, YtdknnaalfoongaaDoor.D95, ty2, ty4, ty127]
  refine callThen_of (of_ok b _ hb) ?_
  simp (maxSteps := 2000000) only [wk0, wk1, wk2, wk3, wk4, wk5, Fr.ev, Fr.put, Fr.get, pkB, pkT, pkF, storeA, if_false, if_true, Nat.reduceEqDiff, reduceIte, Nat.reduceAdd, List.replicate, Nat.reduceLeDiff, Nat.reduceMul, Nat.reduceSub, Nat.reducePow, Int.reduceLT, Int.reduceLE, Int.reduceToNat, Int.reducePow, IntKind.bits, Int.reduceEq, Int.reduceMul, Int.reduceNeg, ne_eq, reduceCtorEq, BEq.rfl, beq_self_eq_true, Int.reduceAdd, Int.reduceSub, Int.reduceMod, Int.reduceDiv, Nat.reduceMod, Nat.reduceDiv, Nat.reduceLT, cond_true, cond_false, gt_iff_lt, ge_iff_le, YtdknnaalfoongaaDoor.D95, ty2, ty4, ty127]
  refine callThen_of (neg_ok b _) ?_
  simp (maxSteps := 2000000) only [wk0, wk1, wk2, wk3, wk4, wk5, Fr.ev, Fr.put, Fr.get, pkB, pkT, pkF, storeA, if_false, if_true, Nat.reduceEqDiff, reduceIte, Nat.reduceAdd, List.replicate, Nat.reduceLeDiff, Nat.reduceMul, Nat.reduceSub, Nat.reducePow, Int.reduceLT, Int.reduceLE, Int.reduceToNat, Int.reducePow, IntKind.bits, Int.reduceEq, Int.reduceMul, Int.reduceNeg, ne_eq, reduceCtorEq, BEq.rfl, beq_self_eq_true, Int.reduceAdd, Int.reduceSub, Int.reduceMod, Int.reduceDiv, Nat.reduceMod, Nat.reduceDiv, Nat.reduceLT, cond_true, cond_false, gt_iff_lt, ge_iff_le, YtdknnaalfoongaaDoor.D95, ty2, ty4, ty127]
  refine callThen_of (plus_ok a (-b) _) ?_
  simp (maxSteps := 2000000) only [wk0, wk1, wk2, wk3, wk4, wk5, Fr.ev, Fr.put, Fr.get, pkB, pkT, pkF, storeA, if_false, if_true, Nat.reduceEqDiff, reduceIte, Nat.reduceAdd, List.replicate, Nat.reduceLeDiff, Nat.reduceMul, Nat.reduceSub, Nat.reducePow, Int.reduceLT, Int.reduceLE, Int.reduceToNat, Int.reducePow, IntKind.bits, Int.reduceEq, Int.reduceMul, Int.reduceNeg, ne_eq, reduceCtorEq, BEq.rfl, beq_self_eq_true, Int.reduceAdd, Int.reduceSub, Int.reduceMod, Int.reduceDiv, Nat.reduceMod, Nat.reduceDiv, Nat.reduceLT, cond_true, cond_false, gt_iff_lt, ge_iff_le, YtdknnaalfoongaaDoor.D95, ty2, ty4, ty127]
  refine callThen_of (bounded_ok (a + -b) _ (by omega)) ?_
  simp (maxSteps := 2000000) only [wk0, wk1, wk2, wk3, wk4, wk5, Fr.ev, Fr.put, Fr.get, pkB, pkT, pkF, storeA, if_false, if_true, Nat.reduceEqDiff, reduceIte, Nat.reduceAdd, List.replicate, Nat.reduceLeDiff, Nat.reduceMul, Nat.reduceSub, Nat.reducePow, Int.reduceLT, Int.reduceLE, Int.reduceToNat, Int.reducePow, IntKind.bits, Int.reduceEq, Int.reduceMul, Int.reduceNeg, ne_eq, reduceCtorEq, BEq.rfl, beq_self_eq_true, Int.reduceAdd, Int.reduceSub, Int.reduceMod, Int.reduceDiv, Nat.reduceMod, Nat.reduceDiv, Nat.reduceLT, cond_true, cond_false, gt_iff_lt, ge_iff_le, YtdknnaalfoongaaDoor.D95, ty2, ty4, ty127]
  exact retB_plain (by simp [nmd_bool, nmd_int]) rfl (by simp)
end Go.Proofs.YtdknnaalfoongaaDoor
