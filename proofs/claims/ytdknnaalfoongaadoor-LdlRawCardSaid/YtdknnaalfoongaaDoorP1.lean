/- Numbers of 256 bits in eight parts: lesser, sizes, products, sums. -/
import Derived.Test.YtdknnaalfoongaaDoorP0
set_option linter.unusedSimpArgs false
set_option linter.unusedVariables false
set_option maxRecDepth 100000
set_option maxHeartbeats 4000000
namespace Go.Proofs.YtdknnaalfoongaaDoor

noncomputable def c84 : Code := Tryd.f84.body.getD .skip
theorem b84 : Tryd.f84.body = some c84 := rfl
theorem d84 : fnOk Tryd.f84 c84 = true := by kernel_rfl
def D84 : Nat → List Tag := fun _ => []
theorem e84 : drawsOk D84 c84 = true := by kernel_rfl
theorem sizeB_ok (a : Int) (S : Heap) (ha : inI a) : Call theE 84 [.int .i64 a] S (.int .u64 ((a.natAbs : Nat) : Int)) S := by
  unfold inI at ha
  have w0 : IntKind.u64.wrap a = a % 18446744073709551616 := wrapU64 a
  refine Call.ofC Tryd.func84 YtdknnaalfoongaaDoor.b84 YtdknnaalfoongaaDoor.d84 YtdknnaalfoongaaDoor.e84 (by simp [Tryd.f84]) ?_
  dsimp only [YtdknnaalfoongaaDoor.c84, Tryd.f84, Option.getD_some]
  by_cases h : a < 0
  · have w1 : IntKind.u64.wrap (0 - a % 18446744073709551616) = ((a.natAbs : Nat) : Int) := by rw [wrapU64]; omega
    simp (maxSteps := 2000000) only [wk0, wk1, wk2, wk3, wk4, wk5, Fr.ev, Fr.put, Fr.get, pkB, pkT, pkF, storeA, if_false, if_true, Nat.reduceEqDiff, reduceIte, Nat.reduceAdd, List.replicate, Nat.reduceLeDiff, Nat.reduceMul, Nat.reduceSub, Nat.reducePow, Int.reduceLT, Int.reduceLE, Int.reduceToNat, Int.reducePow, IntKind.bits, Int.reduceEq, Int.reduceMul, Int.reduceNeg, ne_eq, reduceCtorEq, BEq.rfl, beq_self_eq_true, Int.reduceAdd, Int.reduceSub, Int.reduceMod, Int.reduceDiv, Nat.reduceMod, Nat.reduceDiv, Nat.reduceLT, cond_true, cond_false, gt_iff_lt, ge_iff_le, h, w0, w1, YtdknnaalfoongaaDoor.D84, ty2, ty4, ty122]
    exact retB_plain (by simp [nmd_int]) rfl (by simp)
  · have w1 : a % 18446744073709551616 = ((a.natAbs : Nat) : Int) := by omega
    simp (maxSteps := 2000000) only [wk0, wk1, wk2, wk3, wk4, wk5, Fr.ev, Fr.put, Fr.get, pkB, pkT, pkF, storeA, if_false, if_true, Nat.reduceEqDiff, reduceIte, Nat.reduceAdd, List.replicate, Nat.reduceLeDiff, Nat.reduceMul, Nat.reduceSub, Nat.reducePow, Int.reduceLT, Int.reduceLE, Int.reduceToNat, Int.reducePow, IntKind.bits, Int.reduceEq, Int.reduceMul, Int.reduceNeg, ne_eq, reduceCtorEq, BEq.rfl, beq_self_eq_true, Int.reduceAdd, Int.reduceSub, Int.reduceMod, Int.reduceDiv, Nat.reduceMod, Nat.reduceDiv, Nat.reduceLT, cond_true, cond_false, gt_iff_lt, ge_iff_le, h, w0, w1, YtdknnaalfoongaaDoor.D84, ty2, ty4, ty122]
    exact retB_plain (by simp [nmd_int]) rfl (by simp)
end Go.Proofs.YtdknnaalfoongaaDoor
