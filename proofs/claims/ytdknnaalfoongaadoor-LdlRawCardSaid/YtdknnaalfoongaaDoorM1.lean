/- mat: what may be; single numbers; columns; turned; products; middles. -/
import Derived.Test.YtdknnaalfoongaaDoorM0
set_option linter.unusedSimpArgs false
set_option linter.unusedVariables false
set_option maxRecDepth 100000
set_option maxHeartbeats 4000000
namespace Go.Proofs.YtdknnaalfoongaaDoor
noncomputable def c115 : Code := Tryd.f115.body.getD .skip
theorem b115 : Tryd.f115.body = some c115 := rfl
theorem d115 : fnOk Tryd.f115 c115 = true := by kernel_rfl
def D115 : Nat → List Tag := fun _ => []
theorem e115 : drawsOk D115 c115 = true := by kernel_rfl
noncomputable def c123 : Code := Tryd.f123.body.getD .skip
theorem b123 : Tryd.f123.body = some c123 := rfl
theorem d123 : fnOk Tryd.f123 c123 = true := by kernel_rfl
def D123 : Nat → List Tag
  | 1 => [.pure, .pure, .pure, .quiet, .pure, .pure, .pure, .pure, .quiet, .pure, .quiet, .quiet, .pure, .quiet, .seq, .pure, .pure, .pure, .pure]
  | _ => []
theorem e123 : drawsOk D123 c123 = true := by kernel_rfl
noncomputable def c117 : Code := Tryd.f117.body.getD .skip
theorem b117 : Tryd.f117.body = some c117 := rfl
theorem d117 : fnOk Tryd.f117 c117 = true := by kernel_rfl
def D117 : Nat → List Tag := fun _ => []
theorem e117 : drawsOk D117 c117 = true := by kernel_rfl
noncomputable def c127 : Code := Tryd.f127.body.getD .skip
theorem b127 : Tryd.f127.body = some c127 := rfl
theorem d127 : fnOk Tryd.f127 c127 = true := by kernel_rfl
def D127 : Nat → List Tag
  | 1 => [.quiet, .pure, .pure, .quiet, .quiet, .pure, .pure, .seq, .pure, .pure, .seq, .pure, .pure, .pure, .pure]
  | _ => []
theorem e127 : drawsOk D127 c127 = true := by kernel_rfl
theorem get38 {r c x : Int} {l : List Int} {k : Nat} (h : l[k]? = some x) : (AV.int .i64 r :: AV.int .i64 c :: l.map fun x => AV.int .i64 x)[2 + k]? = some (.int .i64 x) := by
  rw [show 2 + k = k + 1 + 1 by omega, List.getElem?_cons_succ, List.getElem?_cons_succ, List.getElem?_map, h]; rfl
theorem at_ok (r c i j : Nat) (l : List Int) (x : Int) (S : Heap) (hl : l.length = 36) (hk : i * c + j < 36) (hx : l[i * c + j]? = some x) (hc : c ≤ 36) (hi : i ≤ 36) (hj : j ≤ 36) :
    Call theE 93 [matA r c l, .int .i64 i, .int .i64 j] S (.int .i64 x) S := by
  have hic : i * c < 36 := by omega
  have w1 : IntKind.i64.wrap ((i : Int) * c) = ((i * c : Nat) : Int) := by rw [wrapI (by rw [← Int.natCast_mul]; omega)]; simp
  have w2 : IntKind.i64.wrap (((i * c : Nat) : Int) + j) = ((i * c + j : Nat) : Int) := wrapI (by omega)
  have k1 : (0 : Int) ≤ ((i * c + j : Nat) : Int) := by omega
  have k2 : ((i * c + j : Nat) : Int) < 36 := by omega
  have g := get38 (r := r) (c := c) hx
  refine Call.ofC Tryd.func93 YtdknnaalfoongaaDoor.b93 YtdknnaalfoongaaDoor.d93 YtdknnaalfoongaaDoor.e93 (by simp [Tryd.f93]) ?_
  dsimp only [YtdknnaalfoongaaDoor.c93, Tryd.f93, Option.getD_some]
  simp (maxSteps := 2000000) only [wk0, wk1, wk2, wk3, wk4, wk5, Fr.ev, Fr.put, Fr.get, pkB, pkT, pkF, storeA, if_false, if_true, Nat.reduceEqDiff, reduceIte, Nat.reduceAdd, List.replicate, Nat.reduceLeDiff, Nat.reduceMul, Nat.reduceSub, Nat.reducePow, Int.reduceLT, Int.reduceLE, Int.reduceToNat, Int.reducePow, IntKind.bits, Int.reduceEq, Int.reduceMul, Int.reduceNeg, ne_eq, reduceCtorEq, BEq.rfl, beq_self_eq_true, Int.reduceAdd, Int.reduceSub, Int.reduceMod, Int.reduceDiv, Nat.reduceMod, Nat.reduceDiv, Nat.reduceLT, cond_true, cond_false, gt_iff_lt, ge_iff_le, matA, w1, w2, k1, k2, Int.toNat_natCast, Nat.mul_one, g, YtdknnaalfoongaaDoor.D93, ty1, ty2, ty3, ty52, ty54]
  exact retB_plain (by simp [nmd_int]) rfl (by simp)
theorem at_mk (r c i j : Nat) (f : Nat → Nat → Int) (S : Heap) (hr : r ≤ 6) (hc : c ≤ 6) (hi : i < r) (hj : j < c) :
    Call theE 93 [mk r c f, .int .i64 i, .int .i64 j] S (.int .i64 (f i j)) S := by
  have h36 : r * c ≤ 36 := by have := Nat.mul_le_mul hr hc; omega
  have hk : i * c + j < r * c := by
    have := Nat.mul_le_mul_right c (show i + 1 ≤ r by omega)
    rw [Nat.add_mul, Nat.one_mul] at this
    omega
  exact at_ok r c i j _ _ S (gridP_len _ _ _) (by omega) (grid_get r c f i j hi hj h36) (by omega) (by omega) (by omega)
theorem check_ok (r c : Nat) (f : Nat → Nat → Int) (S : Heap) (hr : 1 ≤ r ∧ r ≤ 6) (hc : 1 ≤ c ∧ c ≤ 6) : Call theE 89 [mk r c f] S .nili S := by
  have h36 : r * c ≤ 36 := by have := Nat.mul_le_mul hr.2 hc.2; omega
  have s1 := fun S => sizedM_ok r S
  have s2 := fun S => sizedM_ok c S
  rw [decide_eq_true (by omega)] at s1 s2
  have w1 : IntKind.i64.wrap ((r : Int) * c) = ((r * c : Nat) : Int) := by rw [wrapI (by rw [← Int.natCast_mul]; omega)]; simp
  obtain ⟨p, hp⟩ : ∃ p, r * c = p := ⟨_, rfl⟩
  rw [hp] at w1 h36
  have k1 : (0 : Int) ≤ (p : Int) := by omega
  have k2 : (p : Int) ≤ 36 := by omega
  have gl := gridP_len c f p
  unfold mk
  rw [hp]
  refine Call.ofC Tryd.func89 YtdknnaalfoongaaDoor.b89 YtdknnaalfoongaaDoor.d89 YtdknnaalfoongaaDoor.e89 (by simp [Tryd.f89]) ?_
  dsimp only [YtdknnaalfoongaaDoor.c89, Tryd.f89, Option.getD_some]
  simp (maxSteps := 2000000) only [wk0, wk1, wk2, wk3, wk4, wk5, Fr.ev, Fr.put, Fr.get, pkB, pkT, pkF, storeA, if_false, if_true, Nat.reduceEqDiff, reduceIte, Nat.reduceAdd, List.replicate, Nat.reduceLeDiff, Nat.reduceMul, Nat.reduceSub, Nat.reducePow, Int.reduceLT, Int.reduceLE, Int.reduceToNat, Int.reducePow, IntKind.bits, Int.reduceEq, Int.reduceMul, Int.reduceNeg, ne_eq, reduceCtorEq, BEq.rfl, beq_self_eq_true, Int.reduceAdd, Int.reduceSub, Int.reduceMod, Int.reduceDiv, Nat.reduceMod, Nat.reduceDiv, Nat.reduceLT, cond_true, cond_false, gt_iff_lt, ge_iff_le, matA, YtdknnaalfoongaaDoor.D89, ty1, ty2, ty3, ty4, ty25, ty52, ty54, ty60, ty79]
  refine callThen_of (s1 _) ?_
  simp (maxSteps := 2000000) only [wk0, wk1, wk2, wk3, wk4, wk5, Fr.ev, Fr.put, Fr.get, pkB, pkT, pkF, storeA, if_false, if_true, Nat.reduceEqDiff, reduceIte, Nat.reduceAdd, List.replicate, Nat.reduceLeDiff, Nat.reduceMul, Nat.reduceSub, Nat.reducePow, Int.reduceLT, Int.reduceLE, Int.reduceToNat, Int.reducePow, IntKind.bits, Int.reduceEq, Int.reduceMul, Int.reduceNeg, ne_eq, reduceCtorEq, BEq.rfl, beq_self_eq_true, Int.reduceAdd, Int.reduceSub, Int.reduceMod, Int.reduceDiv, Nat.reduceMod, Nat.reduceDiv, Nat.reduceLT, cond_true, cond_false, gt_iff_lt, ge_iff_le, YtdknnaalfoongaaDoor.D89, ty1, ty2, ty3, ty4, ty25, ty52, ty54, ty60, ty79]
  refine callThen_of (s2 _) ?_
  by_cases h : p = 36
  · have h' : (p : Int) = 36 := by omega
    simp (maxSteps := 2000000) only [wk0, wk1, wk2, wk3, wk4, wk5, Fr.ev, Fr.put, Fr.get, pkB, pkT, pkF, storeA, if_false, if_true, Nat.reduceEqDiff, reduceIte, Nat.reduceAdd, List.replicate, Nat.reduceLeDiff, Nat.reduceMul, Nat.reduceSub, Nat.reducePow, Int.reduceLT, Int.reduceLE, Int.reduceToNat, Int.reducePow, IntKind.bits, Int.reduceEq, Int.reduceMul, Int.reduceNeg, ne_eq, reduceCtorEq, BEq.rfl, beq_self_eq_true, Int.reduceAdd, Int.reduceSub, Int.reduceMod, Int.reduceDiv, Nat.reduceMod, Nat.reduceDiv, Nat.reduceLT, cond_true, cond_false, gt_iff_lt, ge_iff_le, bd_none, bd_some, bv_int, sa_arr, w1, k1, k2, h', List.length_map, gl, Int.le_refl, Nat.le_refl, YtdknnaalfoongaaDoor.D89, ty1, ty2, ty3, ty4, ty25, ty52, ty54, ty60, ty79]
    refine loopC_of ?_
    simp (maxSteps := 2000000) only [wk0, wk1, wk2, wk3, wk4, wk5, Fr.ev, Fr.put, Fr.get, pkB, pkT, pkF, storeA, if_false, if_true, Nat.reduceEqDiff, reduceIte, Nat.reduceAdd, List.replicate, Nat.reduceLeDiff, Nat.reduceMul, Nat.reduceSub, Nat.reducePow, Int.reduceLT, Int.reduceLE, Int.reduceToNat, Int.reducePow, IntKind.bits, Int.reduceEq, Int.reduceMul, Int.reduceNeg, ne_eq, reduceCtorEq, BEq.rfl, beq_self_eq_true, Int.reduceAdd, Int.reduceSub, Int.reduceMod, Int.reduceDiv, Nat.reduceMod, Nat.reduceDiv, Nat.reduceLT, cond_true, cond_false, gt_iff_lt, ge_iff_le, YtdknnaalfoongaaDoor.D89, ty1, ty2, ty3, ty4, ty25, ty52, ty54, ty60, ty79]
    exact retB_plain (by simp [nmd_nili]) rfl (by simp)
  · have h' : ¬ (p : Int) = 36 := by omega
    have tz : ∀ k : Nat, k < 36 - p → (AV.int .i64 r :: AV.int .i64 c :: (gridP c f p).map fun x => AV.int .i64 x)[2 + p + k]? = some (.int .i64 0) := by
      intro k hk
      have := grid_tail r c f (p + k) (by omega) (by omega)
      rw [hp] at this
      rw [Nat.add_assoc]
      exact get38 this
    simp (maxSteps := 2000000) only [wk0, wk1, wk2, wk3, wk4, wk5, Fr.ev, Fr.put, Fr.get, pkB, pkT, pkF, storeA, if_false, if_true, Nat.reduceEqDiff, reduceIte, Nat.reduceAdd, List.replicate, Nat.reduceLeDiff, Nat.reduceMul, Nat.reduceSub, Nat.reducePow, Int.reduceLT, Int.reduceLE, Int.reduceToNat, Int.reducePow, IntKind.bits, Int.reduceEq, Int.reduceMul, Int.reduceNeg, ne_eq, reduceCtorEq, BEq.rfl, beq_self_eq_true, Int.reduceAdd, Int.reduceSub, Int.reduceMod, Int.reduceDiv, Nat.reduceMod, Nat.reduceDiv, Nat.reduceLT, cond_true, cond_false, gt_iff_lt, ge_iff_le, bd_none, bd_some, bv_int, sa_arr, w1, k1, k2, h', List.length_map, gl, Int.le_refl, Nat.le_refl, Int.toNat_natCast, Nat.mul_one, YtdknnaalfoongaaDoor.D89, ty1, ty2, ty3, ty4, ty25, ty52, ty54, ty60, ty79]
    refine loopC_ind (fun m fr H => ∃ k : Nat, k + m = 36 - p ∧ fr.get 24 = .int .i64 k ∧ fr.get 23 = .int .i64 ((36 - p : Nat) : Int) ∧ fr.get 22 = .sl S.length 0 (2 + p) (36 - p) (36 - p) 1 ∧ H = S ++ [some ⟨.int .i64 r :: .int .i64 c :: (gridP c f p).map fun x => .int .i64 x, 0⟩]) ?_ (n := 36 - p) ⟨0, by omega, rfl, rfl, rfl, rfl⟩
    rintro m fr H ⟨k, hkm, g24, g23, g22, rfl⟩ ih
    by_cases hk : (k : Int) < ((36 - p : Nat) : Int)
    · have q1 : (0 : Int) ≤ k := by omega
      have q2 := tz k (by omega)
      have wk : IntKind.i64.wrap ((k : Int) + 1) = ((k + 1 : Nat) : Int) := wrapI (by omega)
      simp (maxSteps := 2000000) only [wk0, wk1, wk2, wk3, wk4, wk5, Fr.ev, Fr.put, Fr.get, pkB, pkT, pkF, storeA, if_false, if_true, Nat.reduceEqDiff, reduceIte, Nat.reduceAdd, List.replicate, Nat.reduceLeDiff, Nat.reduceMul, Nat.reduceSub, Nat.reducePow, Int.reduceLT, Int.reduceLE, Int.reduceToNat, Int.reducePow, IntKind.bits, Int.reduceEq, Int.reduceMul, Int.reduceNeg, ne_eq, reduceCtorEq, BEq.rfl, beq_self_eq_true, Int.reduceAdd, Int.reduceSub, Int.reduceMod, Int.reduceDiv, Nat.reduceMod, Nat.reduceDiv, Nat.reduceLT, cond_true, cond_false, gt_iff_lt, ge_iff_le, g24, g23, g22, hk, q1, q2, Int.toNat_natCast, Nat.mul_one, wk, YtdknnaalfoongaaDoor.D89, ty1, ty2, ty3, ty4, ty25, ty52, ty54, ty60, ty79]
      exact ih (m - 1) _ _ (by omega) ⟨k + 1, by omega, by simp [Fr.get], by simp [Fr.get, g23], by simp [Fr.get, g22], rfl⟩
    · simp (maxSteps := 2000000) only [wk0, wk1, wk2, wk3, wk4, wk5, Fr.ev, Fr.put, Fr.get, pkB, pkT, pkF, storeA, if_false, if_true, Nat.reduceEqDiff, reduceIte, Nat.reduceAdd, List.replicate, Nat.reduceLeDiff, Nat.reduceMul, Nat.reduceSub, Nat.reducePow, Int.reduceLT, Int.reduceLE, Int.reduceToNat, Int.reducePow, IntKind.bits, Int.reduceEq, Int.reduceMul, Int.reduceNeg, ne_eq, reduceCtorEq, BEq.rfl, beq_self_eq_true, Int.reduceAdd, Int.reduceSub, Int.reduceMod, Int.reduceDiv, Nat.reduceMod, Nat.reduceDiv, Nat.reduceLT, cond_true, cond_false, gt_iff_lt, ge_iff_le, g24, g23, g22, hk, YtdknnaalfoongaaDoor.D89, ty1, ty2, ty3, ty4, ty25, ty52, ty54, ty60, ty79]
      exact retB_plain (by simp [nmd_nili]) rfl (by simp)
theorem turn1_ok (r c i j p : Nat) (f : Nat → Nat → Int) (S : Heap) (hr : r ≤ 6) (hc : c ≤ 6) (hi : i < c) (hj : j < r) (b1 : blkAt S p 0 = some ⟨.int .i64 r :: .int .i64 c :: (gridP c f (r * c)).map fun x => .int .i64 x, 0⟩) :
    Call theE 92 [.int .i64 i, .int .i64 j, .ptr p 0 0] S (.tup [.int .i64 (f j i), .bool false]) S := by
  have tk := take36 (gridP_len c f (r * c))
  have ha := at_mk r c j i f S hr hc hj hi
  simp only [mk, matA] at ha
  refine Call.ofC Tryd.func92 YtdknnaalfoongaaDoor.b92 YtdknnaalfoongaaDoor.d92 YtdknnaalfoongaaDoor.e92 (by simp [Tryd.f92]) ?_
  dsimp only [YtdknnaalfoongaaDoor.c92, Tryd.f92, Option.getD_some]
  simp (maxSteps := 2000000) only [wk0, wk1, wk2, wk3, wk4, wk5, Fr.ev, Fr.put, Fr.get, pkB, pkT, pkF, storeA, if_false, if_true, Nat.reduceEqDiff, reduceIte, Nat.reduceAdd, List.replicate, Nat.reduceLeDiff, Nat.reduceMul, Nat.reduceSub, Nat.reducePow, Int.reduceLT, Int.reduceLE, Int.reduceToNat, Int.reducePow, IntKind.bits, Int.reduceEq, Int.reduceMul, Int.reduceNeg, ne_eq, reduceCtorEq, BEq.rfl, beq_self_eq_true, Int.reduceAdd, Int.reduceSub, Int.reduceMod, Int.reduceDiv, Nat.reduceMod, Nat.reduceDiv, Nat.reduceLT, cond_true, cond_false, gt_iff_lt, ge_iff_le, b1, List.length_map, gridP_len, tk, YtdknnaalfoongaaDoor.D92, ty2, ty3, ty4, ty54]
  refine callThen_of ha ?_
  simp (maxSteps := 2000000) only [wk0, wk1, wk2, wk3, wk4, wk5, Fr.ev, Fr.put, Fr.get, pkB, pkT, pkF, storeA, if_false, if_true, Nat.reduceEqDiff, reduceIte, Nat.reduceAdd, List.replicate, Nat.reduceLeDiff, Nat.reduceMul, Nat.reduceSub, Nat.reducePow, Int.reduceLT, Int.reduceLE, Int.reduceToNat, Int.reducePow, IntKind.bits, Int.reduceEq, Int.reduceMul, Int.reduceNeg, ne_eq, reduceCtorEq, BEq.rfl, beq_self_eq_true, Int.reduceAdd, Int.reduceSub, Int.reduceMod, Int.reduceDiv, Nat.reduceMod, Nat.reduceDiv, Nat.reduceLT, cond_true, cond_false, gt_iff_lt, ge_iff_le, YtdknnaalfoongaaDoor.D92, ty2, ty3, ty4, ty54]
  exact retB_plain (by simp [nmd_int, nmd_bool]) rfl (by simp)
theorem turn_ok (r c : Nat) (f : Nat → Nat → Int) (S : Heap) (hr : 1 ≤ r ∧ r ≤ 6) (hc : 1 ≤ c ∧ c ≤ 6) : Call theE 53 [mk r c f] S (.tup [mk c r (fun i j => f j i), .nili]) S := by
  have tk := take36 (gridP_len c f (r * c))
  have tk2 := take36 (gridP_len r (fun i j => f j i) (c * r))
  have al : (List.map (fun x => AV.int .i64 x) (gridP r (fun i j => f j i) (c * r))).all AV.one = true := by simp [AV.one]
  have ck := fun S => check_ok r c f S hr hc
  have md := made_ok 92 [.ptr S.length 0 0] c r (fun i j => f j i) (fun _ _ => false) (S ++ [some ⟨.int .i64 r :: .int .i64 c :: (gridP c f (r * c)).map fun x => .int .i64 x, 0⟩, some ⟨zero38, 0⟩]) hc.2 hr.2 (by decide)
    (fun i j hi hj L => turn1_ok r c i j S.length f _ hr.2 hc.2 hi hj (by rw [List.append_assoc, blkAt_app0]; rfl))
  simp only [mk, matA, zero38, List.replicate] at ck md
  refine Call.ofC Tryd.func53 YtdknnaalfoongaaDoor.b53 YtdknnaalfoongaaDoor.d53 YtdknnaalfoongaaDoor.e53 (by simp [Tryd.f53]) ?_
  dsimp only [YtdknnaalfoongaaDoor.c53, Tryd.f53, Option.getD_some]
  simp (maxSteps := 2000000) only [wk0, wk1, wk2, wk3, wk4, wk5, Fr.ev, Fr.put, Fr.get, pkB, pkT, pkF, storeA, if_false, if_true, Nat.reduceEqDiff, reduceIte, Nat.reduceAdd, List.replicate, Nat.reduceLeDiff, Nat.reduceMul, Nat.reduceSub, Nat.reducePow, Int.reduceLT, Int.reduceLE, Int.reduceToNat, Int.reducePow, IntKind.bits, Int.reduceEq, Int.reduceMul, Int.reduceNeg, ne_eq, reduceCtorEq, BEq.rfl, beq_self_eq_true, Int.reduceAdd, Int.reduceSub, Int.reduceMod, Int.reduceDiv, Nat.reduceMod, Nat.reduceDiv, Nat.reduceLT, cond_true, cond_false, gt_iff_lt, ge_iff_le, mk, matA, List.length_map, gridP_len, tk, YtdknnaalfoongaaDoor.D53, ty1, ty3, ty4, ty25, ty54, ty157]
  refine callThen_of (ck _) ?_
  simp (maxSteps := 2000000) only [wk0, wk1, wk2, wk3, wk4, wk5, Fr.ev, Fr.put, Fr.get, pkB, pkT, pkF, storeA, if_false, if_true, Nat.reduceEqDiff, reduceIte, Nat.reduceAdd, List.replicate, Nat.reduceLeDiff, Nat.reduceMul, Nat.reduceSub, Nat.reducePow, Int.reduceLT, Int.reduceLE, Int.reduceToNat, Int.reducePow, IntKind.bits, Int.reduceEq, Int.reduceMul, Int.reduceNeg, ne_eq, reduceCtorEq, BEq.rfl, beq_self_eq_true, Int.reduceAdd, Int.reduceSub, Int.reduceMod, Int.reduceDiv, Nat.reduceMod, Nat.reduceDiv, Nat.reduceLT, cond_true, cond_false, gt_iff_lt, ge_iff_le, YtdknnaalfoongaaDoor.D53, ty1, ty3, ty4, ty25, ty54, ty157]
  refine callThen_of md ?_
  simp (maxSteps := 2000000) only [wk0, wk1, wk2, wk3, wk4, wk5, Fr.ev, Fr.put, Fr.get, pkB, pkT, pkF, storeA, if_false, if_true, Nat.reduceEqDiff, reduceIte, Nat.reduceAdd, List.replicate, Nat.reduceLeDiff, Nat.reduceMul, Nat.reduceSub, Nat.reducePow, Int.reduceLT, Int.reduceLE, Int.reduceToNat, Int.reducePow, IntKind.bits, Int.reduceEq, Int.reduceMul, Int.reduceNeg, ne_eq, reduceCtorEq, BEq.rfl, beq_self_eq_true, Int.reduceAdd, Int.reduceSub, Int.reduceMod, Int.reduceDiv, Nat.reduceMod, Nat.reduceDiv, Nat.reduceLT, cond_true, cond_false, gt_iff_lt, ge_iff_le, List.length_map, gridP_len, tk2, al, YtdknnaalfoongaaDoor.D53, ty1, ty3, ty4, ty25, ty54, ty157]
  exact retB_plain (by simp [nmd_agg, nmd_int, nmd_nili]) (by simp [packA]) (by simp)
end Go.Proofs.YtdknnaalfoongaaDoor
