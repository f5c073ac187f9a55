/- mat: sums, differences, vectors as a matrix, rows. -/
import Derived.Test.YtdknnaalfoongaaDoorM4
import Derived.Test.YtdknnaalfoongaaDoorEvV
set_option linter.unusedSimpArgs false
set_option linter.unusedVariables false
set_option maxRecDepth 100000
set_option maxHeartbeats 4000000
namespace Go.Proofs.YtdknnaalfoongaaDoor
noncomputable def c125 : Code := Tryd.f125.body.getD .skip
theorem b125 : Tryd.f125.body = some c125 := rfl
theorem d125 : fnOk Tryd.f125 c125 = true := by kernel_rfl
def D125 : Nat → List Tag := fun _ => []
theorem e125 : drawsOk D125 c125 = true := by kernel_rfl
noncomputable def c116 : Code := Tryd.f116.body.getD .skip
theorem b116 : Tryd.f116.body = some c116 := rfl
theorem d116 : fnOk Tryd.f116 c116 = true := by kernel_rfl
def D116 : Nat → List Tag := fun _ => []
theorem e116 : drawsOk D116 c116 = true := by kernel_rfl
noncomputable def c126 : Code := Tryd.f126.body.getD .skip
theorem b126 : Tryd.f126.body = some c126 := rfl
theorem d126 : fnOk Tryd.f126 c126 = true := by kernel_rfl
def D126 : Nat → List Tag
  | 1 => [.quiet, .pure, .pure, .quiet, .quiet, .pure, .pure, .seq, .seq, .pure, .pure, .pure, .pure]
  | _ => []
theorem e126 : drawsOk D126 c126 = true := by kernel_rfl
noncomputable def c90 : Code := Tryd.f90.body.getD .skip
theorem b90 : Tryd.f90.body = some c90 := rfl
theorem d90 : fnOk Tryd.f90 c90 = true := by kernel_rfl
def D90 : Nat → List Tag := fun _ => []
theorem e90 : drawsOk D90 c90 = true := by kernel_rfl
theorem alike_ok (r c : Nat) (f g : Nat → Nat → Int) (S : Heap) (hr : 1 ≤ r ∧ r ≤ 6) (hc : 1 ≤ c ∧ c ≤ 6) : Call theE 125 [mk r c f, mk r c g] S .nili S := by
  have tk1 := take36 (gridP_len c f (r * c))
  have tk2 := take36 (gridP_len c g (r * c))
  have k1 := fun S => check_ok r c f S hr hc
  have k2 := fun S => check_ok r c g S hr hc
  simp only [mk, matA] at k1 k2
  refine Call.ofC Tryd.func125 YtdknnaalfoongaaDoor.b125 YtdknnaalfoongaaDoor.d125 YtdknnaalfoongaaDoor.e125 (by simp [Tryd.f125]) ?_
  dsimp only [YtdknnaalfoongaaDoor.c125, Tryd.f125, Option.getD_some]
  simp (maxSteps := 2000000) only [wk0, wk1, wk2, wk3, wk4, wk5, Fr.ev, Fr.put, Fr.get, pkB, pkT, pkF, storeA, if_false, if_true, Nat.reduceEqDiff, reduceIte, Nat.reduceAdd, List.replicate, Nat.reduceLeDiff, Nat.reduceMul, Nat.reduceSub, Nat.reducePow, Int.reduceLT, Int.reduceLE, Int.reduceToNat, Int.reducePow, IntKind.bits, Int.reduceEq, Int.reduceMul, Int.reduceNeg, ne_eq, reduceCtorEq, BEq.rfl, beq_self_eq_true, Int.reduceAdd, Int.reduceSub, Int.reduceMod, Int.reduceDiv, Nat.reduceMod, Nat.reduceDiv, Nat.reduceLT, cond_true, cond_false, gt_iff_lt, ge_iff_le, mk, matA, List.length_map, gridP_len, tk1, tk2, YtdknnaalfoongaaDoor.D125, ty1, ty3, ty4, ty25, ty54, ty79]
  refine callThen_of (k1 _) ?_
  simp (maxSteps := 2000000) only [wk0, wk1, wk2, wk3, wk4, wk5, Fr.ev, Fr.put, Fr.get, pkB, pkT, pkF, storeA, if_false, if_true, Nat.reduceEqDiff, reduceIte, Nat.reduceAdd, List.replicate, Nat.reduceLeDiff, Nat.reduceMul, Nat.reduceSub, Nat.reducePow, Int.reduceLT, Int.reduceLE, Int.reduceToNat, Int.reducePow, IntKind.bits, Int.reduceEq, Int.reduceMul, Int.reduceNeg, ne_eq, reduceCtorEq, BEq.rfl, beq_self_eq_true, Int.reduceAdd, Int.reduceSub, Int.reduceMod, Int.reduceDiv, Nat.reduceMod, Nat.reduceDiv, Nat.reduceLT, cond_true, cond_false, gt_iff_lt, ge_iff_le, mk, matA, List.length_map, gridP_len, tk1, tk2, YtdknnaalfoongaaDoor.D125, ty1, ty3, ty4, ty25, ty54, ty79]
  refine callThen_of (k2 _) ?_
  simp (maxSteps := 2000000) only [wk0, wk1, wk2, wk3, wk4, wk5, Fr.ev, Fr.put, Fr.get, pkB, pkT, pkF, storeA, if_false, if_true, Nat.reduceEqDiff, reduceIte, Nat.reduceAdd, List.replicate, Nat.reduceLeDiff, Nat.reduceMul, Nat.reduceSub, Nat.reducePow, Int.reduceLT, Int.reduceLE, Int.reduceToNat, Int.reducePow, IntKind.bits, Int.reduceEq, Int.reduceMul, Int.reduceNeg, ne_eq, reduceCtorEq, BEq.rfl, beq_self_eq_true, Int.reduceAdd, Int.reduceSub, Int.reduceMod, Int.reduceDiv, Nat.reduceMod, Nat.reduceDiv, Nat.reduceLT, cond_true, cond_false, gt_iff_lt, ge_iff_le, mk, matA, List.length_map, gridP_len, tk1, tk2, YtdknnaalfoongaaDoor.D125, ty1, ty3, ty4, ty25, ty54, ty79]
  exact retB_plain (by simp [nmd_nili]) rfl (by simp)
theorem matAddOne_ok (r c i j p : Nat) (f g : Nat → Nat → Int) (S : Heap) (hr : r ≤ 6) (hc : c ≤ 6) (hi : i < r) (hj : j < c) (hf : ∀ i j, i < r → j < c → inI (f i j)) (hg : ∀ i j, i < r → j < c → inI (g i j))
    (b1 : blkAt S p 0 = some ⟨.int .i64 r :: .int .i64 c :: (gridP c f (r * c)).map fun x => .int .i64 x, 0⟩) (b2 : blkAt S (p + 1) 0 = some ⟨.int .i64 r :: .int .i64 c :: (gridP c g (r * c)).map fun x => .int .i64 x, 0⟩) :
    Call theE 126 [.int .i64 i, .int .i64 j, .ptr p 0 0, .ptr (p + 1) 0 0] S (.tup [.int .i64 (bndI (f i j + (g i j))), .bool (ovrB (f i j + (g i j)))]) S := by
  have tk1 := take36 (gridP_len c f (r * c))
  have tk2 := take36 (gridP_len c g (r * c))
  have a1 := at_mk r c i j f S hr hc hi hj
  have a2 := at_mk r c i j g S hr hc hi hj
  have ad := add_ok (f i j) (g i j) S (hf _ _ hi hj) (hg _ _ hi hj)
  simp only [mk, matA] at a1 a2
  refine Call.ofC Tryd.func126 YtdknnaalfoongaaDoor.b126 YtdknnaalfoongaaDoor.d126 YtdknnaalfoongaaDoor.e126 (by simp [Tryd.f126]) ?_
  dsimp only [YtdknnaalfoongaaDoor.c126, Tryd.f126, Option.getD_some]
  simp (maxSteps := 2000000) only [wk0, wk1, wk2, wk3, wk4, wk5, Fr.ev, Fr.put, Fr.get, pkB, pkT, pkF, storeA, if_false, if_true, Nat.reduceEqDiff, reduceIte, Nat.reduceAdd, List.replicate, Nat.reduceLeDiff, Nat.reduceMul, Nat.reduceSub, Nat.reducePow, Int.reduceLT, Int.reduceLE, Int.reduceToNat, Int.reducePow, IntKind.bits, Int.reduceEq, Int.reduceMul, Int.reduceNeg, ne_eq, reduceCtorEq, BEq.rfl, beq_self_eq_true, Int.reduceAdd, Int.reduceSub, Int.reduceMod, Int.reduceDiv, Nat.reduceMod, Nat.reduceDiv, Nat.reduceLT, cond_true, cond_false, gt_iff_lt, ge_iff_le, b1, b2, List.length_map, gridP_len, tk1, tk2, YtdknnaalfoongaaDoor.D126, ty2, ty3, ty4, ty54]
  refine callThen_of (a1) ?_
  simp (maxSteps := 2000000) only [wk0, wk1, wk2, wk3, wk4, wk5, Fr.ev, Fr.put, Fr.get, pkB, pkT, pkF, storeA, if_false, if_true, Nat.reduceEqDiff, reduceIte, Nat.reduceAdd, List.replicate, Nat.reduceLeDiff, Nat.reduceMul, Nat.reduceSub, Nat.reducePow, Int.reduceLT, Int.reduceLE, Int.reduceToNat, Int.reducePow, IntKind.bits, Int.reduceEq, Int.reduceMul, Int.reduceNeg, ne_eq, reduceCtorEq, BEq.rfl, beq_self_eq_true, Int.reduceAdd, Int.reduceSub, Int.reduceMod, Int.reduceDiv, Nat.reduceMod, Nat.reduceDiv, Nat.reduceLT, cond_true, cond_false, gt_iff_lt, ge_iff_le, b1, b2, List.length_map, gridP_len, tk1, tk2, YtdknnaalfoongaaDoor.D126, ty2, ty3, ty4, ty54]
  refine callThen_of (a2) ?_
  simp (maxSteps := 2000000) only [wk0, wk1, wk2, wk3, wk4, wk5, Fr.ev, Fr.put, Fr.get, pkB, pkT, pkF, storeA, if_false, if_true, Nat.reduceEqDiff, reduceIte, Nat.reduceAdd, List.replicate, Nat.reduceLeDiff, Nat.reduceMul, Nat.reduceSub, Nat.reducePow, Int.reduceLT, Int.reduceLE, Int.reduceToNat, Int.reducePow, IntKind.bits, Int.reduceEq, Int.reduceMul, Int.reduceNeg, ne_eq, reduceCtorEq, BEq.rfl, beq_self_eq_true, Int.reduceAdd, Int.reduceSub, Int.reduceMod, Int.reduceDiv, Nat.reduceMod, Nat.reduceDiv, Nat.reduceLT, cond_true, cond_false, gt_iff_lt, ge_iff_le, b1, b2, List.length_map, gridP_len, tk1, tk2, YtdknnaalfoongaaDoor.D126, ty2, ty3, ty4, ty54]
  refine callThen_of (ad) ?_
  simp (maxSteps := 2000000) only [wk0, wk1, wk2, wk3, wk4, wk5, Fr.ev, Fr.put, Fr.get, pkB, pkT, pkF, storeA, if_false, if_true, Nat.reduceEqDiff, reduceIte, Nat.reduceAdd, List.replicate, Nat.reduceLeDiff, Nat.reduceMul, Nat.reduceSub, Nat.reducePow, Int.reduceLT, Int.reduceLE, Int.reduceToNat, Int.reducePow, IntKind.bits, Int.reduceEq, Int.reduceMul, Int.reduceNeg, ne_eq, reduceCtorEq, BEq.rfl, beq_self_eq_true, Int.reduceAdd, Int.reduceSub, Int.reduceMod, Int.reduceDiv, Nat.reduceMod, Nat.reduceDiv, Nat.reduceLT, cond_true, cond_false, gt_iff_lt, ge_iff_le, b1, b2, List.length_map, gridP_len, tk1, tk2, YtdknnaalfoongaaDoor.D126, ty2, ty3, ty4, ty54]
  exact retB_plain (by simp [nmd_int, nmd_bool]) rfl (by simp)
theorem matAdd_ok (r c : Nat) (f g : Nat → Nat → Int) (S : Heap) (hr : 1 ≤ r ∧ r ≤ 6) (hc : 1 ≤ c ∧ c ≤ 6) (hf : ∀ i j, i < r → j < c → inI (f i j)) (hg : ∀ i j, i < r → j < c → inI (g i j)) :
    Call theE 116 [mk r c f, mk r c g] S (.tup [mk r c (fun i j => bndI (f i j + (g i j))), .bool (anyP c (fun i j => ovrB (f i j + (g i j))) (r * c)), .nili]) S := by
  have tk1 := take36 (gridP_len c f (r * c))
  have tk2 := take36 (gridP_len c g (r * c))
  have tk3 := take36 (gridP_len c (fun i j => bndI (f i j + (g i j))) (r * c))
  have al : (List.map (fun x => AV.int .i64 x) (gridP c (fun i j => bndI (f i j + (g i j))) (r * c))).all AV.one = true := by simp [AV.one]
  have ck := fun S => alike_ok r c f g S hr hc
  have md := made_ok 126 [.ptr S.length 0 0, .ptr (S.length + 1) 0 0] r c (fun i j => bndI (f i j + (g i j))) (fun i j => ovrB (f i j + (g i j))) (S ++ [some ⟨.int .i64 r :: .int .i64 c :: (gridP c f (r * c)).map fun x => .int .i64 x, 0⟩, some ⟨.int .i64 r :: .int .i64 c :: (gridP c g (r * c)).map fun x => .int .i64 x, 0⟩, some ⟨zero38, 0⟩]) hr.2 hc.2 (by decide)
    (fun i j hi hj L => matAddOne_ok r c i j S.length f g _ hr.2 hc.2 hi hj hf hg (by rw [List.append_assoc, blkAt_app0]; rfl) (by rw [List.append_assoc, blkAt_app]; rfl))
  simp only [mk, matA, zero38, List.replicate] at ck md
  refine Call.ofC Tryd.func116 YtdknnaalfoongaaDoor.b116 YtdknnaalfoongaaDoor.d116 YtdknnaalfoongaaDoor.e116 (by simp [Tryd.f116]) ?_
  dsimp only [YtdknnaalfoongaaDoor.c116, Tryd.f116, Option.getD_some]
  simp (maxSteps := 2000000) only [wk0, wk1, wk2, wk3, wk4, wk5, Fr.ev, Fr.put, Fr.get, pkB, pkT, pkF, storeA, if_false, if_true, Nat.reduceEqDiff, reduceIte, Nat.reduceAdd, List.replicate, Nat.reduceLeDiff, Nat.reduceMul, Nat.reduceSub, Nat.reducePow, Int.reduceLT, Int.reduceLE, Int.reduceToNat, Int.reducePow, IntKind.bits, Int.reduceEq, Int.reduceMul, Int.reduceNeg, ne_eq, reduceCtorEq, BEq.rfl, beq_self_eq_true, Int.reduceAdd, Int.reduceSub, Int.reduceMod, Int.reduceDiv, Nat.reduceMod, Nat.reduceDiv, Nat.reduceLT, cond_true, cond_false, gt_iff_lt, ge_iff_le, mk, matA, List.length_map, gridP_len, tk1, tk2, tk3, al, YtdknnaalfoongaaDoor.D116, ty1, ty3, ty4, ty25, ty54, ty157]
  refine callThen_of (ck _) ?_
  simp (maxSteps := 2000000) only [wk0, wk1, wk2, wk3, wk4, wk5, Fr.ev, Fr.put, Fr.get, pkB, pkT, pkF, storeA, if_false, if_true, Nat.reduceEqDiff, reduceIte, Nat.reduceAdd, List.replicate, Nat.reduceLeDiff, Nat.reduceMul, Nat.reduceSub, Nat.reducePow, Int.reduceLT, Int.reduceLE, Int.reduceToNat, Int.reducePow, IntKind.bits, Int.reduceEq, Int.reduceMul, Int.reduceNeg, ne_eq, reduceCtorEq, BEq.rfl, beq_self_eq_true, Int.reduceAdd, Int.reduceSub, Int.reduceMod, Int.reduceDiv, Nat.reduceMod, Nat.reduceDiv, Nat.reduceLT, cond_true, cond_false, gt_iff_lt, ge_iff_le, mk, matA, List.length_map, gridP_len, tk1, tk2, tk3, al, YtdknnaalfoongaaDoor.D116, ty1, ty3, ty4, ty25, ty54, ty157]
  refine callThen_of (md) ?_
  simp (maxSteps := 2000000) only [wk0, wk1, wk2, wk3, wk4, wk5, Fr.ev, Fr.put, Fr.get, pkB, pkT, pkF, storeA, if_false, if_true, Nat.reduceEqDiff, reduceIte, Nat.reduceAdd, List.replicate, Nat.reduceLeDiff, Nat.reduceMul, Nat.reduceSub, Nat.reducePow, Int.reduceLT, Int.reduceLE, Int.reduceToNat, Int.reducePow, IntKind.bits, Int.reduceEq, Int.reduceMul, Int.reduceNeg, ne_eq, reduceCtorEq, BEq.rfl, beq_self_eq_true, Int.reduceAdd, Int.reduceSub, Int.reduceMod, Int.reduceDiv, Nat.reduceMod, Nat.reduceDiv, Nat.reduceLT, cond_true, cond_false, gt_iff_lt, ge_iff_le, mk, matA, List.length_map, gridP_len, tk1, tk2, tk3, al, YtdknnaalfoongaaDoor.D116, ty1, ty3, ty4, ty25, ty54, ty157]
  exact retB_plain (by simp [nmd_agg, nmd_int, nmd_nili, nmd_bool]) (by simp [packA]) (by simp)
theorem part_lst {l : List Int} {i : Nat} (h : i < l.length) : List.take 1 (List.drop i (l.map fun x => AV.int .i64 x)) = [.int .i64 (l.getD i 0)] := by
  rw [List.drop_eq_getElem_cons (by simpa using h)]
  simp [List.getD_eq_getElem?_getD, List.getElem?_eq_getElem h]
theorem rowM_ok (r c i : Nat) (f : Nat → Nat → Int) (S : Heap) (hr : 1 ≤ r ∧ r ≤ 6) (hc : 1 ≤ c ∧ c ≤ 6) (hi : i < r) :
    Call theE 90 [mk r c f, .int .i64 i] S (.tup [lstI (rowF f c i), .nili]) S := by
  have h36 : r * c ≤ 36 := by have := Nat.mul_le_mul hr.2 hc.2; omega
  have hin : i * c + c ≤ r * c := by
    have := Nat.mul_le_mul_right c (show i + 1 ≤ r by omega)
    rw [Nat.add_mul, Nat.one_mul] at this
    omega
  have e2 : (i + 1) * c = i * c + c := by rw [Nat.add_mul, Nat.one_mul]
  have tk := take36 (gridP_len c f (r * c))
  have ck := fun S => check_ok r c f S hr hc
  have w1 : IntKind.i64.wrap ((i : Int) * c) = ((i * c : Nat) : Int) := by rw [wrapI (by rw [← Int.natCast_mul]; omega)]; simp
  have w2 : IntKind.i64.wrap ((i : Int) + 1) = ((i + 1 : Nat) : Int) := wrapI (by omega)
  have w3 : IntKind.i64.wrap (((i + 1 : Nat) : Int) * c) = ((i * c + c : Nat) : Int) := by rw [← e2, wrapI (by rw [← Int.natCast_mul, e2]; omega)]; simp
  have q1 : ¬ (i : Int) < 0 := by omega
  have q2 : ¬ (r : Int) ≤ i := by omega
  have k1 : (0 : Int) ≤ ((i * c : Nat) : Int) := by omega
  have k2 : ((i * c : Nat) : Int) ≤ ((i * c + c : Nat) : Int) := by omega
  have k3 : ((i * c + c : Nat) : Int) ≤ 36 := by omega
  have k4 : ¬ ((i * c : Nat) : Int) = ((i * c + c : Nat) : Int) := by omega
  have k5 : i * c + c - i * c = c := by omega
  have a1 : c * 8 ≤ maxBytes := by unfold maxBytes; omega
  have a2 : c ≤ 9223372036854775807 := by omega
  have k6 : 2 + i * c + c ≤ 38 := by omega
  have rc := row_cells r c i f (r : Int) (c : Int) hi h36
  have lr : (rowF f c i).length = c := by simp [rowF]
  simp only [mk, matA] at ck
  refine Call.ofC Tryd.func90 YtdknnaalfoongaaDoor.b90 YtdknnaalfoongaaDoor.d90 YtdknnaalfoongaaDoor.e90 (by simp [Tryd.f90]) ?_
  dsimp only [YtdknnaalfoongaaDoor.c90, Tryd.f90, Option.getD_some]
  simp (maxSteps := 2000000) only [wk0, wk1, wk2, wk3, wk4, wk5, Fr.ev, Fr.put, Fr.get, pkB, pkT, pkF, storeA, if_false, if_true, Nat.reduceEqDiff, reduceIte, Nat.reduceAdd, List.replicate, Nat.reduceLeDiff, Nat.reduceMul, Nat.reduceSub, Nat.reducePow, Int.reduceLT, Int.reduceLE, Int.reduceToNat, Int.reducePow, IntKind.bits, Int.reduceEq, Int.reduceMul, Int.reduceNeg, ne_eq, reduceCtorEq, BEq.rfl, beq_self_eq_true, Int.reduceAdd, Int.reduceSub, Int.reduceMod, Int.reduceDiv, Nat.reduceMod, Nat.reduceDiv, Nat.reduceLT, cond_true, cond_false, gt_iff_lt, ge_iff_le, mk, matA, List.length_map, gridP_len, tk, q1, q2, bd_none, bd_some, bv_int, sa_arr, w1, w2, w3, k1, k2, k3, k4, k5, k6, Int.toNat_natCast, Nat.mul_one, Nat.le_refl, a1, a2, rc, YtdknnaalfoongaaDoor.D90, ty1, ty2, ty3, ty4, ty25, ty52, ty54, ty60, ty79]
  refine callThen_of (ck _) ?_
  simp (maxSteps := 2000000) only [wk0, wk1, wk2, wk3, wk4, wk5, Fr.ev, Fr.put, Fr.get, pkB, pkT, pkF, storeA, if_false, if_true, Nat.reduceEqDiff, reduceIte, Nat.reduceAdd, List.replicate, Nat.reduceLeDiff, Nat.reduceMul, Nat.reduceSub, Nat.reducePow, Int.reduceLT, Int.reduceLE, Int.reduceToNat, Int.reducePow, IntKind.bits, Int.reduceEq, Int.reduceMul, Int.reduceNeg, ne_eq, reduceCtorEq, BEq.rfl, beq_self_eq_true, Int.reduceAdd, Int.reduceSub, Int.reduceMod, Int.reduceDiv, Nat.reduceMod, Nat.reduceDiv, Nat.reduceLT, cond_true, cond_false, gt_iff_lt, ge_iff_le, mk, matA, List.length_map, gridP_len, tk, q1, q2, bd_none, bd_some, bv_int, sa_arr, w1, w2, w3, k1, k2, k3, k4, k5, k6, Int.toNat_natCast, Nat.mul_one, Nat.le_refl, a1, a2, rc, YtdknnaalfoongaaDoor.D90, ty1, ty2, ty3, ty4, ty25, ty52, ty54, ty60, ty79]
  refine retB_two ?_ (.same _ .nili) (by simp)
  have h := fin_sl (base := S.length) (id := S.length + 1) (ver := c) (cap := c) (u := c) (L := rowF f c i) (H := S ++ [some ⟨.int .i64 r :: .int .i64 c :: (gridP c f (r * c)).map fun x => .int .i64 x, 0⟩, some ⟨(rowF f c i).map fun x => .int .i64 x, c⟩]) (by omega) (by rw [blkAt_app, blkAt_succ, blkAt_zero])
  rw [lr] at h
  exact h
end Go.Proofs.YtdknnaalfoongaaDoor
