/- predict: a blank state; layer 12's helpers; what layer 12's statements are sure of. -/
import Derived.Test.YtdknnaalfoongaaDoorS1
set_option linter.unusedSimpArgs false
set_option linter.unusedVariables false
set_option maxRecDepth 100000
set_option maxHeartbeats 8000000
namespace Go.Proofs.YtdknnaalfoongaaDoor
def blX (x vx y vy : Int) : Nat → Int
  | 0 => x
  | 1 => vx
  | 2 => 0
  | 3 => y
  | 4 => vy
  | _ => 0
def blD (a b c : Int) : Nat → Int
  | 0 => a
  | 1 => b
  | 2 => c
  | 3 => a
  | 4 => b
  | _ => c
def blF (a b c : Int) (i j : Nat) : Int := if i = j then blD a b c i else 0
theorem bl_ok {x vx y vy a b c : Int} (h1 : topI x ∧ topI vx ∧ topI y ∧ topI vy) (h2 : topI a ∧ topI b ∧ topI c) (h3 : 1 ≤ a ∧ 1 ≤ b ∧ 1 ≤ c) : OkS (blX x vx y vy) (blF a b c) := by
  have hd : ∀ i, topI (blD a b c i) ∧ 0 ≤ blD a b c i := by
    intro i
    unfold blD
    split <;> (constructor <;> first | exact h2.1 | exact h2.2.1 | exact h2.2.2 | omega)
  refine ⟨fun i j _ _ => ?_, fun i j _ _ => ?_, fun i _ => ?_, fun i _ => ?_⟩
  · unfold blF
    by_cases e : i = j
    · subst e; rfl
    · rw [if_neg e, if_neg (Ne.symm e)]
  · unfold blF
    split
    · exact (hd _).1
    · unfold topI; omega
  · unfold blF; rw [if_pos rfl]; exact (hd _).2
  · unfold blX
    split
    · exact h1.1
    · exact h1.2.1
    · unfold topI; omega
    · exact h1.2.2.1
    · exact h1.2.2.2
    · unfold topI; omega
noncomputable def c18 : Code := Tryd.f18.body.getD .skip
theorem b18 : Tryd.f18.body = some c18 := rfl
theorem d18 : fnOk Tryd.f18 c18 = true := by kernel_rfl
def D18 : Nat → List Tag := fun _ => []
theorem e18 : drawsOk D18 c18 = true := by kernel_rfl
noncomputable def c21 : Code := Tryd.f21.body.getD .skip
theorem b21 : Tryd.f21.body = some c21 := rfl
theorem d21 : fnOk Tryd.f21 c21 = true := by kernel_rfl
def D21 : Nat → List Tag := fun _ => []
theorem e21 : drawsOk D21 c21 = true := by kernel_rfl
theorem blank12_ok (x y vx vy a b c : Int) (S : Heap) (h1 : topI x ∧ topI vx ∧ topI y ∧ topI vy) (h2 : topI a ∧ topI b ∧ topI c) (h3 : 1 ≤ a ∧ 1 ≤ b ∧ 1 ≤ c) :
    Call theE 18 [.int .i64 x, .int .i64 y, .int .i64 vx, .int .i64 vy, .int .i64 a, .int .i64 b, .int .i64 c] S (.tup [stA (blX x vx y vy) (blF a b c), .nili]) S := by
  have ck := fun S => check12_ok (blX x vx y vy) (blF a b c) S (bl_ok h1 h2 h3)
  have eg : (gridP 6 (blF a b c) 36).map (fun x => AV.int .i64 x) = [.int .i64 a, .int .i64 0, .int .i64 0, .int .i64 0, .int .i64 0, .int .i64 0, .int .i64 0, .int .i64 b, .int .i64 0, .int .i64 0, .int .i64 0, .int .i64 0, .int .i64 0, .int .i64 0, .int .i64 c, .int .i64 0, .int .i64 0, .int .i64 0,
      .int .i64 0, .int .i64 0, .int .i64 0, .int .i64 a, .int .i64 0, .int .i64 0, .int .i64 0, .int .i64 0, .int .i64 0, .int .i64 0, .int .i64 b, .int .i64 0, .int .i64 0, .int .i64 0, .int .i64 0, .int .i64 0, .int .i64 0, .int .i64 c] := rfl
  simp only [stA, stC, eg, blX] at ck ⊢
  have a1 : ¬ a < 1 := by omega
  have b1 : ¬ b < 1 := by omega
  have c1 : ¬ c < 1 := by omega
  refine Call.ofC Tryd.func18 YtdknnaalfoongaaDoor.b18 YtdknnaalfoongaaDoor.d18 YtdknnaalfoongaaDoor.e18 (by simp [Tryd.f18]) ?_
  dsimp only [YtdknnaalfoongaaDoor.c18, Tryd.f18, Option.getD_some]
  simp (maxSteps := 2000000) only [wk0, wk1, wk2, wk3, wk4, wk5, Fr.ev, Fr.put, Fr.get, pkB, pkT, pkF, storeA, if_false, if_true, Nat.reduceEqDiff, reduceIte, Nat.reduceAdd, List.replicate, Nat.reduceLeDiff, Nat.reduceMul, Nat.reduceSub, Nat.reducePow, Int.reduceLT, Int.reduceLE, Int.reduceToNat, Int.reducePow, IntKind.bits, Int.reduceEq, Int.reduceMul, Int.reduceNeg, ne_eq, reduceCtorEq, BEq.rfl, beq_self_eq_true, Int.reduceAdd, Int.reduceSub, Int.reduceMod, Int.reduceDiv, Nat.reduceMod, Nat.reduceDiv, Nat.reduceLT, cond_true, cond_false, gt_iff_lt, ge_iff_le, YtdknnaalfoongaaDoor.D18, ty1, ty2, ty3, ty4, ty25, ty51, ty52, ty54, ty56, ty79]
  refine loopC_of ?_
  simp (maxSteps := 2000000) only [wk0, wk1, wk2, wk3, wk4, wk5, Fr.ev, Fr.put, Fr.get, pkB, pkT, pkF, storeA, if_false, if_true, Nat.reduceEqDiff, reduceIte, Nat.reduceAdd, List.replicate, Nat.reduceLeDiff, Nat.reduceMul, Nat.reduceSub, Nat.reducePow, Int.reduceLT, Int.reduceLE, Int.reduceToNat, Int.reducePow, IntKind.bits, Int.reduceEq, Int.reduceMul, Int.reduceNeg, ne_eq, reduceCtorEq, BEq.rfl, beq_self_eq_true, Int.reduceAdd, Int.reduceSub, Int.reduceMod, Int.reduceDiv, Nat.reduceMod, Nat.reduceDiv, Nat.reduceLT, cond_true, cond_false, gt_iff_lt, ge_iff_le, a1, YtdknnaalfoongaaDoor.D18, ty1, ty2, ty3, ty4, ty25, ty51, ty52, ty54, ty56, ty79]
  refine loopC_of ?_
  simp (maxSteps := 2000000) only [wk0, wk1, wk2, wk3, wk4, wk5, Fr.ev, Fr.put, Fr.get, pkB, pkT, pkF, storeA, if_false, if_true, Nat.reduceEqDiff, reduceIte, Nat.reduceAdd, List.replicate, Nat.reduceLeDiff, Nat.reduceMul, Nat.reduceSub, Nat.reducePow, Int.reduceLT, Int.reduceLE, Int.reduceToNat, Int.reducePow, IntKind.bits, Int.reduceEq, Int.reduceMul, Int.reduceNeg, ne_eq, reduceCtorEq, BEq.rfl, beq_self_eq_true, Int.reduceAdd, Int.reduceSub, Int.reduceMod, Int.reduceDiv, Nat.reduceMod, Nat.reduceDiv, Nat.reduceLT, cond_true, cond_false, gt_iff_lt, ge_iff_le, b1, YtdknnaalfoongaaDoor.D18, ty1, ty2, ty3, ty4, ty25, ty51, ty52, ty54, ty56, ty79]
  refine loopC_of ?_
  simp (maxSteps := 2000000) only [wk0, wk1, wk2, wk3, wk4, wk5, Fr.ev, Fr.put, Fr.get, pkB, pkT, pkF, storeA, if_false, if_true, Nat.reduceEqDiff, reduceIte, Nat.reduceAdd, List.replicate, Nat.reduceLeDiff, Nat.reduceMul, Nat.reduceSub, Nat.reducePow, Int.reduceLT, Int.reduceLE, Int.reduceToNat, Int.reducePow, IntKind.bits, Int.reduceEq, Int.reduceMul, Int.reduceNeg, ne_eq, reduceCtorEq, BEq.rfl, beq_self_eq_true, Int.reduceAdd, Int.reduceSub, Int.reduceMod, Int.reduceDiv, Nat.reduceMod, Nat.reduceDiv, Nat.reduceLT, cond_true, cond_false, gt_iff_lt, ge_iff_le, c1, YtdknnaalfoongaaDoor.D18, ty1, ty2, ty3, ty4, ty25, ty51, ty52, ty54, ty56, ty79]
  refine loopC_of ?_
  simp (maxSteps := 2000000) only [wk0, wk1, wk2, wk3, wk4, wk5, Fr.ev, Fr.put, Fr.get, pkB, pkT, pkF, storeA, if_false, if_true, Nat.reduceEqDiff, reduceIte, Nat.reduceAdd, List.replicate, Nat.reduceLeDiff, Nat.reduceMul, Nat.reduceSub, Nat.reducePow, Int.reduceLT, Int.reduceLE, Int.reduceToNat, Int.reducePow, IntKind.bits, Int.reduceEq, Int.reduceMul, Int.reduceNeg, ne_eq, reduceCtorEq, BEq.rfl, beq_self_eq_true, Int.reduceAdd, Int.reduceSub, Int.reduceMod, Int.reduceDiv, Nat.reduceMod, Nat.reduceDiv, Nat.reduceLT, cond_true, cond_false, gt_iff_lt, ge_iff_le, a1, YtdknnaalfoongaaDoor.D18, ty1, ty2, ty3, ty4, ty25, ty51, ty52, ty54, ty56, ty79]
  refine loopC_of ?_
  simp (maxSteps := 2000000) only [wk0, wk1, wk2, wk3, wk4, wk5, Fr.ev, Fr.put, Fr.get, pkB, pkT, pkF, storeA, if_false, if_true, Nat.reduceEqDiff, reduceIte, Nat.reduceAdd, List.replicate, Nat.reduceLeDiff, Nat.reduceMul, Nat.reduceSub, Nat.reducePow, Int.reduceLT, Int.reduceLE, Int.reduceToNat, Int.reducePow, IntKind.bits, Int.reduceEq, Int.reduceMul, Int.reduceNeg, ne_eq, reduceCtorEq, BEq.rfl, beq_self_eq_true, Int.reduceAdd, Int.reduceSub, Int.reduceMod, Int.reduceDiv, Nat.reduceMod, Nat.reduceDiv, Nat.reduceLT, cond_true, cond_false, gt_iff_lt, ge_iff_le, b1, YtdknnaalfoongaaDoor.D18, ty1, ty2, ty3, ty4, ty25, ty51, ty52, ty54, ty56, ty79]
  refine loopC_of ?_
  simp (maxSteps := 2000000) only [wk0, wk1, wk2, wk3, wk4, wk5, Fr.ev, Fr.put, Fr.get, pkB, pkT, pkF, storeA, if_false, if_true, Nat.reduceEqDiff, reduceIte, Nat.reduceAdd, List.replicate, Nat.reduceLeDiff, Nat.reduceMul, Nat.reduceSub, Nat.reducePow, Int.reduceLT, Int.reduceLE, Int.reduceToNat, Int.reducePow, IntKind.bits, Int.reduceEq, Int.reduceMul, Int.reduceNeg, ne_eq, reduceCtorEq, BEq.rfl, beq_self_eq_true, Int.reduceAdd, Int.reduceSub, Int.reduceMod, Int.reduceDiv, Nat.reduceMod, Nat.reduceDiv, Nat.reduceLT, cond_true, cond_false, gt_iff_lt, ge_iff_le, c1, YtdknnaalfoongaaDoor.D18, ty1, ty2, ty3, ty4, ty25, ty51, ty52, ty54, ty56, ty79]
  refine loopC_of ?_
  simp (maxSteps := 2000000) only [wk0, wk1, wk2, wk3, wk4, wk5, Fr.ev, Fr.put, Fr.get, pkB, pkT, pkF, storeA, if_false, if_true, Nat.reduceEqDiff, reduceIte, Nat.reduceAdd, List.replicate, Nat.reduceLeDiff, Nat.reduceMul, Nat.reduceSub, Nat.reducePow, Int.reduceLT, Int.reduceLE, Int.reduceToNat, Int.reducePow, IntKind.bits, Int.reduceEq, Int.reduceMul, Int.reduceNeg, ne_eq, reduceCtorEq, BEq.rfl, beq_self_eq_true, Int.reduceAdd, Int.reduceSub, Int.reduceMod, Int.reduceDiv, Nat.reduceMod, Nat.reduceDiv, Nat.reduceLT, cond_true, cond_false, gt_iff_lt, ge_iff_le, YtdknnaalfoongaaDoor.D18, ty1, ty2, ty3, ty4, ty25, ty51, ty52, ty54, ty56, ty79]
  refine callThen_of (ck _) ?_
  simp (maxSteps := 2000000) only [wk0, wk1, wk2, wk3, wk4, wk5, Fr.ev, Fr.put, Fr.get, pkB, pkT, pkF, storeA, if_false, if_true, Nat.reduceEqDiff, reduceIte, Nat.reduceAdd, List.replicate, Nat.reduceLeDiff, Nat.reduceMul, Nat.reduceSub, Nat.reducePow, Int.reduceLT, Int.reduceLE, Int.reduceToNat, Int.reducePow, IntKind.bits, Int.reduceEq, Int.reduceMul, Int.reduceNeg, ne_eq, reduceCtorEq, BEq.rfl, beq_self_eq_true, Int.reduceAdd, Int.reduceSub, Int.reduceMod, Int.reduceDiv, Nat.reduceMod, Nat.reduceDiv, Nat.reduceLT, cond_true, cond_false, gt_iff_lt, ge_iff_le, YtdknnaalfoongaaDoor.D18, ty1, ty2, ty3, ty4, ty25, ty51, ty52, ty54, ty56, ty79]
  exact retB_plain (by simp [nmd_agg, nmd_int, nmd_nili]) rfl (by simp)
def SixL (l : List (List Int)) : Prop := MayR l ∧ l.length = 6 ∧ (l.getD 0 []).length = 6
def suF (i j : Nat) : Int := if i = j then 1048576 else if i = 0 ∧ j = 1 then 1048576 else 0
theorem sure12_ok (S : Heap) : Call theE 21 [] S (.bool true) S := by
  have q1 := fun S => blank12_ok 0 0 10485760 0 1048576 1048576 1048576 S (by decide) (by decide) (by decide)
  have q2 := fun S => eye_ok 6 S (by decide)
  have q3 := fun S => next12_ok (blX 0 10485760 0 0) (blF 1048576 1048576 1048576) suF (fun _ _ => 0) S (bl_ok (by decide) (by decide) (by decide)) (fun i j _ _ => by unfold suF inI; split <;> (try split) <;> omega) (fun _ _ _ _ => by unfold inI; omega)
  have e0 : nxX (blX 0 10485760 0 0) suF 0 = 10485760 := by decide
  have e1 : nxX (blX 0 10485760 0 0) suF 1 = 10485760 := by decide
  have eo : nxO (blX 0 10485760 0 0) (blF 1048576 1048576 1048576) suF (fun _ _ => 0) = false := by decide
  have g0 := grid_at (sprF (blF 1048576 1048576 1048576) suF (fun _ _ => 0)) 0 (by decide)
  have g1 := grid_at (sprF (blF 1048576 1048576 1048576) suF (fun _ _ => 0)) 1 (by decide)
  have e2 : sprF (blF 1048576 1048576 1048576) suF (fun _ _ => 0) (0 / 6) (0 % 6) = 2097152 := by decide
  have e3 : sprF (blF 1048576 1048576 1048576) suF (fun _ _ => 0) (1 / 6) (1 % 6) = 1048576 := by decide
  rw [e2] at g0
  rw [e3] at g1
  have ee : (gridP 6 (eyeP 6) 36).map (fun x => AV.int .i64 x) = (AV.int .i64 1048576 :: AV.int .i64 0 :: ((gridP 6 (eyeP 6) 36).drop 2).map fun x => AV.int .i64 x) := rfl
  have es : (gridP 6 suF 36).map (fun x => AV.int .i64 x) = (AV.int .i64 1048576 :: AV.int .i64 1048576 :: ((gridP 6 (eyeP 6) 36).drop 2).map fun x => AV.int .i64 x) := rfl
  have ez : (gridP 6 (fun _ _ => 0) 36).map (fun x => AV.int .i64 x) = List.replicate 36 (.int .i64 0) := rfl
  have el : ((gridP 6 (eyeP 6) 36).drop 2).length = 34 := by simp [gridP_len]
  simp only [stA, stC, mk, matA, Nat.reduceMul, castLit, eo, e0, e1, ee, es, ez, List.replicate] at q1 q2 q3
  generalize (gridP 6 (eyeP 6) 36).drop 2 = R at *
  have tR : List.take 34 (R.map fun x => AV.int .i64 x) = R.map fun x => .int .i64 x := List.take_of_length_le (by simp [el])
  have aR := all36g R
  generalize sprF (blF 1048576 1048576 1048576) suF (fun _ _ => 0) = F2 at *
  generalize blF 1048576 1048576 1048576 = F1 at *
  generalize blX 0 10485760 0 0 = X1 at *
  generalize nxX X1 suF = X2 at *
  refine Call.ofC Tryd.func21 YtdknnaalfoongaaDoor.b21 YtdknnaalfoongaaDoor.d21 YtdknnaalfoongaaDoor.e21 (by simp [Tryd.f21]) ?_
  dsimp only [YtdknnaalfoongaaDoor.c21, Tryd.f21, Option.getD_some]
  simp (maxSteps := 2000000) only [wk0, wk1, wk2, wk3, wk4, wk5, Fr.ev, Fr.put, Fr.get, pkB, pkT, pkF, storeA, if_false, if_true, Nat.reduceEqDiff, reduceIte, Nat.reduceAdd, List.replicate, Nat.reduceLeDiff, Nat.reduceMul, Nat.reduceSub, Nat.reducePow, Int.reduceLT, Int.reduceLE, Int.reduceToNat, Int.reducePow, IntKind.bits, Int.reduceEq, Int.reduceMul, Int.reduceNeg, ne_eq, reduceCtorEq, BEq.rfl, beq_self_eq_true, Int.reduceAdd, Int.reduceSub, Int.reduceMod, Int.reduceDiv, Nat.reduceMod, Nat.reduceDiv, Nat.reduceLT, cond_true, cond_false, gt_iff_lt, ge_iff_le, g0, g1, List.length_cons, List.length_map, gridP_len, el, tR, aR, List.take_succ_cons, List.drop_succ_cons, List.drop_zero, List.take_zero, take36g, all36g, List.getElem?_cons_succ, List.getElem?_cons_zero, YtdknnaalfoongaaDoor.D21, ty1, ty2, ty3, ty4, ty25, ty51, ty52, ty54, ty56]
  refine callThen_of (q1 _) ?_
  simp (maxSteps := 2000000) only [wk0, wk1, wk2, wk3, wk4, wk5, Fr.ev, Fr.put, Fr.get, pkB, pkT, pkF, storeA, if_false, if_true, Nat.reduceEqDiff, reduceIte, Nat.reduceAdd, List.replicate, Nat.reduceLeDiff, Nat.reduceMul, Nat.reduceSub, Nat.reducePow, Int.reduceLT, Int.reduceLE, Int.reduceToNat, Int.reducePow, IntKind.bits, Int.reduceEq, Int.reduceMul, Int.reduceNeg, ne_eq, reduceCtorEq, BEq.rfl, beq_self_eq_true, Int.reduceAdd, Int.reduceSub, Int.reduceMod, Int.reduceDiv, Nat.reduceMod, Nat.reduceDiv, Nat.reduceLT, cond_true, cond_false, gt_iff_lt, ge_iff_le, g0, g1, List.length_cons, List.length_map, gridP_len, el, tR, aR, List.take_succ_cons, List.drop_succ_cons, List.drop_zero, List.take_zero, take36g, all36g, List.getElem?_cons_succ, List.getElem?_cons_zero, YtdknnaalfoongaaDoor.D21, ty1, ty2, ty3, ty4, ty25, ty51, ty52, ty54, ty56]
  refine callThen_of (q2 _) ?_
  simp (maxSteps := 2000000) only [wk0, wk1, wk2, wk3, wk4, wk5, Fr.ev, Fr.put, Fr.get, pkB, pkT, pkF, storeA, if_false, if_true, Nat.reduceEqDiff, reduceIte, Nat.reduceAdd, List.replicate, Nat.reduceLeDiff, Nat.reduceMul, Nat.reduceSub, Nat.reducePow, Int.reduceLT, Int.reduceLE, Int.reduceToNat, Int.reducePow, IntKind.bits, Int.reduceEq, Int.reduceMul, Int.reduceNeg, ne_eq, reduceCtorEq, BEq.rfl, beq_self_eq_true, Int.reduceAdd, Int.reduceSub, Int.reduceMod, Int.reduceDiv, Nat.reduceMod, Nat.reduceDiv, Nat.reduceLT, cond_true, cond_false, gt_iff_lt, ge_iff_le, g0, g1, List.length_cons, List.length_map, gridP_len, el, tR, aR, List.take_succ_cons, List.drop_succ_cons, List.drop_zero, List.take_zero, take36g, all36g, List.getElem?_cons_succ, List.getElem?_cons_zero, YtdknnaalfoongaaDoor.D21, ty1, ty2, ty3, ty4, ty25, ty51, ty52, ty54, ty56]
  refine callThen_of (q3 _) ?_
  simp (maxSteps := 2000000) only [wk0, wk1, wk2, wk3, wk4, wk5, Fr.ev, Fr.put, Fr.get, pkB, pkT, pkF, storeA, if_false, if_true, Nat.reduceEqDiff, reduceIte, Nat.reduceAdd, List.replicate, Nat.reduceLeDiff, Nat.reduceMul, Nat.reduceSub, Nat.reducePow, Int.reduceLT, Int.reduceLE, Int.reduceToNat, Int.reducePow, IntKind.bits, Int.reduceEq, Int.reduceMul, Int.reduceNeg, ne_eq, reduceCtorEq, BEq.rfl, beq_self_eq_true, Int.reduceAdd, Int.reduceSub, Int.reduceMod, Int.reduceDiv, Nat.reduceMod, Nat.reduceDiv, Nat.reduceLT, cond_true, cond_false, gt_iff_lt, ge_iff_le, g0, g1, List.length_cons, List.length_map, gridP_len, el, tR, aR, List.take_succ_cons, List.drop_succ_cons, List.drop_zero, List.take_zero, take36g, all36g, List.getElem?_cons_succ, List.getElem?_cons_zero, YtdknnaalfoongaaDoor.D21, ty1, ty2, ty3, ty4, ty25, ty51, ty52, ty54, ty56]
  exact retB_plain (by simp [nmd_bool]) rfl (by simp)
end Go.Proofs.YtdknnaalfoongaaDoor
