/- radomeref38: how long the way is. -/
import Derived.Test.YtdknnaalfoongaaDoorT9
import Derived.Test.YtdknnaalfoongaaDoorT3
import Derived.Test.YtdknnaalfoongaaDoorAs
import Derived.Test.YtdknnaalfoongaaDoorT4
import Derived.Test.YtdknnaalfoongaaDoorP7
set_option linter.unusedSimpArgs false
set_option linter.unusedVariables false
set_option maxRecDepth 100000
set_option maxHeartbeats 4000000
namespace Go.Proofs.YtdknnaalfoongaaDoor
def lnZ (r : Nat → Int) : Nat → Int
  | 0 => 0
  | n + 1 => lnZ r n + r (n + 1)
theorem sq_le_of {r N M : Int} (h0 : 0 ≤ r) (hM : 0 ≤ M) (h : r * r ≤ N) (hN : N < (M + 1) * (M + 1)) : r ≤ M := by
  rcases Int.lt_or_le M r with h1 | h1
  · exfalso
    have := Int.mul_le_mul (show M + 1 ≤ r by omega) (show M + 1 ≤ r by omega) (by omega) h0
    omega
  · exact h1
theorem sq_bound {z B : Int} (h1 : -B ≤ z) (h2 : z ≤ B) : z * z ≤ B * B := by
  rcases Int.le_total 0 z with hz | hz
  · exact Int.mul_le_mul h2 h2 hz (by omega)
  · have := Int.mul_le_mul (show -z ≤ B by omega) (show -z ≤ B by omega) (by omega) (show 0 ≤ B by omega)
    rwa [Int.neg_mul_neg] at this
/-- No step is longer than the field. -/
theorem far_le {F : Nat → Pt} {r : Nat → Int} {n i : Nat} (hf : farR F r n) (hp : ∀ i, i < n → mayP (F i)) (h1 : 1 ≤ i) (h2 : i < n) : 0 ≤ r i ∧ r i ≤ 140737488355328 := by
  obtain ⟨⟨a, b⟩, c, d⟩ := hf i h1 h2
  have ha := hp i h2
  have hb := hp (i - 1) (by omega)
  unfold mayP at ha hb
  have e1 := sq_bound (z := (F i).x - (F (i - 1)).x) (B := 70368744177664) (by omega) (by omega)
  have e2 := sq_bound (z := (F i).y - (F (i - 1)).y) (B := 70368744177664) (by omega) (by omega)
  refine ⟨a, sq_le_of a (by decide) c (Int.lt_of_le_of_lt (Int.add_le_add e1 e2) (by decide))⟩
theorem lnZ_bound {F : Nat → Pt} {r : Nat → Int} {n : Nat} (hf : farR F r n) (hp : ∀ i, i < n → mayP (F i)) (j : Nat) (hj : j < n) : 0 ≤ lnZ r j ∧ lnZ r j ≤ j * 140737488355328 := by
  induction j with
  | zero => simp [lnZ]
  | succ j ih =>
    have h1 := ih (by omega)
    have h2 := far_le hf hp (i := j + 1) (by omega) hj
    simp only [lnZ]
    omega
/-- Nothing is bounded on the way. -/
theorem lnS_eq {F : Nat → Pt} {r : Nat → Int} {n : Nat} (hf : farR F r n) (hp : ∀ i, i < n → mayP (F i)) (hb : n ≤ 256) (j : Nat) (hj : j < n) : lnS r j = lnZ r j ∧ lnO r j = false := by
  induction j with
  | zero => exact ⟨rfl, rfl⟩
  | succ j ih =>
    obtain ⟨h1, h2⟩ := ih (by omega)
    have h3 := lnZ_bound hf hp (j + 1) hj
    simp only [lnS, lnO, lnZ, h1, h2, Bool.false_or] at h3 ⊢
    unfold bndI ovrB
    exact ⟨by omega, decide_eq_false (by omega)⟩
noncomputable def c15 : Code := Tryd.f15.body.getD .skip
theorem b15 : Tryd.f15.body = some c15 := rfl
theorem d15 : fnOk Tryd.f15 c15 = true := by kernel_rfl
def D15 : Nat → List Tag
  | 5 => [.quiet, .pure, .pure, .pure, .pure, .quiet, .pure, .pure, .pure, .pure, .pure, .quiet, .pure, .pure, .pure, .pure, .pure, .quiet, .pure, .pure, .pure, .pure, .pure, .quiet, .pure, .quiet, .quiet, .seq, .seq]
  | _ => []
theorem e15 : drawsOk D15 c15 = true := by kernel_rfl
theorem long38_few (F : Nat → Pt) (n : Nat) (S : Heap) (h : n < 2) : Call theE 15 [slP F n] S (.tup [.int .i64 0, .bool false]) S := by
  have k : ¬ (1 : Int) < (n : Int) := by omega
  have bz := fun S => decBoundZ_ok S
  unfold slP
  refine Call.ofC Tryd.func15 YtdknnaalfoongaaDoor.b15 YtdknnaalfoongaaDoor.d15 YtdknnaalfoongaaDoor.e15 (by simp [Tryd.f15]) ?_
  dsimp only [YtdknnaalfoongaaDoor.c15, Tryd.f15, Option.getD_some]
  by_cases h0 : n = 0
  · rw [if_pos h0]
    simp (maxSteps := 2000000) only [wk0, wk1, wk2, wk3, wk4, wk5, Fr.ev, Fr.put, Fr.get, pkB, pkT, pkF, storeA, if_false, if_true, Nat.reduceEqDiff, reduceIte, Nat.reduceAdd, List.replicate, Nat.reduceLeDiff, Nat.reduceMul, Nat.reduceSub, Nat.reducePow, Int.reduceLT, Int.reduceLE, Int.reduceToNat, Int.reducePow, IntKind.bits, Int.reduceEq, Int.reduceMul, Int.reduceNeg, ne_eq, reduceCtorEq, BEq.rfl, beq_self_eq_true, Int.reduceAdd, Int.reduceSub, Int.reduceMod, Int.reduceDiv, Nat.reduceMod, Nat.reduceDiv, Nat.reduceLT, cond_true, cond_false, gt_iff_lt, ge_iff_le, YtdknnaalfoongaaDoor.D15, ty1, ty2, ty3, ty4, ty22, ty41, ty93]
    refine loopC_of ?_
    simp (maxSteps := 2000000) only [wk0, wk1, wk2, wk3, wk4, wk5, Fr.ev, Fr.put, Fr.get, pkB, pkT, pkF, storeA, if_false, if_true, Nat.reduceEqDiff, reduceIte, Nat.reduceAdd, List.replicate, Nat.reduceLeDiff, Nat.reduceMul, Nat.reduceSub, Nat.reducePow, Int.reduceLT, Int.reduceLE, Int.reduceToNat, Int.reducePow, IntKind.bits, Int.reduceEq, Int.reduceMul, Int.reduceNeg, ne_eq, reduceCtorEq, BEq.rfl, beq_self_eq_true, Int.reduceAdd, Int.reduceSub, Int.reduceMod, Int.reduceDiv, Nat.reduceMod, Nat.reduceDiv, Nat.reduceLT, cond_true, cond_false, gt_iff_lt, ge_iff_le, YtdknnaalfoongaaDoor.D15, ty1, ty2, ty3, ty4, ty22, ty41, ty93]
    refine callThen_of (bz _) ?_
    simp (maxSteps := 2000000) only [wk0, wk1, wk2, wk3, wk4, wk5, Fr.ev, Fr.put, Fr.get, pkB, pkT, pkF, storeA, if_false, if_true, Nat.reduceEqDiff, reduceIte, Nat.reduceAdd, List.replicate, Nat.reduceLeDiff, Nat.reduceMul, Nat.reduceSub, Nat.reducePow, Int.reduceLT, Int.reduceLE, Int.reduceToNat, Int.reducePow, IntKind.bits, Int.reduceEq, Int.reduceMul, Int.reduceNeg, ne_eq, reduceCtorEq, BEq.rfl, beq_self_eq_true, Int.reduceAdd, Int.reduceSub, Int.reduceMod, Int.reduceDiv, Nat.reduceMod, Nat.reduceDiv, Nat.reduceLT, cond_true, cond_false, gt_iff_lt, ge_iff_le, YtdknnaalfoongaaDoor.D15, ty1, ty2, ty3, ty4, ty22, ty41, ty93]
    exact retB_plain (by simp [nmd_int, nmd_bool]) rfl (by simp)
  · rw [if_neg h0]
    simp (maxSteps := 2000000) only [wk0, wk1, wk2, wk3, wk4, wk5, Fr.ev, Fr.put, Fr.get, pkB, pkT, pkF, storeA, if_false, if_true, Nat.reduceEqDiff, reduceIte, Nat.reduceAdd, List.replicate, Nat.reduceLeDiff, Nat.reduceMul, Nat.reduceSub, Nat.reducePow, Int.reduceLT, Int.reduceLE, Int.reduceToNat, Int.reducePow, IntKind.bits, Int.reduceEq, Int.reduceMul, Int.reduceNeg, ne_eq, reduceCtorEq, BEq.rfl, beq_self_eq_true, Int.reduceAdd, Int.reduceSub, Int.reduceMod, Int.reduceDiv, Nat.reduceMod, Nat.reduceDiv, Nat.reduceLT, cond_true, cond_false, gt_iff_lt, ge_iff_le, YtdknnaalfoongaaDoor.D15, ty1, ty2, ty3, ty4, ty22, ty41, ty93]
    refine loopC_of ?_
    simp (maxSteps := 2000000) only [wk0, wk1, wk2, wk3, wk4, wk5, Fr.ev, Fr.put, Fr.get, pkB, pkT, pkF, storeA, if_false, if_true, Nat.reduceEqDiff, reduceIte, Nat.reduceAdd, List.replicate, Nat.reduceLeDiff, Nat.reduceMul, Nat.reduceSub, Nat.reducePow, Int.reduceLT, Int.reduceLE, Int.reduceToNat, Int.reducePow, IntKind.bits, Int.reduceEq, Int.reduceMul, Int.reduceNeg, ne_eq, reduceCtorEq, BEq.rfl, beq_self_eq_true, Int.reduceAdd, Int.reduceSub, Int.reduceMod, Int.reduceDiv, Nat.reduceMod, Nat.reduceDiv, Nat.reduceLT, cond_true, cond_false, gt_iff_lt, ge_iff_le, k, YtdknnaalfoongaaDoor.D15, ty1, ty2, ty3, ty4, ty22, ty41, ty93]
    refine callThen_of (bz _) ?_
    simp (maxSteps := 2000000) only [wk0, wk1, wk2, wk3, wk4, wk5, Fr.ev, Fr.put, Fr.get, pkB, pkT, pkF, storeA, if_false, if_true, Nat.reduceEqDiff, reduceIte, Nat.reduceAdd, List.replicate, Nat.reduceLeDiff, Nat.reduceMul, Nat.reduceSub, Nat.reducePow, Int.reduceLT, Int.reduceLE, Int.reduceToNat, Int.reducePow, IntKind.bits, Int.reduceEq, Int.reduceMul, Int.reduceNeg, ne_eq, reduceCtorEq, BEq.rfl, beq_self_eq_true, Int.reduceAdd, Int.reduceSub, Int.reduceMod, Int.reduceDiv, Nat.reduceMod, Nat.reduceDiv, Nat.reduceLT, cond_true, cond_false, gt_iff_lt, ge_iff_le, k, YtdknnaalfoongaaDoor.D15, ty1, ty2, ty3, ty4, ty22, ty41, ty93]
    exact retB_plain (by simp [nmd_int, nmd_bool]) rfl (by simp)
theorem long38_ok (F : Nat → Pt) (r : Nat → Int) (n : Nat) (S : Heap) (h : 2 ≤ n) (hb : n ≤ 256) (hp : ∀ i, i < n → mayP (F i)) (hf : farR F r n) :
    Call theE 15 [slP F n] S (.tup [.int .i64 (lnZ r (n - 1)), .bool false]) S := by
  have big : ∀ z : Int, -9223372036854775808 ≤ z → z ≤ 9223372036854775807 → lenD z.natAbs ≤ 20 := fun z h1 h2 => (lenD_le _ _).2 (by omega)
  have ro : ∀ i, 1 ≤ i → i < n → ∀ S, Call theE 42 [.int .i64 ((F i).x - (F (i - 1)).x), .int .i64 ((F i).y - (F (i - 1)).y)] S (.int .i64 (r i)) S := fun i h1 h2 S => by
    obtain ⟨⟨a, b⟩, c, d⟩ := hf i h1 h2
    have ha := hp i h2
    have hb := hp (i - 1) (by omega)
    unfold mayP at ha hb
    exact root36_ok _ _ (r i) S (by omega) (by omega) a (by omega) c d
  have bz : ∀ j, j < n → 0 ≤ lnZ r j ∧ lnZ r j ≤ 36028797018963968 := fun j hj => by
    have := lnZ_bound hf hp j hj
    omega
  have k0 : (1 : Int) < (n : Int) := by omega
  have k00 : (0 : Int) < (n : Int) := by omega
  obtain ⟨_, a1, a2⟩ := ptC_zth F n (by omega)
  obtain ⟨_, b1, b2⟩ := ptC_at F n 1 (by omega)
  have b1' : (ptC F n)[4]? = some (.int .i64 (F 1).x) := b1
  have b2' : (ptC F n)[5]? = some (.int .i64 (F 1).y) := b2
  have hp0 := hp 0 (by omega)
  have hp1 := hp 1 (by omega)
  unfold mayP at hp0 hp1
  have r1 := far_le hf hp (i := 1) (by omega) (by omega)
  have ro1 : ∀ S, Call theE 42 [.int .i64 ((F 1).x - (F 0).x), .int .i64 ((F 1).y - (F 0).y)] S (.int .i64 (r 1)) S := ro 1 (by omega) (by omega)
  have of1 := fun S => decOf_ok (r 1) S (by unfold inI; omega)
  have ad1 := fun S => decAddZ_ok (r 1) S (by have := big (r 1) (by omega) (by omega); omega)
  simp only [decA, lstI, digs_len] at of1 ad1
  have wa : IntKind.i64.wrap (1 - 1) = 0 := by decide
  have wb : IntKind.i64.wrap (1 + 1) = 2 := by decide
  have wx : IntKind.i64.wrap ((F 1).x - (F 0).x) = (F 1).x - (F 0).x := wrapI (by omega)
  have wy : IntKind.i64.wrap ((F 1).y - (F 0).y) = (F 1).y - (F 0).y := wrapI (by omega)
  unfold slP
  rw [if_neg (by omega)]
  refine Call.ofC Tryd.func15 YtdknnaalfoongaaDoor.b15 YtdknnaalfoongaaDoor.d15 YtdknnaalfoongaaDoor.e15 (by simp [Tryd.f15]) ?_
  dsimp only [YtdknnaalfoongaaDoor.c15, Tryd.f15, Option.getD_some]
  simp (maxSteps := 2000000) only [wk0, wk1, wk2, wk3, wk4, wk5, Fr.ev, Fr.put, Fr.get, pkB, pkT, pkF, storeA, if_false, if_true, Nat.reduceEqDiff, reduceIte, Nat.reduceAdd, List.replicate, Nat.reduceLeDiff, Nat.reduceMul, Nat.reduceSub, Nat.reducePow, Int.reduceLT, Int.reduceLE, Int.reduceToNat, Int.reducePow, IntKind.bits, Int.reduceEq, Int.reduceMul, Int.reduceNeg, ne_eq, reduceCtorEq, BEq.rfl, beq_self_eq_true, Int.reduceAdd, Int.reduceSub, Int.reduceMod, Int.reduceDiv, Nat.reduceMod, Nat.reduceDiv, Nat.reduceLT, cond_true, cond_false, gt_iff_lt, ge_iff_le, YtdknnaalfoongaaDoor.D15, ty1, ty2, ty3, ty4, ty22, ty41, ty93]
  refine loopC_of ?_
  simp (maxSteps := 2000000) only [wk0, wk1, wk2, wk3, wk4, wk5, Fr.ev, Fr.put, Fr.get, pkB, pkT, pkF, storeA, if_false, if_true, Nat.reduceEqDiff, reduceIte, Nat.reduceAdd, List.replicate, Nat.reduceLeDiff, Nat.reduceMul, Nat.reduceSub, Nat.reducePow, Int.reduceLT, Int.reduceLE, Int.reduceToNat, Int.reducePow, IntKind.bits, Int.reduceEq, Int.reduceMul, Int.reduceNeg, ne_eq, reduceCtorEq, BEq.rfl, beq_self_eq_true, Int.reduceAdd, Int.reduceSub, Int.reduceMod, Int.reduceDiv, Nat.reduceMod, Nat.reduceDiv, Nat.reduceLT, cond_true, cond_false, gt_iff_lt, ge_iff_le, k0, k00, a1, a2, b1', b2', wa, wx, wy, Nat.zero_add, Int.le_refl, YtdknnaalfoongaaDoor.D15, ty1, ty2, ty3, ty4, ty22, ty41, ty93]
  refine callThen_of (ro1 _) ?_
  simp (maxSteps := 2000000) only [wk0, wk1, wk2, wk3, wk4, wk5, Fr.ev, Fr.put, Fr.get, pkB, pkT, pkF, storeA, if_false, if_true, Nat.reduceEqDiff, reduceIte, Nat.reduceAdd, List.replicate, Nat.reduceLeDiff, Nat.reduceMul, Nat.reduceSub, Nat.reducePow, Int.reduceLT, Int.reduceLE, Int.reduceToNat, Int.reducePow, IntKind.bits, Int.reduceEq, Int.reduceMul, Int.reduceNeg, ne_eq, reduceCtorEq, BEq.rfl, beq_self_eq_true, Int.reduceAdd, Int.reduceSub, Int.reduceMod, Int.reduceDiv, Nat.reduceMod, Nat.reduceDiv, Nat.reduceLT, cond_true, cond_false, gt_iff_lt, ge_iff_le, k0, k00, a1, a2, b1', b2', wa, wx, wy, Nat.zero_add, Int.le_refl, YtdknnaalfoongaaDoor.D15, ty1, ty2, ty3, ty4, ty22, ty41, ty93]
  refine callThen_of (of1 _) ?_
  simp (maxSteps := 2000000) only [wk0, wk1, wk2, wk3, wk4, wk5, Fr.ev, Fr.put, Fr.get, pkB, pkT, pkF, storeA, if_false, if_true, Nat.reduceEqDiff, reduceIte, Nat.reduceAdd, List.replicate, Nat.reduceLeDiff, Nat.reduceMul, Nat.reduceSub, Nat.reducePow, Int.reduceLT, Int.reduceLE, Int.reduceToNat, Int.reducePow, IntKind.bits, Int.reduceEq, Int.reduceMul, Int.reduceNeg, ne_eq, reduceCtorEq, BEq.rfl, beq_self_eq_true, Int.reduceAdd, Int.reduceSub, Int.reduceMod, Int.reduceDiv, Nat.reduceMod, Nat.reduceDiv, Nat.reduceLT, cond_true, cond_false, gt_iff_lt, ge_iff_le, k0, k00, a1, a2, b1', b2', wa, wx, wy, Nat.zero_add, Int.le_refl, YtdknnaalfoongaaDoor.D15, ty1, ty2, ty3, ty4, ty22, ty41, ty93]
  refine callThen_of (ad1 _) ?_
  simp (maxSteps := 2000000) only [wk0, wk1, wk2, wk3, wk4, wk5, Fr.ev, Fr.put, Fr.get, pkB, pkT, pkF, storeA, if_false, if_true, Nat.reduceEqDiff, reduceIte, Nat.reduceAdd, List.replicate, Nat.reduceLeDiff, Nat.reduceMul, Nat.reduceSub, Nat.reducePow, Int.reduceLT, Int.reduceLE, Int.reduceToNat, Int.reducePow, IntKind.bits, Int.reduceEq, Int.reduceMul, Int.reduceNeg, ne_eq, reduceCtorEq, BEq.rfl, beq_self_eq_true, Int.reduceAdd, Int.reduceSub, Int.reduceMod, Int.reduceDiv, Nat.reduceMod, Nat.reduceDiv, Nat.reduceLT, cond_true, cond_false, gt_iff_lt, ge_iff_le, k0, k00, a1, a2, b1', b2', wa, wb, wx, wy, Nat.zero_add, Int.le_refl, YtdknnaalfoongaaDoor.D15, ty1, ty2, ty3, ty4, ty22, ty41, ty93]
  have e1 : lnZ r 1 = r 1 := by simp [lnZ]
  refine loopC_ind (fun m fr H => ∃ j : Nat, j + 1 + m = n ∧ 1 ≤ j ∧ fr.get 0 = .lst (ptC F n) n ∧ fr.get 4 = .ptr S.length 0 0 ∧ fr.get 5 = .int .i64 ((j : Int) + 1) ∧ H = S ++ [dcT (lnZ r j)]) ?_ (n := n - 2)
    ⟨1, by omega, by omega, rfl, rfl, rfl, by rw [e1]; rfl⟩
  rintro m fr H ⟨j, hjm, hj1, g0, g4, g5, rfl⟩ ih
  unfold dcT
  have bj := bz j (by omega)
  have lj := big (lnZ r j) (by omega) (by omega)
  by_cases hj : (j : Int) + 1 < n
  · have hjn : j + 1 < n := by omega
    have hpa := hp (j + 1) hjn
    have hpb := hp j (by omega)
    unfold mayP at hpa hpb
    obtain ⟨_, c1, c2⟩ := ptC_at F n (j + 1) hjn
    obtain ⟨_, d1, d2⟩ := ptC_at F n j (by omega)
    have q1 : (0 : Int) ≤ (j : Int) + 1 := by omega
    have q2 : (0 : Int) ≤ (j : Int) := by omega
    have q3 : (j : Int) < n := by omega
    have tn : ((j : Int) + 1).toNat = j + 1 := by omega
    have w0 : IntKind.i64.wrap ((j : Int) + 1 - 1) = (j : Int) := by rw [wrapI (by omega)]; omega
    have wi : IntKind.i64.wrap ((j : Int) + 1 + 1) = ((j + 1 : Nat) : Int) + 1 := by rw [wrapI (by omega)]; omega
    have vx : IntKind.i64.wrap ((F (j + 1)).x - (F j).x) = (F (j + 1)).x - (F j).x := wrapI (by omega)
    have vy : IntKind.i64.wrap ((F (j + 1)).y - (F j).y) = (F (j + 1)).y - (F j).y := wrapI (by omega)
    have roj := ro (j + 1) (by omega) hjn
    rw [Nat.add_sub_cancel] at roj
    have rj := far_le hf hp (i := j + 1) (by omega) hjn
    have lr := big (r (j + 1)) (by omega) (by omega)
    have ofj := fun S => decOf_ok (r (j + 1)) S (by unfold inI; omega)
    have adj : ∀ S, Call theE 40 [decA (lnZ r j), decA (r (j + 1))] S (decA (lnZ r (j + 1))) S := fun S => decAdd_ok _ _ S (by omega) (by omega)
    simp only [decA, lstI, digs_len] at ofj adj
    simp (maxSteps := 2000000) only [wk0, wk1, wk2, wk3, wk4, wk5, Fr.ev, Fr.put, Fr.get, pkB, pkT, pkF, storeA, if_false, if_true, Nat.reduceEqDiff, reduceIte, Nat.reduceAdd, List.replicate, Nat.reduceLeDiff, Nat.reduceMul, Nat.reduceSub, Nat.reducePow, Int.reduceLT, Int.reduceLE, Int.reduceToNat, Int.reducePow, IntKind.bits, Int.reduceEq, Int.reduceMul, Int.reduceNeg, ne_eq, reduceCtorEq, BEq.rfl, beq_self_eq_true, Int.reduceAdd, Int.reduceSub, Int.reduceMod, Int.reduceDiv, Nat.reduceMod, Nat.reduceDiv, Nat.reduceLT, cond_true, cond_false, gt_iff_lt, ge_iff_le, g0, g4, g5, hj, q1, q2, q3, tn, w0, vx, vy, c1, c2, d1, d2, Int.toNat_natCast, YtdknnaalfoongaaDoor.D15, ty1, ty2, ty3, ty4, ty22, ty41, ty93]
    refine callThen_of (roj _) ?_
    simp (maxSteps := 2000000) only [wk0, wk1, wk2, wk3, wk4, wk5, Fr.ev, Fr.put, Fr.get, pkB, pkT, pkF, storeA, if_false, if_true, Nat.reduceEqDiff, reduceIte, Nat.reduceAdd, List.replicate, Nat.reduceLeDiff, Nat.reduceMul, Nat.reduceSub, Nat.reducePow, Int.reduceLT, Int.reduceLE, Int.reduceToNat, Int.reducePow, IntKind.bits, Int.reduceEq, Int.reduceMul, Int.reduceNeg, ne_eq, reduceCtorEq, BEq.rfl, beq_self_eq_true, Int.reduceAdd, Int.reduceSub, Int.reduceMod, Int.reduceDiv, Nat.reduceMod, Nat.reduceDiv, Nat.reduceLT, cond_true, cond_false, gt_iff_lt, ge_iff_le, g0, g4, g5, hj, q1, q2, q3, tn, w0, vx, vy, c1, c2, d1, d2, Int.toNat_natCast, YtdknnaalfoongaaDoor.D15, ty1, ty2, ty3, ty4, ty22, ty41, ty93]
    refine callThen_of (ofj _) ?_
    simp (maxSteps := 2000000) only [wk0, wk1, wk2, wk3, wk4, wk5, Fr.ev, Fr.put, Fr.get, pkB, pkT, pkF, storeA, if_false, if_true, Nat.reduceEqDiff, reduceIte, Nat.reduceAdd, List.replicate, Nat.reduceLeDiff, Nat.reduceMul, Nat.reduceSub, Nat.reducePow, Int.reduceLT, Int.reduceLE, Int.reduceToNat, Int.reducePow, IntKind.bits, Int.reduceEq, Int.reduceMul, Int.reduceNeg, ne_eq, reduceCtorEq, BEq.rfl, beq_self_eq_true, Int.reduceAdd, Int.reduceSub, Int.reduceMod, Int.reduceDiv, Nat.reduceMod, Nat.reduceDiv, Nat.reduceLT, cond_true, cond_false, gt_iff_lt, ge_iff_le, g0, g4, g5, hj, q1, q2, q3, tn, w0, vx, vy, c1, c2, d1, d2, Int.toNat_natCast, YtdknnaalfoongaaDoor.D15, ty1, ty2, ty3, ty4, ty22, ty41, ty93]
    refine callThen_of (adj _) ?_
    simp (maxSteps := 2000000) only [wk0, wk1, wk2, wk3, wk4, wk5, Fr.ev, Fr.put, Fr.get, pkB, pkT, pkF, storeA, if_false, if_true, Nat.reduceEqDiff, reduceIte, Nat.reduceAdd, List.replicate, Nat.reduceLeDiff, Nat.reduceMul, Nat.reduceSub, Nat.reducePow, Int.reduceLT, Int.reduceLE, Int.reduceToNat, Int.reducePow, IntKind.bits, Int.reduceEq, Int.reduceMul, Int.reduceNeg, ne_eq, reduceCtorEq, BEq.rfl, beq_self_eq_true, Int.reduceAdd, Int.reduceSub, Int.reduceMod, Int.reduceDiv, Nat.reduceMod, Nat.reduceDiv, Nat.reduceLT, cond_true, cond_false, gt_iff_lt, ge_iff_le, g0, g4, g5, hj, q1, q2, q3, tn, w0, vx, vy, c1, c2, d1, d2, wi, Int.toNat_natCast, YtdknnaalfoongaaDoor.D15, ty1, ty2, ty3, ty4, ty22, ty41, ty93]
    exact ih (m - 1) _ _ (by omega) ⟨j + 1, by omega, by omega, by simp [Fr.get, g0], by simp [Fr.get, g4], by simp [Fr.get], rfl⟩
  · obtain rfl : n = j + 1 := by omega
    have bd := fun S => decBound_ok (lnZ r j) S (by omega)
    rw [show bndI (lnZ r j) = lnZ r j by unfold bndI; omega, show ovrB (lnZ r j) = false from decide_eq_false (by omega)] at bd
    simp only [decA, lstI, digs_len] at bd
    simp (maxSteps := 2000000) only [wk0, wk1, wk2, wk3, wk4, wk5, Fr.ev, Fr.put, Fr.get, pkB, pkT, pkF, storeA, if_false, if_true, Nat.reduceEqDiff, reduceIte, Nat.reduceAdd, List.replicate, Nat.reduceLeDiff, Nat.reduceMul, Nat.reduceSub, Nat.reducePow, Int.reduceLT, Int.reduceLE, Int.reduceToNat, Int.reducePow, IntKind.bits, Int.reduceEq, Int.reduceMul, Int.reduceNeg, ne_eq, reduceCtorEq, BEq.rfl, beq_self_eq_true, Int.reduceAdd, Int.reduceSub, Int.reduceMod, Int.reduceDiv, Nat.reduceMod, Nat.reduceDiv, Nat.reduceLT, cond_true, cond_false, gt_iff_lt, ge_iff_le, g0, g4, g5, hj, YtdknnaalfoongaaDoor.D15, ty1, ty2, ty3, ty4, ty22, ty41, ty93]
    refine callThen_of (bd _) ?_
    simp (maxSteps := 2000000) only [wk0, wk1, wk2, wk3, wk4, wk5, Fr.ev, Fr.put, Fr.get, pkB, pkT, pkF, storeA, if_false, if_true, Nat.reduceEqDiff, reduceIte, Nat.reduceAdd, List.replicate, Nat.reduceLeDiff, Nat.reduceMul, Nat.reduceSub, Nat.reducePow, Int.reduceLT, Int.reduceLE, Int.reduceToNat, Int.reducePow, IntKind.bits, Int.reduceEq, Int.reduceMul, Int.reduceNeg, ne_eq, reduceCtorEq, BEq.rfl, beq_self_eq_true, Int.reduceAdd, Int.reduceSub, Int.reduceMod, Int.reduceDiv, Nat.reduceMod, Nat.reduceDiv, Nat.reduceLT, cond_true, cond_false, gt_iff_lt, ge_iff_le, g0, g4, g5, hj, YtdknnaalfoongaaDoor.D15, ty1, ty2, ty3, ty4, ty22, ty41, ty93]
    exact retB_plain (by simp [nmd_int, nmd_bool]) rfl (by simp)
end Go.Proofs.YtdknnaalfoongaaDoor

/- trail: of a nil one, and of one without points. -/
set_option linter.unusedSimpArgs false
set_option linter.unusedVariables false
set_option maxRecDepth 100000
set_option maxHeartbeats 4000000
namespace Go.Proofs.YtdknnaalfoongaaDoor
theorem new_bad (n : Int) (S : Heap) (h : n < 1 ∨ 256 < n) : Call theE 12 [.int .i64 n] S (.tup [.nilp, errA 1]) S := by
  refine Call.ofC Tryd.func12 YtdknnaalfoongaaDoor.b12 YtdknnaalfoongaaDoor.d12 YtdknnaalfoongaaDoor.e12 (by simp [Tryd.f12]) ?_
  dsimp only [YtdknnaalfoongaaDoor.c12, Tryd.f12, Option.getD_some]
  by_cases h1 : n < 1
  · simp (maxSteps := 2000000) only [wk0, wk1, wk2, wk3, wk4, wk5, Fr.ev, Fr.put, Fr.get, pkB, pkT, pkF, storeA, if_false, if_true, Nat.reduceEqDiff, reduceIte, Nat.reduceAdd, List.replicate, Nat.reduceLeDiff, Nat.reduceMul, Nat.reduceSub, Nat.reducePow, Int.reduceLT, Int.reduceLE, Int.reduceToNat, Int.reducePow, IntKind.bits, Int.reduceEq, Int.reduceMul, Int.reduceNeg, ne_eq, reduceCtorEq, BEq.rfl, beq_self_eq_true, Int.reduceAdd, Int.reduceSub, Int.reduceMod, Int.reduceDiv, Nat.reduceMod, Nat.reduceDiv, Nat.reduceLT, cond_true, cond_false, gt_iff_lt, ge_iff_le, h1, decide_true, YtdknnaalfoongaaDoor.D12, ty3, ty4, ty23, ty25, ty36, ty79, ty81]
    exact ⟨trivial, _, rfl, by rw [if_pos (by rfl)]; exact ⟨rfl, rfl⟩⟩
  · have h2 : 256 < n := by omega
    simp (maxSteps := 2000000) only [wk0, wk1, wk2, wk3, wk4, wk5, Fr.ev, Fr.put, Fr.get, pkB, pkT, pkF, storeA, if_false, if_true, Nat.reduceEqDiff, reduceIte, Nat.reduceAdd, List.replicate, Nat.reduceLeDiff, Nat.reduceMul, Nat.reduceSub, Nat.reducePow, Int.reduceLT, Int.reduceLE, Int.reduceToNat, Int.reducePow, IntKind.bits, Int.reduceEq, Int.reduceMul, Int.reduceNeg, ne_eq, reduceCtorEq, BEq.rfl, beq_self_eq_true, Int.reduceAdd, Int.reduceSub, Int.reduceMod, Int.reduceDiv, Nat.reduceMod, Nat.reduceDiv, Nat.reduceLT, cond_true, cond_false, gt_iff_lt, ge_iff_le, h1, h2, decide_true, decide_false, YtdknnaalfoongaaDoor.D12, ty3, ty4, ty23, ty25, ty36, ty79, ty81]
    exact ⟨trivial, _, rfl, by rw [if_pos (by rfl)]; exact ⟨rfl, rfl⟩⟩
theorem speed_nil (S : Heap) : Call theE 6 [.nilp] S (.tup [.int .i64 0, .int .i64 0, .bool false, errA 1]) S := by
  refine Call.ofC Tryd.func6 YtdknnaalfoongaaDoor.b6 YtdknnaalfoongaaDoor.d6 YtdknnaalfoongaaDoor.e6 (by simp [Tryd.f6]) ?_
  dsimp only [YtdknnaalfoongaaDoor.c6, Tryd.f6, Option.getD_some]
  simp (maxSteps := 2000000) only [wk0, wk1, wk2, wk3, wk4, wk5, Fr.ev, Fr.put, Fr.get, pkB, pkT, pkF, storeA, if_false, if_true, Nat.reduceEqDiff, reduceIte, Nat.reduceAdd, List.replicate, Nat.reduceLeDiff, Nat.reduceMul, Nat.reduceSub, Nat.reducePow, Int.reduceLT, Int.reduceLE, Int.reduceToNat, Int.reducePow, IntKind.bits, Int.reduceEq, Int.reduceMul, Int.reduceNeg, ne_eq, reduceCtorEq, BEq.rfl, beq_self_eq_true, Int.reduceAdd, Int.reduceSub, Int.reduceMod, Int.reduceDiv, Nat.reduceMod, Nat.reduceDiv, Nat.reduceLT, cond_true, cond_false, gt_iff_lt, ge_iff_le, YtdknnaalfoongaaDoor.D6, ty1, ty2, ty3, ty4, ty23, ty25, ty35, ty79, ty81]
  exact retB_plain (by simp [nmd_int, nmd_bool, nmd_ifc]) rfl (by simp)
theorem middle_nil (S : Heap) : Call theE 7 [.nilp] S (.tup [.int .i64 0, .int .i64 0, errA 1]) S := by
  refine Call.ofC Tryd.func7 YtdknnaalfoongaaDoor.b7 YtdknnaalfoongaaDoor.d7 YtdknnaalfoongaaDoor.e7 (by simp [Tryd.f7]) ?_
  dsimp only [YtdknnaalfoongaaDoor.c7, Tryd.f7, Option.getD_some]
  simp (maxSteps := 2000000) only [wk0, wk1, wk2, wk3, wk4, wk5, Fr.ev, Fr.put, Fr.get, pkB, pkT, pkF, storeA, if_false, if_true, Nat.reduceEqDiff, reduceIte, Nat.reduceAdd, List.replicate, Nat.reduceLeDiff, Nat.reduceMul, Nat.reduceSub, Nat.reducePow, Int.reduceLT, Int.reduceLE, Int.reduceToNat, Int.reducePow, IntKind.bits, Int.reduceEq, Int.reduceMul, Int.reduceNeg, ne_eq, reduceCtorEq, BEq.rfl, beq_self_eq_true, Int.reduceAdd, Int.reduceSub, Int.reduceMod, Int.reduceDiv, Nat.reduceMod, Nat.reduceDiv, Nat.reduceLT, cond_true, cond_false, gt_iff_lt, ge_iff_le, YtdknnaalfoongaaDoor.D7, ty1, ty2, ty3, ty4, ty23, ty25, ty35, ty36, ty79, ty81]
  exact retB_plain (by simp [nmd_int, nmd_bool, nmd_ifc]) rfl (by simp)
theorem points_nil (S : Heap) : Call theE 11 [.nilp] S .nils S := by
  refine Call.ofC Tryd.func11 YtdknnaalfoongaaDoor.b11 YtdknnaalfoongaaDoor.d11 YtdknnaalfoongaaDoor.e11 (by simp [Tryd.f11]) ?_
  dsimp only [YtdknnaalfoongaaDoor.c11, Tryd.f11, Option.getD_some]
  simp (maxSteps := 2000000) only [wk0, wk1, wk2, wk3, wk4, wk5, Fr.ev, Fr.put, Fr.get, pkB, pkT, pkF, storeA, if_false, if_true, Nat.reduceEqDiff, reduceIte, Nat.reduceAdd, List.replicate, Nat.reduceLeDiff, Nat.reduceMul, Nat.reduceSub, Nat.reducePow, Int.reduceLT, Int.reduceLE, Int.reduceToNat, Int.reducePow, IntKind.bits, Int.reduceEq, Int.reduceMul, Int.reduceNeg, ne_eq, reduceCtorEq, BEq.rfl, beq_self_eq_true, Int.reduceAdd, Int.reduceSub, Int.reduceMod, Int.reduceDiv, Nat.reduceMod, Nat.reduceDiv, Nat.reduceLT, cond_true, cond_false, gt_iff_lt, ge_iff_le, YtdknnaalfoongaaDoor.D11, ty1, ty2, ty3, ty4, ty23, ty35, ty36, ty81]
  exact retB_plain (by simp [nmd_nils]) rfl (by simp)
theorem add_nil (p : Pt) (S : Heap) : Call theE 10 [.nilp, .agg [.int .i64 p.t, .int .i64 p.x, .int .i64 p.y]] S (errA 1) S := by
  refine Call.ofC Tryd.func10 YtdknnaalfoongaaDoor.b10 YtdknnaalfoongaaDoor.d10 YtdknnaalfoongaaDoor.e10 (by simp [Tryd.f10]) ?_
  dsimp only [YtdknnaalfoongaaDoor.c10, Tryd.f10, Option.getD_some]
  simp (maxSteps := 2000000) only [wk0, wk1, wk2, wk3, wk4, wk5, Fr.ev, Fr.put, Fr.get, pkB, pkT, pkF, storeA, if_false, if_true, Nat.reduceEqDiff, reduceIte, Nat.reduceAdd, List.replicate, Nat.reduceLeDiff, Nat.reduceMul, Nat.reduceSub, Nat.reducePow, Int.reduceLT, Int.reduceLE, Int.reduceToNat, Int.reducePow, IntKind.bits, Int.reduceEq, Int.reduceMul, Int.reduceNeg, ne_eq, reduceCtorEq, BEq.rfl, beq_self_eq_true, Int.reduceAdd, Int.reduceSub, Int.reduceMod, Int.reduceDiv, Nat.reduceMod, Nat.reduceDiv, Nat.reduceLT, cond_true, cond_false, gt_iff_lt, ge_iff_le, YtdknnaalfoongaaDoor.D10, ty1, ty2, ty3, ty4, ty23, ty25, ty35, ty36, ty79, ty81]
  exact retB_plain (by simp [nmd_ifc, nmd_int]) rfl (by simp)
theorem long_nil (S : Heap) : Call theE 8 [.nilp] S (.tup [.int .i64 0, .bool false]) S := by
  have p := fun S => points_nil S
  refine Call.ofC Tryd.func8 YtdknnaalfoongaaDoor.b8 YtdknnaalfoongaaDoor.d8 YtdknnaalfoongaaDoor.e8 (by simp [Tryd.f8]) ?_
  dsimp only [YtdknnaalfoongaaDoor.c8, Tryd.f8, Option.getD_some]
  simp (maxSteps := 2000000) only [wk0, wk1, wk2, wk3, wk4, wk5, Fr.ev, Fr.put, Fr.get, pkB, pkT, pkF, storeA, if_false, if_true, Nat.reduceEqDiff, reduceIte, Nat.reduceAdd, List.replicate, Nat.reduceLeDiff, Nat.reduceMul, Nat.reduceSub, Nat.reducePow, Int.reduceLT, Int.reduceLE, Int.reduceToNat, Int.reducePow, IntKind.bits, Int.reduceEq, Int.reduceMul, Int.reduceNeg, ne_eq, reduceCtorEq, BEq.rfl, beq_self_eq_true, Int.reduceAdd, Int.reduceSub, Int.reduceMod, Int.reduceDiv, Nat.reduceMod, Nat.reduceDiv, Nat.reduceLT, cond_true, cond_false, gt_iff_lt, ge_iff_le, YtdknnaalfoongaaDoor.D8, ty1, ty2, ty3, ty4, ty23, ty25, ty35, ty36]
  refine callThen_of (p _) ?_
  simp (maxSteps := 2000000) only [wk0, wk1, wk2, wk3, wk4, wk5, Fr.ev, Fr.put, Fr.get, pkB, pkT, pkF, storeA, if_false, if_true, Nat.reduceEqDiff, reduceIte, Nat.reduceAdd, List.replicate, Nat.reduceLeDiff, Nat.reduceMul, Nat.reduceSub, Nat.reducePow, Int.reduceLT, Int.reduceLE, Int.reduceToNat, Int.reducePow, IntKind.bits, Int.reduceEq, Int.reduceMul, Int.reduceNeg, ne_eq, reduceCtorEq, BEq.rfl, beq_self_eq_true, Int.reduceAdd, Int.reduceSub, Int.reduceMod, Int.reduceDiv, Nat.reduceMod, Nat.reduceDiv, Nat.reduceLT, cond_true, cond_false, gt_iff_lt, ge_iff_le, YtdknnaalfoongaaDoor.D8, ty1, ty2, ty3, ty4, ty23, ty25, ty35, ty36]
  refine loopC_of ?_
  simp (maxSteps := 2000000) only [wk0, wk1, wk2, wk3, wk4, wk5, Fr.ev, Fr.put, Fr.get, pkB, pkT, pkF, storeA, if_false, if_true, Nat.reduceEqDiff, reduceIte, Nat.reduceAdd, List.replicate, Nat.reduceLeDiff, Nat.reduceMul, Nat.reduceSub, Nat.reducePow, Int.reduceLT, Int.reduceLE, Int.reduceToNat, Int.reducePow, IntKind.bits, Int.reduceEq, Int.reduceMul, Int.reduceNeg, ne_eq, reduceCtorEq, BEq.rfl, beq_self_eq_true, Int.reduceAdd, Int.reduceSub, Int.reduceMod, Int.reduceDiv, Nat.reduceMod, Nat.reduceDiv, Nat.reduceLT, cond_true, cond_false, gt_iff_lt, ge_iff_le, YtdknnaalfoongaaDoor.D8, ty1, ty2, ty3, ty4, ty23, ty25, ty35, ty36]
  exact retB_plain (by simp [nmd_int, nmd_bool]) rfl (by simp)
theorem speed_few (S : Heap) (q b c nx mn : Nat) (R : Nat → Pt) (h : TrS S q b c nx mn R) (hm : mn < 2) : Call theE 6 [.ptr q 0 0] S (.tup [.int .i64 0, .int .i64 0, .bool false, errA 8]) S := by
  have f0 := fun L => blk_app (L := L) h.hq
  have f00 := h.hq
  have k : (mn : Int) < 2 := by omega
  refine Call.ofC Tryd.func6 YtdknnaalfoongaaDoor.b6 YtdknnaalfoongaaDoor.d6 YtdknnaalfoongaaDoor.e6 (by simp [Tryd.f6]) ?_
  dsimp only [YtdknnaalfoongaaDoor.c6, Tryd.f6, Option.getD_some]
  simp (maxSteps := 2000000) only [wk0, wk1, wk2, wk3, wk4, wk5, Fr.ev, Fr.put, Fr.get, pkB, pkT, pkF, storeA, if_false, if_true, Nat.reduceEqDiff, reduceIte, Nat.reduceAdd, List.replicate, Nat.reduceLeDiff, Nat.reduceMul, Nat.reduceSub, Nat.reducePow, Int.reduceLT, Int.reduceLE, Int.reduceToNat, Int.reducePow, IntKind.bits, Int.reduceEq, Int.reduceMul, Int.reduceNeg, ne_eq, reduceCtorEq, BEq.rfl, beq_self_eq_true, Int.reduceAdd, Int.reduceSub, Int.reduceMod, Int.reduceDiv, Nat.reduceMod, Nat.reduceDiv, Nat.reduceLT, cond_true, cond_false, gt_iff_lt, ge_iff_le, f0, f00, k, YtdknnaalfoongaaDoor.D6, ty1, ty2, ty3, ty4, ty23, ty25, ty35, ty79, ty81]
  exact retB_plain (by simp [nmd_int, nmd_bool, nmd_ifc]) rfl (by simp)
theorem middle_none (S : Heap) (q b c nx : Nat) (R : Nat → Pt) (h : TrS S q b c nx 0 R) : Call theE 7 [.ptr q 0 0] S (.tup [.int .i64 0, .int .i64 0, errA 8]) S := by
  have f0 := fun L => blk_app (L := L) h.hq
  have f00 := h.hq
  have k : ((0 : Nat) : Int) = 0 := rfl
  refine Call.ofC Tryd.func7 YtdknnaalfoongaaDoor.b7 YtdknnaalfoongaaDoor.d7 YtdknnaalfoongaaDoor.e7 (by simp [Tryd.f7]) ?_
  dsimp only [YtdknnaalfoongaaDoor.c7, Tryd.f7, Option.getD_some]
  simp (maxSteps := 2000000) only [wk0, wk1, wk2, wk3, wk4, wk5, Fr.ev, Fr.put, Fr.get, pkB, pkT, pkF, storeA, if_false, if_true, Nat.reduceEqDiff, reduceIte, Nat.reduceAdd, List.replicate, Nat.reduceLeDiff, Nat.reduceMul, Nat.reduceSub, Nat.reducePow, Int.reduceLT, Int.reduceLE, Int.reduceToNat, Int.reducePow, IntKind.bits, Int.reduceEq, Int.reduceMul, Int.reduceNeg, ne_eq, reduceCtorEq, BEq.rfl, beq_self_eq_true, Int.reduceAdd, Int.reduceSub, Int.reduceMod, Int.reduceDiv, Nat.reduceMod, Nat.reduceDiv, Nat.reduceLT, cond_true, cond_false, gt_iff_lt, ge_iff_le, f0, f00, k, YtdknnaalfoongaaDoor.D7, ty1, ty2, ty3, ty4, ty23, ty25, ty35, ty36, ty79, ty81]
  exact retB_plain (by simp [nmd_int, nmd_bool, nmd_ifc]) rfl (by simp)
theorem long_none (S : Heap) (q b c nx : Nat) (R : Nat → Pt) (h : TrS S q b c nx 0 R) : Call theE 8 [.ptr q 0 0] S (.tup [.int .i64 0, .bool false]) S := by
  have p := points_ok S q b c nx 0 R h
  have k : ¬ (1 : Int) < ((0 : Nat) : Int) := by decide
  refine Call.ofC Tryd.func8 YtdknnaalfoongaaDoor.b8 YtdknnaalfoongaaDoor.d8 YtdknnaalfoongaaDoor.e8 (by simp [Tryd.f8]) ?_
  dsimp only [YtdknnaalfoongaaDoor.c8, Tryd.f8, Option.getD_some]
  simp (maxSteps := 2000000) only [wk0, wk1, wk2, wk3, wk4, wk5, Fr.ev, Fr.put, Fr.get, pkB, pkT, pkF, storeA, if_false, if_true, Nat.reduceEqDiff, reduceIte, Nat.reduceAdd, List.replicate, Nat.reduceLeDiff, Nat.reduceMul, Nat.reduceSub, Nat.reducePow, Int.reduceLT, Int.reduceLE, Int.reduceToNat, Int.reducePow, IntKind.bits, Int.reduceEq, Int.reduceMul, Int.reduceNeg, ne_eq, reduceCtorEq, BEq.rfl, beq_self_eq_true, Int.reduceAdd, Int.reduceSub, Int.reduceMod, Int.reduceDiv, Nat.reduceMod, Nat.reduceDiv, Nat.reduceLT, cond_true, cond_false, gt_iff_lt, ge_iff_le, YtdknnaalfoongaaDoor.D8, ty1, ty2, ty3, ty4, ty23, ty25, ty35, ty36]
  refine callThen_of p ?_
  simp (maxSteps := 2000000) only [wk0, wk1, wk2, wk3, wk4, wk5, Fr.ev, Fr.put, Fr.get, pkB, pkT, pkF, storeA, if_false, if_true, Nat.reduceEqDiff, reduceIte, Nat.reduceAdd, List.replicate, Nat.reduceLeDiff, Nat.reduceMul, Nat.reduceSub, Nat.reducePow, Int.reduceLT, Int.reduceLE, Int.reduceToNat, Int.reducePow, IntKind.bits, Int.reduceEq, Int.reduceMul, Int.reduceNeg, ne_eq, reduceCtorEq, BEq.rfl, beq_self_eq_true, Int.reduceAdd, Int.reduceSub, Int.reduceMod, Int.reduceDiv, Nat.reduceMod, Nat.reduceDiv, Nat.reduceLT, cond_true, cond_false, gt_iff_lt, ge_iff_le, YtdknnaalfoongaaDoor.D8, ty1, ty2, ty3, ty4, ty23, ty25, ty35, ty36]
  refine loopC_of ?_
  simp (maxSteps := 2000000) only [wk0, wk1, wk2, wk3, wk4, wk5, Fr.ev, Fr.put, Fr.get, pkB, pkT, pkF, storeA, if_false, if_true, Nat.reduceEqDiff, reduceIte, Nat.reduceAdd, List.replicate, Nat.reduceLeDiff, Nat.reduceMul, Nat.reduceSub, Nat.reducePow, Int.reduceLT, Int.reduceLE, Int.reduceToNat, Int.reducePow, IntKind.bits, Int.reduceEq, Int.reduceMul, Int.reduceNeg, ne_eq, reduceCtorEq, BEq.rfl, beq_self_eq_true, Int.reduceAdd, Int.reduceSub, Int.reduceMod, Int.reduceDiv, Nat.reduceMod, Nat.reduceDiv, Nat.reduceLT, cond_true, cond_false, gt_iff_lt, ge_iff_le, k, YtdknnaalfoongaaDoor.D8, ty1, ty2, ty3, ty4, ty23, ty25, ty35, ty36]
  exact retB_plain (by simp [nmd_int, nmd_bool]) rfl (by simp)
end Go.Proofs.YtdknnaalfoongaaDoor

/- The law TrailRuns. -/
set_option linter.unusedSimpArgs false
set_option linter.unusedVariables false
set_option maxRecDepth 100000
set_option maxHeartbeats 8000000
namespace Go.Proofs.YtdknnaalfoongaaDoor
theorem slP_congr {F G : Nat → Pt} {n : Nat} (h : ∀ i, i < n → F i = G i) : slP F n = slP G n := by
  unfold slP; rw [ptC_congr h]
theorem nxP_ptI (c nx mn : Nat) (R : Nat → Pt) (p : Pt) (hc : 1 ≤ c) (hn : nx < c) (hm : mn ≤ c) :
    slP (nxP (ptI c nx mn R) mn c p) (min (mn + 1) c) = slP (ptI c ((nx + 1) % c) (min (mn + 1) c) (upd R nx p)) (min (mn + 1) c) := by
  refine slP_congr fun i hi => ?_
  rw [ptI_add c nx mn R p hc hn hm i hi]
  unfold nxP upd
  by_cases h : mn + 1 ≤ c
  · rw [if_pos h]
    by_cases h2 : i = mn
    · rw [if_pos h2, if_pos (by omega)]
    · rw [if_neg h2, if_neg (by omega), show i + (mn + 1 - min (mn + 1) c) = i by omega]
  · rw [if_neg h]
    by_cases h2 : i + 1 = mn
    · rw [if_pos h2, if_pos (by omega)]
    · rw [if_neg h2, if_neg (by omega), show i + (mn + 1 - min (mn + 1) c) = i + 1 by omega]
/-- What is told of a trail: the same by the document. -/
theorem same_ok (S : Heap) (q b c nx mn : Nat) (R : Nat → Pt) (h : TrS S q b c nx mn R) (g : GoodP (ptI c nx mn R) mn) :
    ∃ (lg u v mx my : Int) (o : Bool) (E1 E2 : AV) (e1 e2 : Int), ((E1 = .nili ∧ e1 = 0 ∨ E1 = errA 8 ∧ e1 = 8) ∧ (E2 = .nili ∧ e2 = 0 ∨ E2 = errA 8 ∧ e2 = 8)) ∧
      (Call theE 8 [.ptr q 0 0] S (.tup [.int .i64 lg, .bool false]) S ∧ ∀ T, Call theE 15 [slP (ptI c nx mn R) mn] T (.tup [.int .i64 lg, .bool false]) T) ∧
      (Call theE 6 [.ptr q 0 0] S (.tup [.int .i64 u, .int .i64 v, .bool o, E1]) S ∧ ∀ T, Call theE 16 [slP (ptI c nx mn R) mn] T (.tup [.int .i64 u, .int .i64 v, .bool o, .int .i64 e1]) T) ∧
      (Call theE 7 [.ptr q 0 0] S (.tup [.int .i64 mx, .int .i64 my, E2]) S ∧ ∀ T, Call theE 17 [slP (ptI c nx mn R) mn] T (.tup [.int .i64 mx, .int .i64 my, .int .i64 e2]) T) := by
  have hb : mn ≤ 256 := by have := h.m1; have := h.c1; omega
  rcases (show mn = 0 ∨ mn = 1 ∨ 2 ≤ mn by omega) with h0 | h1 | h2
  · subst h0
    exact ⟨0, 0, 0, 0, 0, false, errA 8, errA 8, 8, 8, ⟨.inr ⟨rfl, rfl⟩, .inr ⟨rfl, rfl⟩⟩, ⟨long_none S q b c nx R h, fun T => long38_few _ 0 T (by omega)⟩, ⟨speed_few S q b c nx 0 R h (by omega), fun T => speed38_few _ 0 T (by omega)⟩, middle_none S q b c nx R h, fun T => middle38_none _ T⟩
  · subst h1
    obtain ⟨r, hf, lg⟩ := long_ok S q b c nx 1 R h (by omega) g.may
    exact ⟨0, 0, 0, _, _, false, errA 8, .nili, 8, 0, ⟨.inr ⟨rfl, rfl⟩, .inl ⟨rfl, rfl⟩⟩, ⟨lg S h, fun T => long38_few _ 1 T (by omega)⟩, ⟨speed_few S q b c nx 1 R h (by omega), fun T => speed38_few _ 1 T (by omega)⟩, middle_ok S q b c nx 1 R h (by omega) g.may, fun T => middle38_ok _ 1 T (by omega) (by omega) g.may⟩
  · obtain ⟨r, hf, lg⟩ := long_ok S q b c nx mn R h (by omega) g.may
    have lgS := lg S h
    obtain ⟨q1, q2⟩ := lnS_eq hf g.may hb (mn - 1) (by omega)
    rw [q1, q2] at lgS
    have rise : ∀ i, i + 1 < mn → (ptI c nx mn R 0).t < (ptI c nx mn R (i + 1)).t := by
      intro i
      induction i with
      | zero => intro hi; exact g.rise 0 hi
      | succ i ih => intro hi; exact Int.lt_trans (ih (by omega)) (g.rise (i + 1) hi)
    have ht : (ptI c nx mn R 0).t < (ptI c nx mn R (mn - 1)).t := by
      have := rise (mn - 2) (by omega)
      rwa [show mn - 2 + 1 = mn - 1 by omega] at this
    have p0 := g.may 0 (by omega)
    have p1 := g.may (mn - 1) (by omega)
    unfold mayP at p0 p1
    generalize hA : (ptI c nx mn R 0).t = A0 at *
    generalize hB : (ptI c nx mn R (mn - 1)).t = B0 at *
    generalize hx : (ptI c nx mn R (mn - 1)).x - (ptI c nx mn R 0).x = dx at *
    generalize hy : (ptI c nx mn R (mn - 1)).y - (ptI c nx mn R 0).y = dy at *
    obtain ⟨u, hu, _⟩ := div_ok dx (B0 - A0) 20 S (by unfold inI; omega) (by unfold inI; omega) (by omega) (by decide)
    obtain ⟨v, hv, _⟩ := div_ok dy (B0 - A0) 20 S (by unfold inI; omega) (by unfold inI; omega) (by omega) (by decide)
    have d1 := fun T => div_ok dx (B0 - A0) 20 T (by unfold inI; omega) (by unfold inI; omega) (by omega) (by decide)
    have d2 := fun T => div_ok dy (B0 - A0) 20 T (by unfold inI; omega) (by unfold inI; omega) (by omega) (by decide)
    have sp := speed_ok S q b c nx mn R h h2 g.may (bndI u) (bndI v) (ovrB u) (ovrB v) (fun T => by
      rw [hx, hA, hB]; obtain ⟨w, hw, k⟩ := d1 T; rw [← hu] at hw; subst hw; exact k) (fun T => by
      rw [hy, hA, hB]; obtain ⟨w, hw, k⟩ := d2 T; rw [← hv] at hw; subst hw; exact k)
    have sp' := fun T => speed38_ok (ptI c nx mn R) mn T h2 hb g.may (bndI u) (bndI v) (ovrB u) (ovrB v) (fun T => by
      rw [hx, hA, hB]; exact refDiv_ok dx (B0 - A0) 20 T (by unfold inI; omega) (by unfold inI; omega) (by omega) (by decide) u hu) (fun T => by
      rw [hy, hA, hB]; exact refDiv_ok dy (B0 - A0) 20 T (by unfold inI; omega) (by unfold inI; omega) (by omega) (by decide) v hv)
    exact ⟨_, _, _, _, _, _, .nili, .nili, 0, 0, ⟨.inl ⟨rfl, rfl⟩, .inl ⟨rfl, rfl⟩⟩, ⟨lgS, fun T => long38_ok _ r mn T h2 hb g.may hf⟩, ⟨sp, sp'⟩, middle_ok S q b c nx mn R h (by omega) g.may, fun T => middle38_ok _ mn T (by omega) hb g.may⟩
end Go.Proofs.YtdknnaalfoongaaDoor

/- The law TrailRuns: the walk. -/
set_option linter.unusedSimpArgs false
set_option linter.unusedVariables false
set_option maxRecDepth 100000
set_option maxHeartbeats 8000000
namespace Go.Proofs.YtdknnaalfoongaaDoor
theorem mv_slP {k : Option TK} {H : Heap} {F : Nat → Pt} {n : Nat} : moveA false k H (slP F n) = some (slP F n, H) := by unfold slP; split <;> rfl
theorem ln_slP {a b c n : Nat} {z : List AV} {F : Nat → Pt} : lenOfA (.slice a b c z) (slP F n) = some n := by
  unfold slP; split
  · rename_i h; rw [h]; rfl
  · rfl
noncomputable def c9 : Code := Tryd.f9.body.getD .skip
theorem b9 : Tryd.f9.body = some c9 := rfl
theorem d9 : fnOk Tryd.f9 c9 = true := by kernel_rfl
def D9 : Nat → List Tag := fun _ => []
theorem e9 : drawsOk D9 c9 = true := by kernel_rfl
noncomputable def c3 : Code := Tryd.f3.body.getD .skip
theorem b3 : Tryd.f3.body = some c3 := rfl
theorem d3 : fnOk Tryd.f3 c3 = true := by kernel_rfl
def D3 : Nat → List Tag
  | 25 => [.pure, .pure, .pure, .quiet, .pure, .pure, .pure, .quiet, .pure]
  | _ => []
theorem e3 : drawsOk D3 c3 = true := by kernel_rfl
theorem num38_nil (S : Heap) : Call theE 9 [.nili] S (.int .i64 0) S := by
  refine Call.ofC Tryd.func9 YtdknnaalfoongaaDoor.b9 YtdknnaalfoongaaDoor.d9 YtdknnaalfoongaaDoor.e9 (by simp [Tryd.f9]) ?_
  dsimp only [YtdknnaalfoongaaDoor.c9, Tryd.f9, Option.getD_some]
  simp (maxSteps := 2000000) only [wk0, wk1, wk2, wk3, wk4, wk5, Fr.ev, Fr.put, Fr.get, pkB, pkT, pkF, storeA, if_false, if_true, Nat.reduceEqDiff, reduceIte, Nat.reduceAdd, List.replicate, Nat.reduceLeDiff, Nat.reduceMul, Nat.reduceSub, Nat.reducePow, Int.reduceLT, Int.reduceLE, Int.reduceToNat, Int.reducePow, IntKind.bits, Int.reduceEq, Int.reduceMul, Int.reduceNeg, ne_eq, reduceCtorEq, BEq.rfl, beq_self_eq_true, Int.reduceAdd, Int.reduceSub, Int.reduceMod, Int.reduceDiv, Nat.reduceMod, Nat.reduceDiv, Nat.reduceLT, cond_true, cond_false, gt_iff_lt, ge_iff_le, YtdknnaalfoongaaDoor.D9, ty3, ty4, ty20, ty25, ty79, ty89]
  exact retB_plain (by simp [nmd_int]) rfl (by simp)
theorem numE (E : AV) (e k : Int) (h : E = .nili ∧ e = 0 ∨ E = errA k ∧ e = k) : (∀ S, Call theE 9 [E] S (.int .i64 e) S) ∧ ∀ own k H, moveA own k H E = some (E, H) := by
  rcases h with ⟨rfl, rfl⟩ | ⟨rfl, rfl⟩
  · exact ⟨num38_nil, fun _ _ _ => rfl⟩
  · exact ⟨fun S => num9_given _ S, fun _ _ _ => rfl⟩
/-- What one more point does, by both. -/
theorem step38 (S0 H : Heap) (n nx mq : Nat) (R : Nat → Pt) (p : Pt) (hn : 1 ≤ n ∧ n ≤ 256) (tr : TrS H (S0.length + 1) S0.length n nx mq R) (gd : GoodP (ptI n nx mq R) mq) (hl : H.length = S0.length + 2) (ho : ∀ j, j < S0.length → H[j]? = S0[j]?) :
    ∃ (nx' mq' : Nat) (R' : Nat → Pt) (G : Heap) (E : AV) (e : Int), Call theE 10 [.ptr (S0.length + 1) 0 0, .agg [.int .i64 p.t, .int .i64 p.x, .int .i64 p.y]] H E G ∧
      (∀ T, Call theE 14 [slP (ptI n nx mq R) mq, .int .i64 n, .agg [.int .i64 p.t, .int .i64 p.x, .int .i64 p.y]] T (.tup [slP (ptI n nx' mq' R') mq', .int .i64 e]) T) ∧
      ((∀ S, Call theE 9 [E] S (.int .i64 e) S) ∧ ∀ own k H, moveA own k H E = some (E, H)) ∧ TrS G (S0.length + 1) S0.length n nx' mq' R' ∧ GoodP (ptI n nx' mq' R') mq' ∧ G.length = S0.length + 2 ∧ ∀ j, j < S0.length → G[j]? = S0[j]? := by
  have hm := tr.m1
  have h1 := tr.n1
  by_cases hp : mayP p
  · by_cases ht : 1 ≤ mq ∧ p.t ≤ (ptI n nx mq R (mq - 1)).t
    · exact ⟨nx, mq, R, H, errA 15, 15, add_bad2 _ _ _ _ _ _ _ p tr hp ht.1 ht.2, fun T => add38_bad2 _ mq n p T hp ht.1 (by omega) ht.2, numE _ _ 15 (.inr ⟨rfl, rfl⟩), tr, gd, hl, ho⟩
    · obtain ⟨G, hl', tr', k', ad⟩ := add_trail _ _ _ _ _ _ _ p tr hp (fun h1 h2 => ht ⟨h1, h2⟩)
      have gd' := good_add hn.1 h1 hm gd hp (fun h1 h2 => ht ⟨h1, h2⟩)
      refine ⟨(nx + 1) % n, min (mq + 1) n, upd R nx p, G, .nili, 0, ad, fun T => ?_, numE _ _ 0 (.inl ⟨rfl, rfl⟩), tr', gd', by omega, fun j hj => (k' j (by omega) (by omega)).trans (ho j hj)⟩
      rw [← nxP_ptI n nx mq R p hn.1 h1 hm]
      rcases Nat.eq_zero_or_pos mq with h0 | h0
      · subst h0
        rw [show min (0 + 1) n = 1 by omega]
        exact add38_first _ n p T hp hn.1
      · exact add38_ok _ mq n p T hp h0 hm hn.2 (fun h2 => ht ⟨h0, h2⟩)
  · exact ⟨nx, mq, R, H, errA 1, 1, add_bad1 _ _ _ _ _ _ _ p tr hp, fun T => add38_bad1 _ mq n p T hp, numE _ _ 1 (.inr ⟨rfl, rfl⟩), tr, gd, hl, ho⟩
theorem trailRuns_ok (most : Int) (x : AV) (S : Heap) (hm : -9223372036854775808 ≤ most ∧ most < 9223372036854775808) (dat : DatC (.slice [.int .i64, .int .i64, .int .i64]) x) : Call theE 3 [.int .i64 most, x] S (.bool true) S := by
  have hml : maxLen ≤ 9223372036854775807 := by decide
  obtain ⟨l, rfl, hl⟩ := pts_of dat
  have su := fun S => sure38_ok S
  have sn := fun S => speed_nil S
  have mn := fun S => middle_nil S
  have ln := fun S => long_nil S
  have an := fun S => add_nil Pt.z S
  have pn := fun S => points_nil S
  have n1 := fun S => num9_given 1 S
  simp only [errA, Pt.z] at sn mn an
  refine Call.ofC Tryd.func3 YtdknnaalfoongaaDoor.b3 YtdknnaalfoongaaDoor.d3 YtdknnaalfoongaaDoor.e3 (by simp [Tryd.f3]) ?_
  dsimp only [YtdknnaalfoongaaDoor.c3, Tryd.f3, Option.getD_some]
  simp (maxSteps := 2000000) only [wk0, wk1, wk2, wk3, wk4, wk5, Fr.ev, Fr.put, Fr.get, pkB, pkT, pkF, storeA, if_false, if_true, Nat.reduceEqDiff, reduceIte, Nat.reduceAdd, List.replicate, Nat.reduceLeDiff, Nat.reduceMul, Nat.reduceSub, Nat.reducePow, Int.reduceLT, Int.reduceLE, Int.reduceToNat, Int.reducePow, IntKind.bits, Int.reduceEq, Int.reduceMul, Int.reduceNeg, ne_eq, reduceCtorEq, BEq.rfl, beq_self_eq_true, Int.reduceAdd, Int.reduceSub, Int.reduceMod, Int.reduceDiv, Nat.reduceMod, Nat.reduceDiv, Nat.reduceLT, cond_true, cond_false, gt_iff_lt, ge_iff_le, decide_true, decide_false, YtdknnaalfoongaaDoor.D3, keep3, ty2, ty3, ty4, ty22, ty23, ty25, ty35, ty36, ty41]
  repeat
    first
    | refine callThen_of (sn _) ?_
    | refine callThen_of (mn _) ?_
    | refine callThen_of (ln _) ?_
    | refine callThen_of (n1 _) ?_
    | refine callThen_of (an _) ?_
    | refine callThen_of (pn _) ?_
    simp (maxSteps := 2000000) only [wk0, wk1, wk2, wk3, wk4, wk5, Fr.ev, Fr.put, Fr.get, pkB, pkT, pkF, storeA, if_false, if_true, Nat.reduceEqDiff, reduceIte, Nat.reduceAdd, List.replicate, Nat.reduceLeDiff, Nat.reduceMul, Nat.reduceSub, Nat.reducePow, Int.reduceLT, Int.reduceLE, Int.reduceToNat, Int.reducePow, IntKind.bits, Int.reduceEq, Int.reduceMul, Int.reduceNeg, ne_eq, reduceCtorEq, BEq.rfl, beq_self_eq_true, Int.reduceAdd, Int.reduceSub, Int.reduceMod, Int.reduceDiv, Nat.reduceMod, Nat.reduceDiv, Nat.reduceLT, cond_true, cond_false, gt_iff_lt, ge_iff_le, decide_true, decide_false, YtdknnaalfoongaaDoor.D3, keep3, ty2, ty3, ty4, ty22, ty23, ty25, ty35, ty36, ty41]
  by_cases hb : most < 1 ∨ 256 < most
  · have nb := fun S => new_bad most S hb
    simp only [errA] at nb
    refine callThen_of (nb _) ?_
    by_cases h1 : most < 1
    · simp (maxSteps := 2000000) only [wk0, wk1, wk2, wk3, wk4, wk5, Fr.ev, Fr.put, Fr.get, pkB, pkT, pkF, storeA, if_false, if_true, Nat.reduceEqDiff, reduceIte, Nat.reduceAdd, List.replicate, Nat.reduceLeDiff, Nat.reduceMul, Nat.reduceSub, Nat.reducePow, Int.reduceLT, Int.reduceLE, Int.reduceToNat, Int.reducePow, IntKind.bits, Int.reduceEq, Int.reduceMul, Int.reduceNeg, ne_eq, reduceCtorEq, BEq.rfl, beq_self_eq_true, Int.reduceAdd, Int.reduceSub, Int.reduceMod, Int.reduceDiv, Nat.reduceMod, Nat.reduceDiv, Nat.reduceLT, cond_true, cond_false, gt_iff_lt, ge_iff_le, h1, decide_true, decide_false, YtdknnaalfoongaaDoor.D3, keep3, ty2, ty3, ty4, ty22, ty23, ty25, ty35, ty36, ty41]
      refine callThen_of (n1 _) ?_
      simp (maxSteps := 2000000) only [wk0, wk1, wk2, wk3, wk4, wk5, Fr.ev, Fr.put, Fr.get, pkB, pkT, pkF, storeA, if_false, if_true, Nat.reduceEqDiff, reduceIte, Nat.reduceAdd, List.replicate, Nat.reduceLeDiff, Nat.reduceMul, Nat.reduceSub, Nat.reducePow, Int.reduceLT, Int.reduceLE, Int.reduceToNat, Int.reducePow, IntKind.bits, Int.reduceEq, Int.reduceMul, Int.reduceNeg, ne_eq, reduceCtorEq, BEq.rfl, beq_self_eq_true, Int.reduceAdd, Int.reduceSub, Int.reduceMod, Int.reduceDiv, Nat.reduceMod, Nat.reduceDiv, Nat.reduceLT, cond_true, cond_false, gt_iff_lt, ge_iff_le, h1, decide_true, decide_false, YtdknnaalfoongaaDoor.D3, keep3, ty2, ty3, ty4, ty22, ty23, ty25, ty35, ty36, ty41]
      refine callThen_of (su _) ?_
      simp (maxSteps := 2000000) only [wk0, wk1, wk2, wk3, wk4, wk5, Fr.ev, Fr.put, Fr.get, pkB, pkT, pkF, storeA, if_false, if_true, Nat.reduceEqDiff, reduceIte, Nat.reduceAdd, List.replicate, Nat.reduceLeDiff, Nat.reduceMul, Nat.reduceSub, Nat.reducePow, Int.reduceLT, Int.reduceLE, Int.reduceToNat, Int.reducePow, IntKind.bits, Int.reduceEq, Int.reduceMul, Int.reduceNeg, ne_eq, reduceCtorEq, BEq.rfl, beq_self_eq_true, Int.reduceAdd, Int.reduceSub, Int.reduceMod, Int.reduceDiv, Nat.reduceMod, Nat.reduceDiv, Nat.reduceLT, cond_true, cond_false, gt_iff_lt, ge_iff_le, h1, decide_true, decide_false, YtdknnaalfoongaaDoor.D3, keep3, ty2, ty3, ty4, ty22, ty23, ty25, ty35, ty36, ty41]
      exact retB_plain (by simp [nmd_bool]) rfl (by simp)
    · have h2 : 256 < most := by omega
      simp (maxSteps := 2000000) only [wk0, wk1, wk2, wk3, wk4, wk5, Fr.ev, Fr.put, Fr.get, pkB, pkT, pkF, storeA, if_false, if_true, Nat.reduceEqDiff, reduceIte, Nat.reduceAdd, List.replicate, Nat.reduceLeDiff, Nat.reduceMul, Nat.reduceSub, Nat.reducePow, Int.reduceLT, Int.reduceLE, Int.reduceToNat, Int.reducePow, IntKind.bits, Int.reduceEq, Int.reduceMul, Int.reduceNeg, ne_eq, reduceCtorEq, BEq.rfl, beq_self_eq_true, Int.reduceAdd, Int.reduceSub, Int.reduceMod, Int.reduceDiv, Nat.reduceMod, Nat.reduceDiv, Nat.reduceLT, cond_true, cond_false, gt_iff_lt, ge_iff_le, h1, h2, decide_true, decide_false, YtdknnaalfoongaaDoor.D3, keep3, ty2, ty3, ty4, ty22, ty23, ty25, ty35, ty36, ty41]
      refine callThen_of (n1 _) ?_
      simp (maxSteps := 2000000) only [wk0, wk1, wk2, wk3, wk4, wk5, Fr.ev, Fr.put, Fr.get, pkB, pkT, pkF, storeA, if_false, if_true, Nat.reduceEqDiff, reduceIte, Nat.reduceAdd, List.replicate, Nat.reduceLeDiff, Nat.reduceMul, Nat.reduceSub, Nat.reducePow, Int.reduceLT, Int.reduceLE, Int.reduceToNat, Int.reducePow, IntKind.bits, Int.reduceEq, Int.reduceMul, Int.reduceNeg, ne_eq, reduceCtorEq, BEq.rfl, beq_self_eq_true, Int.reduceAdd, Int.reduceSub, Int.reduceMod, Int.reduceDiv, Nat.reduceMod, Nat.reduceDiv, Nat.reduceLT, cond_true, cond_false, gt_iff_lt, ge_iff_le, h1, h2, decide_true, decide_false, YtdknnaalfoongaaDoor.D3, keep3, ty2, ty3, ty4, ty22, ty23, ty25, ty35, ty36, ty41]
      refine callThen_of (su _) ?_
      simp (maxSteps := 2000000) only [wk0, wk1, wk2, wk3, wk4, wk5, Fr.ev, Fr.put, Fr.get, pkB, pkT, pkF, storeA, if_false, if_true, Nat.reduceEqDiff, reduceIte, Nat.reduceAdd, List.replicate, Nat.reduceLeDiff, Nat.reduceMul, Nat.reduceSub, Nat.reducePow, Int.reduceLT, Int.reduceLE, Int.reduceToNat, Int.reducePow, IntKind.bits, Int.reduceEq, Int.reduceMul, Int.reduceNeg, ne_eq, reduceCtorEq, BEq.rfl, beq_self_eq_true, Int.reduceAdd, Int.reduceSub, Int.reduceMod, Int.reduceDiv, Nat.reduceMod, Nat.reduceDiv, Nat.reduceLT, cond_true, cond_false, gt_iff_lt, ge_iff_le, h1, h2, decide_true, decide_false, YtdknnaalfoongaaDoor.D3, keep3, ty2, ty3, ty4, ty22, ty23, ty25, ty35, ty36, ty41]
      exact retB_plain (by simp [nmd_bool]) rfl (by simp)
  obtain ⟨n, rfl⟩ : ∃ n : Nat, most = (n : Int) := ⟨most.toNat, by omega⟩
  have hnb : 1 ≤ n ∧ n ≤ 256 := by omega
  have nw := new_ok n S hnb
  have h1 : ¬ (n : Int) < 1 := by omega
  have h2 : ¬ 256 < (n : Int) := by omega
  refine callThen_of nw ?_
  simp (maxSteps := 2000000) only [wk0, wk1, wk2, wk3, wk4, wk5, Fr.ev, Fr.put, Fr.get, pkB, pkT, pkF, storeA, if_false, if_true, Nat.reduceEqDiff, reduceIte, Nat.reduceAdd, List.replicate, Nat.reduceLeDiff, Nat.reduceMul, Nat.reduceSub, Nat.reducePow, Int.reduceLT, Int.reduceLE, Int.reduceToNat, Int.reducePow, IntKind.bits, Int.reduceEq, Int.reduceMul, Int.reduceNeg, ne_eq, reduceCtorEq, BEq.rfl, beq_self_eq_true, Int.reduceAdd, Int.reduceSub, Int.reduceMod, Int.reduceDiv, Nat.reduceMod, Nat.reduceDiv, Nat.reduceLT, cond_true, cond_false, gt_iff_lt, ge_iff_le, h1, h2, decide_true, decide_false, YtdknnaalfoongaaDoor.D3, keep3, ty2, ty3, ty4, ty22, ty23, ty25, ty35, ty36, ty41]
  refine loopC_ind (fun m fr H => ∃ (i nx mq : Nat) (R : Nat → Pt), i + m = min l.length 12 ∧ (fr.get 0 = .int .i64 n ∧ fr.get 1 = .lst (ptC (fun i => l.getD i Pt.z) l.length) l.length ∧ fr.get 15 = .ptr (S.length + 1) 0 0 ∧ fr.get 17 = slP (ptI n nx mq R) mq ∧ fr.get 18 = .int .i64 (i : Int)) ∧
    TrS H (S.length + 1) S.length n nx mq R ∧ GoodP (ptI n nx mq R) mq ∧ H.length = S.length + 2 ∧ ∀ j, j < S.length → H[j]? = S[j]?) ?_ (n := min l.length 12)
    ⟨0, 0, 0, fun _ => Pt.z, by omega, ⟨by simp [Fr.get], by simp [Fr.get], by simp [Fr.get], by simp [Fr.get, slP], by simp [Fr.get]⟩, ⟨by rw [blkAt_app]; rfl, by rw [blkAt_app0]; rfl, by omega, by omega, by omega, by omega⟩, ⟨fun i hi => by omega, fun i hi => by omega⟩, by simp, fun j hj => List.getElem?_append_left hj⟩
  rintro m fr H0 ⟨i, nx, mq, R, him, ⟨g0, g1, g15, g17, g18⟩, tr, gd, hlen, hold⟩ ih
  have wi : IntKind.i64.wrap ((i : Int) + 1) = ((i + 1 : Nat) : Int) := wrapI (by omega)
  by_cases hi : (i : Int) < l.length
  · by_cases hi2 : (i : Int) < 12
    · have hin : i < l.length := by omega
      have p1 : (0 : Int) ≤ i := by omega
      have rd := ptC_get (fun i => l.getD i Pt.z) l.length i hin
      have le : i * 3 + 3 ≤ l.length * 3 := by omega
      obtain ⟨p, hp⟩ : ∃ p, l.getD i Pt.z = p := ⟨_, rfl⟩
      simp only [hp] at rd
      obtain ⟨nx', mq', R', G, E, e, ad, ad', ⟨nE, mE⟩, tr', gd', hlen', hold'⟩ := step38 S H0 n nx mq R p hnb tr gd hlen hold
      obtain ⟨lg, u, v, mx, my, o, E1, E2, e1, e2, ⟨hE1, hE2⟩, ⟨L1, L2⟩, ⟨S1, S2⟩, M1, M2⟩ := same_ok _ _ _ _ _ _ _ tr' gd'
      obtain ⟨nE1, mE1⟩ := numE E1 e1 8 hE1
      obtain ⟨nE2, mE2⟩ := numE E2 e2 8 hE2
      have pt := points_ok _ _ _ _ _ _ _ tr'
      obtain ⟨F, hF⟩ : ∃ F, ptI n nx' mq' R' = F := ⟨_, rfl⟩
      simp only [hF] at pt ad' L2 S2 M2
      have hm1' := tr'.m1
      simp (maxSteps := 2000000) only [wk0, wk1, wk2, wk3, wk4, wk5, Fr.ev, Fr.put, Fr.get, pkB, pkT, pkF, storeA, if_false, if_true, Nat.reduceEqDiff, reduceIte, Nat.reduceAdd, List.replicate, Nat.reduceLeDiff, Nat.reduceMul, Nat.reduceSub, Nat.reducePow, Int.reduceLT, Int.reduceLE, Int.reduceToNat, Int.reducePow, IntKind.bits, Int.reduceEq, Int.reduceMul, Int.reduceNeg, ne_eq, reduceCtorEq, BEq.rfl, beq_self_eq_true, Int.reduceAdd, Int.reduceSub, Int.reduceMod, Int.reduceDiv, Nat.reduceMod, Nat.reduceDiv, Nat.reduceLT, cond_true, cond_false, gt_iff_lt, ge_iff_le, g0, g1, g15, g17, g18, hi, hi2, p1, rd, le, ptC_len, Int.toNat_natCast, mE, mv_slP, ln_slP, YtdknnaalfoongaaDoor.D3, keep3, ty2, ty3, ty4, ty22, ty23, ty25, ty35, ty36, ty41]
      refine callThen_of (ad) ?_
      simp (maxSteps := 2000000) only [wk0, wk1, wk2, wk3, wk4, wk5, Fr.ev, Fr.put, Fr.get, pkB, pkT, pkF, storeA, if_false, if_true, Nat.reduceEqDiff, reduceIte, Nat.reduceAdd, List.replicate, Nat.reduceLeDiff, Nat.reduceMul, Nat.reduceSub, Nat.reducePow, Int.reduceLT, Int.reduceLE, Int.reduceToNat, Int.reducePow, IntKind.bits, Int.reduceEq, Int.reduceMul, Int.reduceNeg, ne_eq, reduceCtorEq, BEq.rfl, beq_self_eq_true, Int.reduceAdd, Int.reduceSub, Int.reduceMod, Int.reduceDiv, Nat.reduceMod, Nat.reduceDiv, Nat.reduceLT, cond_true, cond_false, gt_iff_lt, ge_iff_le, g0, g1, g15, g17, g18, hi, hi2, p1, rd, le, ptC_len, Int.toNat_natCast, mE, mv_slP, ln_slP, YtdknnaalfoongaaDoor.D3, keep3, ty2, ty3, ty4, ty22, ty23, ty25, ty35, ty36, ty41]
      refine callThen_of (ad' _) ?_
      simp (maxSteps := 2000000) only [wk0, wk1, wk2, wk3, wk4, wk5, Fr.ev, Fr.put, Fr.get, pkB, pkT, pkF, storeA, if_false, if_true, Nat.reduceEqDiff, reduceIte, Nat.reduceAdd, List.replicate, Nat.reduceLeDiff, Nat.reduceMul, Nat.reduceSub, Nat.reducePow, Int.reduceLT, Int.reduceLE, Int.reduceToNat, Int.reducePow, IntKind.bits, Int.reduceEq, Int.reduceMul, Int.reduceNeg, ne_eq, reduceCtorEq, BEq.rfl, beq_self_eq_true, Int.reduceAdd, Int.reduceSub, Int.reduceMod, Int.reduceDiv, Nat.reduceMod, Nat.reduceDiv, Nat.reduceLT, cond_true, cond_false, gt_iff_lt, ge_iff_le, g0, g1, g15, g17, g18, hi, hi2, p1, rd, le, ptC_len, Int.toNat_natCast, mE, mv_slP, ln_slP, YtdknnaalfoongaaDoor.D3, keep3, ty2, ty3, ty4, ty22, ty23, ty25, ty35, ty36, ty41]
      refine callThen_of (pt) ?_
      simp (maxSteps := 2000000) only [wk0, wk1, wk2, wk3, wk4, wk5, Fr.ev, Fr.put, Fr.get, pkB, pkT, pkF, storeA, if_false, if_true, Nat.reduceEqDiff, reduceIte, Nat.reduceAdd, List.replicate, Nat.reduceLeDiff, Nat.reduceMul, Nat.reduceSub, Nat.reducePow, Int.reduceLT, Int.reduceLE, Int.reduceToNat, Int.reducePow, IntKind.bits, Int.reduceEq, Int.reduceMul, Int.reduceNeg, ne_eq, reduceCtorEq, BEq.rfl, beq_self_eq_true, Int.reduceAdd, Int.reduceSub, Int.reduceMod, Int.reduceDiv, Nat.reduceMod, Nat.reduceDiv, Nat.reduceLT, cond_true, cond_false, gt_iff_lt, ge_iff_le, g0, g1, g15, g17, g18, hi, hi2, p1, rd, le, ptC_len, Int.toNat_natCast, mE, mv_slP, ln_slP, YtdknnaalfoongaaDoor.D3, keep3, ty2, ty3, ty4, ty22, ty23, ty25, ty35, ty36, ty41]
      refine callThen_of (nE _) ?_
      simp (maxSteps := 2000000) only [wk0, wk1, wk2, wk3, wk4, wk5, Fr.ev, Fr.put, Fr.get, pkB, pkT, pkF, storeA, if_false, if_true, Nat.reduceEqDiff, reduceIte, Nat.reduceAdd, List.replicate, Nat.reduceLeDiff, Nat.reduceMul, Nat.reduceSub, Nat.reducePow, Int.reduceLT, Int.reduceLE, Int.reduceToNat, Int.reducePow, IntKind.bits, Int.reduceEq, Int.reduceMul, Int.reduceNeg, ne_eq, reduceCtorEq, BEq.rfl, beq_self_eq_true, Int.reduceAdd, Int.reduceSub, Int.reduceMod, Int.reduceDiv, Nat.reduceMod, Nat.reduceDiv, Nat.reduceLT, cond_true, cond_false, gt_iff_lt, ge_iff_le, g0, g1, g15, g17, g18, hi, hi2, p1, rd, le, ptC_len, Int.toNat_natCast, mE, mv_slP, ln_slP, YtdknnaalfoongaaDoor.D3, keep3, ty2, ty3, ty4, ty22, ty23, ty25, ty35, ty36, ty41]
      refine loopC_ind (fun m' fr H => ∃ k : Nat, k + m' = mq' ∧ (fr.get 0 = .int .i64 n ∧ fr.get 1 = .lst (ptC (fun i => l.getD i Pt.z) l.length) l.length ∧ fr.get 15 = .ptr (S.length + 1) 0 0 ∧ fr.get 17 = slP F mq' ∧ fr.get 18 = .int .i64 (i : Int)) ∧ (fr.get 22 = .lst (ptC F mq') mq' ∧ fr.get 23 = .int .i64 (k : Int)) ∧ H = G) ?_ (n := mq')
        ⟨0, by omega, ⟨by simp [Fr.get, g0], by simp [Fr.get, g1], by simp [Fr.get, g15], by simp [Fr.get], by simp [Fr.get, g18]⟩, ⟨by simp [Fr.get], by simp [Fr.get]⟩, rfl⟩
      clear g0 g1 g15 g17 g18
      rintro m' fr H ⟨k, hkm, ⟨g0, g1, g15, g17, g18⟩, ⟨g22, g23⟩, rfl⟩ ih2
      by_cases hk : (k : Int) < mq'
      · have hkn : k < mq' := by omega
        have q1 : (0 : Int) ≤ k := by omega
        have wk : IntKind.i64.wrap ((k : Int) + 1) = ((k + 1 : Nat) : Int) := wrapI (by omega)
        have rd2 := ptC_get F mq' k hkn
        have le2 : k * 3 + 3 ≤ mq' * 3 := by omega
        have hs : slP F mq' = .lst (ptC F mq') mq' := if_neg (by omega)
        have g17' : fr.get 17 = .lst (ptC F mq') mq' := by rw [g17]; exact hs
        simp (maxSteps := 2000000) only [wk0, wk1, wk2, wk3, wk4, wk5, Fr.ev, Fr.put, Fr.get, pkB, pkT, pkF, storeA, if_false, if_true, Nat.reduceEqDiff, reduceIte, Nat.reduceAdd, List.replicate, Nat.reduceLeDiff, Nat.reduceMul, Nat.reduceSub, Nat.reducePow, Int.reduceLT, Int.reduceLE, Int.reduceToNat, Int.reducePow, IntKind.bits, Int.reduceEq, Int.reduceMul, Int.reduceNeg, ne_eq, reduceCtorEq, BEq.rfl, beq_self_eq_true, Int.reduceAdd, Int.reduceSub, Int.reduceMod, Int.reduceDiv, Nat.reduceMod, Nat.reduceDiv, Nat.reduceLT, cond_true, cond_false, gt_iff_lt, ge_iff_le, g0, g1, g15, g17', g18, g22, g23, hk, q1, rd2, le2, ptC_len, all3, wk, Int.toNat_natCast, YtdknnaalfoongaaDoor.D3, keep3, ty2, ty3, ty4, ty22, ty23, ty25, ty35, ty36, ty41]
        exact ih2 (m' - 1) _ _ (by omega) ⟨k + 1, by omega, ⟨by simp [Fr.get, g0], by simp [Fr.get, g1], by simp [Fr.get, g15], by simp [Fr.get, g17', hs], by simp [Fr.get, g18]⟩, ⟨by simp [Fr.get, g22], by simp [Fr.get]⟩, rfl⟩
      · cases o
        all_goals
          simp (maxSteps := 2000000) only [wk0, wk1, wk2, wk3, wk4, wk5, Fr.ev, Fr.put, Fr.get, pkB, pkT, pkF, storeA, if_false, if_true, Nat.reduceEqDiff, reduceIte, Nat.reduceAdd, List.replicate, Nat.reduceLeDiff, Nat.reduceMul, Nat.reduceSub, Nat.reducePow, Int.reduceLT, Int.reduceLE, Int.reduceToNat, Int.reducePow, IntKind.bits, Int.reduceEq, Int.reduceMul, Int.reduceNeg, ne_eq, reduceCtorEq, BEq.rfl, beq_self_eq_true, Int.reduceAdd, Int.reduceSub, Int.reduceMod, Int.reduceDiv, Nat.reduceMod, Nat.reduceDiv, Nat.reduceLT, cond_true, cond_false, gt_iff_lt, ge_iff_le, g0, g1, g15, g17, g18, g22, g23, hk, wi, mv_slP, mE1, mE2, YtdknnaalfoongaaDoor.D3, keep3, ty2, ty3, ty4, ty22, ty23, ty25, ty35, ty36, ty41]
          repeat
            first
            | refine callThen_of (L1) ?_
            | refine callThen_of (L2 _) ?_
            | refine callThen_of (S1) ?_
            | refine callThen_of (S2 _) ?_
            | refine callThen_of (M1) ?_
            | refine callThen_of (M2 _) ?_
            | refine callThen_of (nE1 _) ?_
            | refine callThen_of (nE2 _) ?_
            simp (maxSteps := 2000000) only [wk0, wk1, wk2, wk3, wk4, wk5, Fr.ev, Fr.put, Fr.get, pkB, pkT, pkF, storeA, if_false, if_true, Nat.reduceEqDiff, reduceIte, Nat.reduceAdd, List.replicate, Nat.reduceLeDiff, Nat.reduceMul, Nat.reduceSub, Nat.reducePow, Int.reduceLT, Int.reduceLE, Int.reduceToNat, Int.reducePow, IntKind.bits, Int.reduceEq, Int.reduceMul, Int.reduceNeg, ne_eq, reduceCtorEq, BEq.rfl, beq_self_eq_true, Int.reduceAdd, Int.reduceSub, Int.reduceMod, Int.reduceDiv, Nat.reduceMod, Nat.reduceDiv, Nat.reduceLT, cond_true, cond_false, gt_iff_lt, ge_iff_le, g0, g1, g15, g17, g18, g22, g23, hk, wi, mv_slP, mE1, mE2, YtdknnaalfoongaaDoor.D3, keep3, ty2, ty3, ty4, ty22, ty23, ty25, ty35, ty36, ty41]
          exact ih (m - 1) _ _ (by omega) ⟨i + 1, nx', mq', R', by omega, ⟨by simp [Fr.get, g0], by simp [Fr.get, g1], by simp [Fr.get, g15], by simp [Fr.get, g17, hF], by simp [Fr.get]⟩, tr', gd', hlen', hold'⟩
    · simp (maxSteps := 2000000) only [wk0, wk1, wk2, wk3, wk4, wk5, Fr.ev, Fr.put, Fr.get, pkB, pkT, pkF, storeA, if_false, if_true, Nat.reduceEqDiff, reduceIte, Nat.reduceAdd, List.replicate, Nat.reduceLeDiff, Nat.reduceMul, Nat.reduceSub, Nat.reducePow, Int.reduceLT, Int.reduceLE, Int.reduceToNat, Int.reducePow, IntKind.bits, Int.reduceEq, Int.reduceMul, Int.reduceNeg, ne_eq, reduceCtorEq, BEq.rfl, beq_self_eq_true, Int.reduceAdd, Int.reduceSub, Int.reduceMod, Int.reduceDiv, Nat.reduceMod, Nat.reduceDiv, Nat.reduceLT, cond_true, cond_false, gt_iff_lt, ge_iff_le, g0, g1, g15, g17, g18, hi, hi2, YtdknnaalfoongaaDoor.D3, keep3, ty2, ty3, ty4, ty22, ty23, ty25, ty35, ty36, ty41]
      refine callThen_of (su _) ?_
      simp (maxSteps := 2000000) only [wk0, wk1, wk2, wk3, wk4, wk5, Fr.ev, Fr.put, Fr.get, pkB, pkT, pkF, storeA, if_false, if_true, Nat.reduceEqDiff, reduceIte, Nat.reduceAdd, List.replicate, Nat.reduceLeDiff, Nat.reduceMul, Nat.reduceSub, Nat.reducePow, Int.reduceLT, Int.reduceLE, Int.reduceToNat, Int.reducePow, IntKind.bits, Int.reduceEq, Int.reduceMul, Int.reduceNeg, ne_eq, reduceCtorEq, BEq.rfl, beq_self_eq_true, Int.reduceAdd, Int.reduceSub, Int.reduceMod, Int.reduceDiv, Nat.reduceMod, Nat.reduceDiv, Nat.reduceLT, cond_true, cond_false, gt_iff_lt, ge_iff_le, g0, g1, g15, g17, g18, hi, hi2, YtdknnaalfoongaaDoor.D3, keep3, ty2, ty3, ty4, ty22, ty23, ty25, ty35, ty36, ty41]
      exact retB_plain (by simp [nmd_bool]) rfl (keep_take hlen hold)
  · simp (maxSteps := 2000000) only [wk0, wk1, wk2, wk3, wk4, wk5, Fr.ev, Fr.put, Fr.get, pkB, pkT, pkF, storeA, if_false, if_true, Nat.reduceEqDiff, reduceIte, Nat.reduceAdd, List.replicate, Nat.reduceLeDiff, Nat.reduceMul, Nat.reduceSub, Nat.reducePow, Int.reduceLT, Int.reduceLE, Int.reduceToNat, Int.reducePow, IntKind.bits, Int.reduceEq, Int.reduceMul, Int.reduceNeg, ne_eq, reduceCtorEq, BEq.rfl, beq_self_eq_true, Int.reduceAdd, Int.reduceSub, Int.reduceMod, Int.reduceDiv, Nat.reduceMod, Nat.reduceDiv, Nat.reduceLT, cond_true, cond_false, gt_iff_lt, ge_iff_le, g0, g1, g15, g17, g18, hi, YtdknnaalfoongaaDoor.D3, keep3, ty2, ty3, ty4, ty22, ty23, ty25, ty35, ty36, ty41]
    refine callThen_of (su _) ?_
    simp (maxSteps := 2000000) only [wk0, wk1, wk2, wk3, wk4, wk5, Fr.ev, Fr.put, Fr.get, pkB, pkT, pkF, storeA, if_false, if_true, Nat.reduceEqDiff, reduceIte, Nat.reduceAdd, List.replicate, Nat.reduceLeDiff, Nat.reduceMul, Nat.reduceSub, Nat.reducePow, Int.reduceLT, Int.reduceLE, Int.reduceToNat, Int.reducePow, IntKind.bits, Int.reduceEq, Int.reduceMul, Int.reduceNeg, ne_eq, reduceCtorEq, BEq.rfl, beq_self_eq_true, Int.reduceAdd, Int.reduceSub, Int.reduceMod, Int.reduceDiv, Nat.reduceMod, Nat.reduceDiv, Nat.reduceLT, cond_true, cond_false, gt_iff_lt, ge_iff_le, g0, g1, g15, g17, g18, hi, YtdknnaalfoongaaDoor.D3, keep3, ty2, ty3, ty4, ty22, ty23, ty25, ty35, ty36, ty41]
    exact retB_plain (by simp [nmd_bool]) rfl (keep_take hlen hold)
end Go.Proofs.YtdknnaalfoongaaDoor
