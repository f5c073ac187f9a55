/- trail: how fast; what layer 38's statements are sure of. -/
import Derived.Test.YtdknnaalfoongaaDoorT2
import Derived.Test.YtdknnaalfoongaaDoorQ8
set_option linter.unusedSimpArgs false
set_option linter.unusedVariables false
set_option maxRecDepth 100000
set_option maxHeartbeats 4000000
namespace Go.Proofs.YtdknnaalfoongaaDoor
noncomputable def c6 : Code := Tryd.f6.body.getD .skip
theorem b6 : Tryd.f6.body = some c6 := rfl
theorem d6 : fnOk Tryd.f6 c6 = true := by kernel_rfl
def D6 : Nat → List Tag := fun _ => []
theorem e6 : drawsOk D6 c6 = true := by kernel_rfl
noncomputable def c13 : Code := Tryd.f13.body.getD .skip
theorem b13 : Tryd.f13.body = some c13 := rfl
theorem d13 : fnOk Tryd.f13 c13 = true := by kernel_rfl
def D13 : Nat → List Tag := fun _ => []
theorem e13 : drawsOk D13 c13 = true := by kernel_rfl
theorem speed_ok (S : Heap) (q b c nx mn : Nat) (R : Nat → Pt) (h : TrS S q b c nx mn R) (hm : 2 ≤ mn) (hp : ∀ i, i < mn → mayP (ptI c nx mn R i)) (u v : Int) (o o' : Bool)
    (d1 : ∀ S, Call theE 33 [.int .i64 ((ptI c nx mn R (mn - 1)).x - (ptI c nx mn R 0).x), .int .i64 ((ptI c nx mn R (mn - 1)).t - (ptI c nx mn R 0).t), .int .i64 20] S (.tup [.int .i64 u, .bool o, .nili]) S)
    (d2 : ∀ S, Call theE 33 [.int .i64 ((ptI c nx mn R (mn - 1)).y - (ptI c nx mn R 0).y), .int .i64 ((ptI c nx mn R (mn - 1)).t - (ptI c nx mn R 0).t), .int .i64 20] S (.tup [.int .i64 v, .bool o', .nili]) S) :
    Call theE 6 [.ptr q 0 0] S (.tup [.int .i64 u, .int .i64 v, .bool (o || o'), .nili]) S := by
  have f0 := fun L => blk_app (L := L) h.hq
  have f00 := h.hq
  have a0 := at_trail S q b c nx mn 0 R h (by omega)
  have a1 := last_trail S q b c nx mn R h (by omega)
  have p0 := hp 0 (by omega)
  have p1 := hp (mn - 1) (by omega)
  have k1 : ¬ (mn : Int) < 2 := by omega
  simp only [castLit, Int.cast_ofNat_Int] at a0
  change Call _ _ [_, .int .i64 0] _ _ _ at a0
  generalize ptI c nx mn R 0 = A at *
  generalize ptI c nx mn R (mn - 1) = B at *
  unfold mayP at p0 p1
  have w1 : IntKind.i64.wrap (B.x - A.x) = B.x - A.x := wrapI (by omega)
  have w2 : IntKind.i64.wrap (B.y - A.y) = B.y - A.y := wrapI (by omega)
  have w3 : IntKind.i64.wrap (B.t - A.t) = B.t - A.t := wrapI (by omega)
  refine Call.ofC Tryd.func6 YtdknnaalfoongaaDoor.b6 YtdknnaalfoongaaDoor.d6 YtdknnaalfoongaaDoor.e6 (by simp [Tryd.f6]) ?_
  dsimp only [YtdknnaalfoongaaDoor.c6, Tryd.f6, Option.getD_some]
  simp (maxSteps := 2000000) only [wk0, wk1, wk2, wk3, wk4, wk5, Fr.ev, Fr.put, Fr.get, pkB, pkT, pkF, storeA, if_false, if_true, Nat.reduceEqDiff, reduceIte, Nat.reduceAdd, List.replicate, Nat.reduceLeDiff, Nat.reduceMul, Nat.reduceSub, Nat.reducePow, Int.reduceLT, Int.reduceLE, Int.reduceToNat, Int.reducePow, IntKind.bits, Int.reduceEq, Int.reduceMul, Int.reduceNeg, ne_eq, reduceCtorEq, BEq.rfl, beq_self_eq_true, Int.reduceAdd, Int.reduceSub, Int.reduceMod, Int.reduceDiv, Nat.reduceMod, Nat.reduceDiv, Nat.reduceLT, cond_true, cond_false, gt_iff_lt, ge_iff_le, f00, f0, k1, w1, w2, w3, YtdknnaalfoongaaDoor.D6, ty1, ty2, ty3, ty4, ty23, ty25, ty35, ty79, ty81]
  refine callThen_of (a0) ?_
  simp (maxSteps := 2000000) only [wk0, wk1, wk2, wk3, wk4, wk5, Fr.ev, Fr.put, Fr.get, pkB, pkT, pkF, storeA, if_false, if_true, Nat.reduceEqDiff, reduceIte, Nat.reduceAdd, List.replicate, Nat.reduceLeDiff, Nat.reduceMul, Nat.reduceSub, Nat.reducePow, Int.reduceLT, Int.reduceLE, Int.reduceToNat, Int.reducePow, IntKind.bits, Int.reduceEq, Int.reduceMul, Int.reduceNeg, ne_eq, reduceCtorEq, BEq.rfl, beq_self_eq_true, Int.reduceAdd, Int.reduceSub, Int.reduceMod, Int.reduceDiv, Nat.reduceMod, Nat.reduceDiv, Nat.reduceLT, cond_true, cond_false, gt_iff_lt, ge_iff_le, f00, f0, k1, w1, w2, w3, YtdknnaalfoongaaDoor.D6, ty1, ty2, ty3, ty4, ty23, ty25, ty35, ty79, ty81]
  refine callThen_of (a1) ?_
  simp (maxSteps := 2000000) only [wk0, wk1, wk2, wk3, wk4, wk5, Fr.ev, Fr.put, Fr.get, pkB, pkT, pkF, storeA, if_false, if_true, Nat.reduceEqDiff, reduceIte, Nat.reduceAdd, List.replicate, Nat.reduceLeDiff, Nat.reduceMul, Nat.reduceSub, Nat.reducePow, Int.reduceLT, Int.reduceLE, Int.reduceToNat, Int.reducePow, IntKind.bits, Int.reduceEq, Int.reduceMul, Int.reduceNeg, ne_eq, reduceCtorEq, BEq.rfl, beq_self_eq_true, Int.reduceAdd, Int.reduceSub, Int.reduceMod, Int.reduceDiv, Nat.reduceMod, Nat.reduceDiv, Nat.reduceLT, cond_true, cond_false, gt_iff_lt, ge_iff_le, f00, f0, k1, w1, w2, w3, YtdknnaalfoongaaDoor.D6, ty1, ty2, ty3, ty4, ty23, ty25, ty35, ty79, ty81]
  refine callThen_of (d1 _) ?_
  simp (maxSteps := 2000000) only [wk0, wk1, wk2, wk3, wk4, wk5, Fr.ev, Fr.put, Fr.get, pkB, pkT, pkF, storeA, if_false, if_true, Nat.reduceEqDiff, reduceIte, Nat.reduceAdd, List.replicate, Nat.reduceLeDiff, Nat.reduceMul, Nat.reduceSub, Nat.reducePow, Int.reduceLT, Int.reduceLE, Int.reduceToNat, Int.reducePow, IntKind.bits, Int.reduceEq, Int.reduceMul, Int.reduceNeg, ne_eq, reduceCtorEq, BEq.rfl, beq_self_eq_true, Int.reduceAdd, Int.reduceSub, Int.reduceMod, Int.reduceDiv, Nat.reduceMod, Nat.reduceDiv, Nat.reduceLT, cond_true, cond_false, gt_iff_lt, ge_iff_le, f00, f0, k1, w1, w2, w3, YtdknnaalfoongaaDoor.D6, ty1, ty2, ty3, ty4, ty23, ty25, ty35, ty79, ty81]
  refine callThen_of (d2 _) ?_
  cases o
  · simp (maxSteps := 2000000) only [wk0, wk1, wk2, wk3, wk4, wk5, Fr.ev, Fr.put, Fr.get, pkB, pkT, pkF, storeA, if_false, if_true, Nat.reduceEqDiff, reduceIte, Nat.reduceAdd, List.replicate, Nat.reduceLeDiff, Nat.reduceMul, Nat.reduceSub, Nat.reducePow, Int.reduceLT, Int.reduceLE, Int.reduceToNat, Int.reducePow, IntKind.bits, Int.reduceEq, Int.reduceMul, Int.reduceNeg, ne_eq, reduceCtorEq, BEq.rfl, beq_self_eq_true, Int.reduceAdd, Int.reduceSub, Int.reduceMod, Int.reduceDiv, Nat.reduceMod, Nat.reduceDiv, Nat.reduceLT, cond_true, cond_false, gt_iff_lt, ge_iff_le, YtdknnaalfoongaaDoor.D6, ty1, ty2, ty3, ty4, ty23, ty25, ty35, ty79, ty81]
    exact retB_plain (by simp [nmd_int, nmd_nili, nmd_bool]) rfl (by simp)
  · simp (maxSteps := 2000000) only [wk0, wk1, wk2, wk3, wk4, wk5, Fr.ev, Fr.put, Fr.get, pkB, pkT, pkF, storeA, if_false, if_true, Nat.reduceEqDiff, reduceIte, Nat.reduceAdd, List.replicate, Nat.reduceLeDiff, Nat.reduceMul, Nat.reduceSub, Nat.reducePow, Int.reduceLT, Int.reduceLE, Int.reduceToNat, Int.reducePow, IntKind.bits, Int.reduceEq, Int.reduceMul, Int.reduceNeg, ne_eq, reduceCtorEq, BEq.rfl, beq_self_eq_true, Int.reduceAdd, Int.reduceSub, Int.reduceMod, Int.reduceDiv, Nat.reduceMod, Nat.reduceDiv, Nat.reduceLT, cond_true, cond_false, gt_iff_lt, ge_iff_le, YtdknnaalfoongaaDoor.D6, ty1, ty2, ty3, ty4, ty23, ty25, ty35, ty79, ty81]
    exact retB_plain (by simp [nmd_int, nmd_nili, nmd_bool]) rfl (by simp)
theorem keep_take {S S' : Heap} {n : Nat} (h1 : S'.length = S.length + n) (h2 : ∀ i, i < S.length → S'[i]? = S[i]?) : S = S'.take S.length := by
  apply List.ext_getElem?
  intro i
  rw [List.getElem?_take]
  by_cases hi : i < S.length
  · rw [if_pos hi, h2 i hi]
  · rw [if_neg hi, List.getElem?_eq_none (by omega)]
theorem sure38_ok (S : Heap) : Call theE 13 [] S (.bool true) S := by
  have n0 := new_ok 2 S (by decide)
  have t0 : TrS (S ++ [some ⟨ptC (fun _ => Pt.z) 2, 0⟩, some ⟨[.sl S.length 0 0 2 2 3, .int .i64 0, .int .i64 0], 0⟩]) (S.length + 1) S.length 2 0 0 (fun _ => Pt.z) :=
    ⟨by rw [blkAt_app]; rfl, by rw [blkAt_app0]; rfl, by decide, by decide, by decide, by omega⟩
  obtain ⟨S1, l1, t1, k1, c1⟩ := add_trail _ _ _ _ _ _ _ Pt.z t0 (by unfold mayP Pt.z; decide) (fun h => absurd h (by decide))
  obtain ⟨S2, l2, t2, k2, c2⟩ := add_trail _ _ _ _ _ _ _ ⟨2097152, 10485760, 0⟩ t1 (by unfold mayP; decide) (fun _ => by decide)
  have hp : ∀ i, i < 2 → mayP (ptI 2 (((0 + 1) % 2 + 1) % 2) (min (min (0 + 1) 2 + 1) 2) (upd (upd (fun _ => Pt.z) 0 Pt.z) ((0 + 1) % 2) ⟨2097152, 10485760, 0⟩) i) := by
    intro i hi
    match i, hi with
    | 0, _ => unfold mayP; decide
    | 1, _ => unfold mayP; decide
  obtain ⟨r, fr, lg⟩ := long_ok S2 _ _ _ _ _ _ t2 (by decide) hp
  have lg := lg S2 t2
  have md := middle_ok S2 _ _ _ _ _ _ t2 (by decide) hp
  have pt := points_ok S2 _ _ _ _ _ _ t2
  have f1 : (0 ≤ r 1 ∧ r 1 ≤ 4611686018427387903) ∧ r 1 * r 1 ≤ 109951162777600 ∧ 109951162777600 < (r 1 + 1) * (r 1 + 1) := fr 1 (by decide) (by decide)
  have r1 : r 1 = 10485760 := by
    have b1 := (sq_le (x := 10485760) (r := r 1) (N := 109951162777600) (by decide) f1.1.1 f1.2.1 f1.2.2).1 (by decide)
    have b2 := (sq_le (x := r 1) (r := 10485760) (N := 109951162777600) f1.1.1 (by decide) (by decide) (by decide)).1 f1.2.1
    omega
  change Call theE _ [_] S2 (.tup [.int .i64 (bndI (0 + r 1)), .bool (false || ovrB (0 + r 1))]) S2 at lg
  rw [r1] at lg
  change Call theE _ [_] S2 (.tup [.int .i64 10485760, .bool false]) S2 at lg
  change Call theE _ [_] S2 (.tup [.int .i64 5242880, .int .i64 0, .nili]) S2 at md
  have sp := speed_ok S2 _ _ _ _ _ _ t2 (by decide) hp 5242880 0 false false (fun S => by
    obtain ⟨v, e, d⟩ := div_ok 10485760 2097152 20 S (by unfold inI; decide) (by unfold inI; decide) (by decide) (by decide)
    have e' : v = 5242880 := by rw [e]; decide
    subst e'
    exact d) (fun S => by
    obtain ⟨v, e, d⟩ := div_ok 0 2097152 20 S (by unfold inI; decide) (by unfold inI; decide) (by decide) (by decide)
    have e' : v = 0 := by rw [e]; decide
    subst e'
    exact d)
  change Call theE _ [_] S2 (.tup [.int .i64 5242880, .int .i64 0, .bool false, .nili]) S2 at sp
  change Call theE _ [_] S2 (.lst _ 2) S2 at pt
  change Call theE _ [.ptr (S.length + 1) 0 0, .agg [.int .i64 0, .int .i64 0, .int .i64 0]] _ _ _ at c1
  change Call theE _ [.ptr (S.length + 1) 0 0, .agg [.int .i64 2097152, .int .i64 10485760, .int .i64 0]] _ _ _ at c2
  have fin : S = S2.take S.length := keep_take (n := 2) (by rw [l2, l1]; simp) (fun i hi => by rw [k2 i (by omega) (by omega), k1 i (by omega) (by omega), List.getElem?_append_left hi])
  refine Call.ofC Tryd.func13 YtdknnaalfoongaaDoor.b13 YtdknnaalfoongaaDoor.d13 YtdknnaalfoongaaDoor.e13 (by simp [Tryd.f13]) ?_
  dsimp only [YtdknnaalfoongaaDoor.c13, Tryd.f13, Option.getD_some]
  simp (maxSteps := 2000000) only [wk0, wk1, wk2, wk3, wk4, wk5, Fr.ev, Fr.put, Fr.get, pkB, pkT, pkF, storeA, if_false, if_true, Nat.reduceEqDiff, reduceIte, Nat.reduceAdd, List.replicate, Nat.reduceLeDiff, Nat.reduceMul, Nat.reduceSub, Nat.reducePow, Int.reduceLT, Int.reduceLE, Int.reduceToNat, Int.reducePow, IntKind.bits, Int.reduceEq, Int.reduceMul, Int.reduceNeg, ne_eq, reduceCtorEq, BEq.rfl, beq_self_eq_true, Int.reduceAdd, Int.reduceSub, Int.reduceMod, Int.reduceDiv, Nat.reduceMod, Nat.reduceDiv, Nat.reduceLT, cond_true, cond_false, gt_iff_lt, ge_iff_le, YtdknnaalfoongaaDoor.D13, ty2, ty3, ty4, ty23, ty25, ty35, ty36]
  refine callThen_of (n0) ?_
  simp (maxSteps := 2000000) only [wk0, wk1, wk2, wk3, wk4, wk5, Fr.ev, Fr.put, Fr.get, pkB, pkT, pkF, storeA, if_false, if_true, Nat.reduceEqDiff, reduceIte, Nat.reduceAdd, List.replicate, Nat.reduceLeDiff, Nat.reduceMul, Nat.reduceSub, Nat.reducePow, Int.reduceLT, Int.reduceLE, Int.reduceToNat, Int.reducePow, IntKind.bits, Int.reduceEq, Int.reduceMul, Int.reduceNeg, ne_eq, reduceCtorEq, BEq.rfl, beq_self_eq_true, Int.reduceAdd, Int.reduceSub, Int.reduceMod, Int.reduceDiv, Nat.reduceMod, Nat.reduceDiv, Nat.reduceLT, cond_true, cond_false, gt_iff_lt, ge_iff_le, YtdknnaalfoongaaDoor.D13, ty2, ty3, ty4, ty23, ty25, ty35, ty36]
  refine callThen_of (c1) ?_
  simp (maxSteps := 2000000) only [wk0, wk1, wk2, wk3, wk4, wk5, Fr.ev, Fr.put, Fr.get, pkB, pkT, pkF, storeA, if_false, if_true, Nat.reduceEqDiff, reduceIte, Nat.reduceAdd, List.replicate, Nat.reduceLeDiff, Nat.reduceMul, Nat.reduceSub, Nat.reducePow, Int.reduceLT, Int.reduceLE, Int.reduceToNat, Int.reducePow, IntKind.bits, Int.reduceEq, Int.reduceMul, Int.reduceNeg, ne_eq, reduceCtorEq, BEq.rfl, beq_self_eq_true, Int.reduceAdd, Int.reduceSub, Int.reduceMod, Int.reduceDiv, Nat.reduceMod, Nat.reduceDiv, Nat.reduceLT, cond_true, cond_false, gt_iff_lt, ge_iff_le, YtdknnaalfoongaaDoor.D13, ty2, ty3, ty4, ty23, ty25, ty35, ty36]
  refine callThen_of (c2) ?_
  simp (maxSteps := 2000000) only [wk0, wk1, wk2, wk3, wk4, wk5, Fr.ev, Fr.put, Fr.get, pkB, pkT, pkF, storeA, if_false, if_true, Nat.reduceEqDiff, reduceIte, Nat.reduceAdd, List.replicate, Nat.reduceLeDiff, Nat.reduceMul, Nat.reduceSub, Nat.reducePow, Int.reduceLT, Int.reduceLE, Int.reduceToNat, Int.reducePow, IntKind.bits, Int.reduceEq, Int.reduceMul, Int.reduceNeg, ne_eq, reduceCtorEq, BEq.rfl, beq_self_eq_true, Int.reduceAdd, Int.reduceSub, Int.reduceMod, Int.reduceDiv, Nat.reduceMod, Nat.reduceDiv, Nat.reduceLT, cond_true, cond_false, gt_iff_lt, ge_iff_le, YtdknnaalfoongaaDoor.D13, ty2, ty3, ty4, ty23, ty25, ty35, ty36]
  refine callThen_of (sp) ?_
  simp (maxSteps := 2000000) only [wk0, wk1, wk2, wk3, wk4, wk5, Fr.ev, Fr.put, Fr.get, pkB, pkT, pkF, storeA, if_false, if_true, Nat.reduceEqDiff, reduceIte, Nat.reduceAdd, List.replicate, Nat.reduceLeDiff, Nat.reduceMul, Nat.reduceSub, Nat.reducePow, Int.reduceLT, Int.reduceLE, Int.reduceToNat, Int.reducePow, IntKind.bits, Int.reduceEq, Int.reduceMul, Int.reduceNeg, ne_eq, reduceCtorEq, BEq.rfl, beq_self_eq_true, Int.reduceAdd, Int.reduceSub, Int.reduceMod, Int.reduceDiv, Nat.reduceMod, Nat.reduceDiv, Nat.reduceLT, cond_true, cond_false, gt_iff_lt, ge_iff_le, YtdknnaalfoongaaDoor.D13, ty2, ty3, ty4, ty23, ty25, ty35, ty36]
  refine callThen_of (lg) ?_
  simp (maxSteps := 2000000) only [wk0, wk1, wk2, wk3, wk4, wk5, Fr.ev, Fr.put, Fr.get, pkB, pkT, pkF, storeA, if_false, if_true, Nat.reduceEqDiff, reduceIte, Nat.reduceAdd, List.replicate, Nat.reduceLeDiff, Nat.reduceMul, Nat.reduceSub, Nat.reducePow, Int.reduceLT, Int.reduceLE, Int.reduceToNat, Int.reducePow, IntKind.bits, Int.reduceEq, Int.reduceMul, Int.reduceNeg, ne_eq, reduceCtorEq, BEq.rfl, beq_self_eq_true, Int.reduceAdd, Int.reduceSub, Int.reduceMod, Int.reduceDiv, Nat.reduceMod, Nat.reduceDiv, Nat.reduceLT, cond_true, cond_false, gt_iff_lt, ge_iff_le, YtdknnaalfoongaaDoor.D13, ty2, ty3, ty4, ty23, ty25, ty35, ty36]
  refine callThen_of (md) ?_
  simp (maxSteps := 2000000) only [wk0, wk1, wk2, wk3, wk4, wk5, Fr.ev, Fr.put, Fr.get, pkB, pkT, pkF, storeA, if_false, if_true, Nat.reduceEqDiff, reduceIte, Nat.reduceAdd, List.replicate, Nat.reduceLeDiff, Nat.reduceMul, Nat.reduceSub, Nat.reducePow, Int.reduceLT, Int.reduceLE, Int.reduceToNat, Int.reducePow, IntKind.bits, Int.reduceEq, Int.reduceMul, Int.reduceNeg, ne_eq, reduceCtorEq, BEq.rfl, beq_self_eq_true, Int.reduceAdd, Int.reduceSub, Int.reduceMod, Int.reduceDiv, Nat.reduceMod, Nat.reduceDiv, Nat.reduceLT, cond_true, cond_false, gt_iff_lt, ge_iff_le, YtdknnaalfoongaaDoor.D13, ty2, ty3, ty4, ty23, ty25, ty35, ty36]
  refine callThen_of (pt) ?_
  simp (maxSteps := 2000000) only [wk0, wk1, wk2, wk3, wk4, wk5, Fr.ev, Fr.put, Fr.get, pkB, pkT, pkF, storeA, if_false, if_true, Nat.reduceEqDiff, reduceIte, Nat.reduceAdd, List.replicate, Nat.reduceLeDiff, Nat.reduceMul, Nat.reduceSub, Nat.reducePow, Int.reduceLT, Int.reduceLE, Int.reduceToNat, Int.reducePow, IntKind.bits, Int.reduceEq, Int.reduceMul, Int.reduceNeg, ne_eq, reduceCtorEq, BEq.rfl, beq_self_eq_true, Int.reduceAdd, Int.reduceSub, Int.reduceMod, Int.reduceDiv, Nat.reduceMod, Nat.reduceDiv, Nat.reduceLT, cond_true, cond_false, gt_iff_lt, ge_iff_le, YtdknnaalfoongaaDoor.D13, ty2, ty3, ty4, ty23, ty25, ty35, ty36]
  exact retB_plain (by simp [nmd_bool]) rfl fin
end Go.Proofs.YtdknnaalfoongaaDoor
