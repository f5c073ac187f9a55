/- trig: a pair turned step by step; the sine and the cosine. -/
import Derived.Test.YtjdnmejohadlbaaDoorU0
set_option linter.unusedSimpArgs false
set_option linter.unusedVariables false
set_option maxRecDepth 100000
set_option maxHeartbeats 4000000
namespace Go.Proofs.YtjdnmejohadlbaaDoor
noncomputable def c147 : Code := Tryd.f147.body.getD .skip
theorem b147 : Tryd.f147.body = some c147 := rfl
theorem d147 : fnOk Tryd.f147 c147 = true := by kernel_rfl
def D147 : Nat → List Tag := fun _ => []
theorem e147 : drawsOk D147 c147 = true := by kernel_rfl
noncomputable def c148 : Code := Tryd.f148.body.getD .skip
theorem b148 : Tryd.f148.body = some c148 := rfl
theorem d148 : fnOk Tryd.f148 c148 = true := by kernel_rfl
def D148 : Nat → List Tag
  | 1 => [.pure, .quiet, .pure, .quiet, .pure, .pure, .pure, .pure, .quiet, .pure, .quiet, .pure, .pure, .pure, .pure, .seq]
  | _ => []
theorem e148 : drawsOk D148 c148 = true := by kernel_rfl
noncomputable def c149 : Code := Tryd.f149.body.getD .skip
theorem b149 : Tryd.f149.body = some c149 := rfl
theorem d149 : fnOk Tryd.f149 c149 = true := by kernel_rfl
def D149 : Nat → List Tag
  | 1 => [.pure, .quiet, .pure, .quiet, .pure, .pure, .pure, .pure, .quiet, .pure, .quiet, .pure, .pure, .pure, .pure, .seq]
  | _ => []
theorem e149 : drawsOk D149 c149 = true := by kernel_rfl
noncomputable def c150 : Code := Tryd.f150.body.getD .skip
theorem b150 : Tryd.f150.body = some c150 := rfl
theorem d150 : fnOk Tryd.f150 c150 = true := by kernel_rfl
def D150 : Nat → List Tag := fun _ => []
theorem e150 : drawsOk D150 c150 = true := by kernel_rfl
noncomputable def c79 : Code := Tryd.f79.body.getD .skip
theorem b79 : Tryd.f79.body = some c79 := rfl
theorem d79 : fnOk Tryd.f79 c79 = true := by kernel_rfl
def D79 : Nat → List Tag
  | 11 => [.pure, .quiet, .quiet, .pure, .quiet, .seq, .pure, .pure]
  | _ => []
theorem e79 : drawsOk D79 c79 = true := by kernel_rfl
noncomputable def c20 : Code := Tryd.f20.body.getD .skip
theorem b20 : Tryd.f20.body = some c20 := rfl
theorem d20 : fnOk Tryd.f20 c20 = true := by kernel_rfl
def D20 : Nat → List Tag := fun _ => []
theorem e20 : drawsOk D20 c20 = true := by kernel_rfl
noncomputable def c22 : Code := Tryd.f22.body.getD .skip
theorem b22 : Tryd.f22.body = some c22 := rfl
theorem d22 : fnOk Tryd.f22 c22 = true := by kernel_rfl
def D22 : Nat → List Tag := fun _ => []
theorem e22 : drawsOk D22 c22 = true := by kernel_rfl
theorem angles_ok (S : Heap) : Call theE 147 [] S (.agg (angL.map fun n => AV.int .i64 n)) S := by
  unfold angL
  simp only [List.map_cons, List.map_nil]
  refine Call.ofC Tryd.func147 YtjdnmejohadlbaaDoor.b147 YtjdnmejohadlbaaDoor.d147 YtjdnmejohadlbaaDoor.e147 (by simp [Tryd.f147]) ?_
  dsimp only [YtjdnmejohadlbaaDoor.c147, Tryd.f147, Option.getD_some]
  simp (maxSteps := 2000000) only [wk0, wk1, wk2, wk3, wk4, keepA, keepT, Fr.keep, frzT, flatT, arrayAtA, ownT, extT, Fr.ev, Fr.put, Fr.get, initFr, buildSliceA, zeros, pkB, pkT, pkF, ownDst, Env.kd, ofConst, isConst, binA, intI, cmpI, shiftI, convertA, buildA, fillA, fillS, splice, AV.cells?, storeA, readAt, fieldAddrA, fieldA, indexA, extractA, unA, builtinA, appendA, lenA, sliceCells, isSliceK, makeInterfaceA, nilCheckA, eqA, AV.one, AV.plain, if_false, if_true, Nat.reduceEqDiff, reduceIte, Nat.reduceAdd, List.replicate, Nat.reduceLeDiff, Nat.reduceMul, Nat.reduceSub, Nat.reducePow, Int.reduceLT, Int.reduceLE, Int.reduceToNat, Int.reducePow, IntKind.bits, Int.reduceEq, Int.reduceMul, Int.reduceNeg, ne_eq, reduceCtorEq, escT, BEq.rfl, beq_self_eq_true, Int.reduceAdd, Int.reduceSub, Int.reduceMod, Int.reduceDiv, Nat.reduceMod, Nat.reduceDiv, Nat.reduceLT, cond_true, cond_false, gt_iff_lt, ge_iff_le, YtjdnmejohadlbaaDoor.D147, ty220]
  exact retB_plain (by simp [nmd_agg, nmd_int]) rfl (by simp)
theorem left_ok (x y : Int) (k : Nat) (S : Heap) (hk : k ≤ 64) : Call theE 148 [.agg [.int .i64 x, .int .i64 y], .int .i64 k] S (.agg [.int .i64 (IntKind.i64.wrap (x - y / 2 ^ k)), .int .i64 (IntKind.i64.wrap (y + x / 2 ^ k))]) S := by
  have k0 : ¬ (k : Int) < 0 := by omega
  have s := fun (n : Int) => show n.fdiv (2 ^ k) = n / 2 ^ k from Int.fdiv_eq_ediv_of_nonneg _ (Int.le_of_lt (Int.pow_pos (by decide)))
  have mk : min k 64 = k := by omega
  have mk2 : (if k ≤ 64 then k else 64) = k := if_pos hk
  refine Call.ofC Tryd.func148 YtjdnmejohadlbaaDoor.b148 YtjdnmejohadlbaaDoor.d148 YtjdnmejohadlbaaDoor.e148 (by simp [Tryd.f148]) ?_
  dsimp only [YtjdnmejohadlbaaDoor.c148, Tryd.f148, Option.getD_some]
  simp (maxSteps := 2000000) only [wk0, wk1, wk2, wk3, wk4, keepA, keepT, Fr.keep, frzT, flatT, arrayAtA, ownT, extT, Fr.ev, Fr.put, Fr.get, initFr, buildSliceA, zeros, pkB, pkT, pkF, ownDst, Env.kd, ofConst, isConst, binA, intI, cmpI, shiftI, convertA, buildA, fillA, fillS, splice, AV.cells?, storeA, readAt, fieldAddrA, fieldA, indexA, extractA, unA, builtinA, appendA, lenA, sliceCells, isSliceK, makeInterfaceA, nilCheckA, eqA, AV.one, AV.plain, if_false, if_true, Nat.reduceEqDiff, reduceIte, Nat.reduceAdd, List.replicate, Nat.reduceLeDiff, Nat.reduceMul, Nat.reduceSub, Nat.reducePow, Int.reduceLT, Int.reduceLE, Int.reduceToNat, Int.reducePow, IntKind.bits, Int.reduceEq, Int.reduceMul, Int.reduceNeg, ne_eq, reduceCtorEq, escT, BEq.rfl, beq_self_eq_true, Int.reduceAdd, Int.reduceSub, Int.reduceMod, Int.reduceDiv, Nat.reduceMod, Nat.reduceDiv, Nat.reduceLT, cond_true, cond_false, gt_iff_lt, ge_iff_le, k0, s, mk, mk2, hk, Int.toNat_natCast, YtjdnmejohadlbaaDoor.D148, ty1, ty2, ty3, ty219]
  exact retB_plain (by simp [nmd_agg, nmd_int]) rfl (by simp)
theorem right_ok (x y : Int) (k : Nat) (S : Heap) (hk : k ≤ 64) : Call theE 149 [.agg [.int .i64 x, .int .i64 y], .int .i64 k] S (.agg [.int .i64 (IntKind.i64.wrap (x + y / 2 ^ k)), .int .i64 (IntKind.i64.wrap (y - x / 2 ^ k))]) S := by
  have k0 : ¬ (k : Int) < 0 := by omega
  have s := fun (n : Int) => show n.fdiv (2 ^ k) = n / 2 ^ k from Int.fdiv_eq_ediv_of_nonneg _ (Int.le_of_lt (Int.pow_pos (by decide)))
  have mk : min k 64 = k := by omega
  have mk2 : (if k ≤ 64 then k else 64) = k := if_pos hk
  refine Call.ofC Tryd.func149 YtjdnmejohadlbaaDoor.b149 YtjdnmejohadlbaaDoor.d149 YtjdnmejohadlbaaDoor.e149 (by simp [Tryd.f149]) ?_
  dsimp only [YtjdnmejohadlbaaDoor.c149, Tryd.f149, Option.getD_some]
  simp (maxSteps := 2000000) only [wk0, wk1, wk2, wk3, wk4, keepA, keepT, Fr.keep, frzT, flatT, arrayAtA, ownT, extT, Fr.ev, Fr.put, Fr.get, initFr, buildSliceA, zeros, pkB, pkT, pkF, ownDst, Env.kd, ofConst, isConst, binA, intI, cmpI, shiftI, convertA, buildA, fillA, fillS, splice, AV.cells?, storeA, readAt, fieldAddrA, fieldA, indexA, extractA, unA, builtinA, appendA, lenA, sliceCells, isSliceK, makeInterfaceA, nilCheckA, eqA, AV.one, AV.plain, if_false, if_true, Nat.reduceEqDiff, reduceIte, Nat.reduceAdd, List.replicate, Nat.reduceLeDiff, Nat.reduceMul, Nat.reduceSub, Nat.reducePow, Int.reduceLT, Int.reduceLE, Int.reduceToNat, Int.reducePow, IntKind.bits, Int.reduceEq, Int.reduceMul, Int.reduceNeg, ne_eq, reduceCtorEq, escT, BEq.rfl, beq_self_eq_true, Int.reduceAdd, Int.reduceSub, Int.reduceMod, Int.reduceDiv, Nat.reduceMod, Nat.reduceDiv, Nat.reduceLT, cond_true, cond_false, gt_iff_lt, ge_iff_le, k0, s, mk, mk2, hk, Int.toNat_natCast, YtjdnmejohadlbaaDoor.D149, ty1, ty2, ty3, ty219]
  exact retB_plain (by simp [nmd_agg, nmd_int]) rfl (by simp)
def r30 (n : Int) : Int := bndI (rnd n (2 ^ 30))
theorem rounded_ok (n : Int) (S : Heap) (hn : inI n) : Call theE 150 [.int .i64 n] S (.int .i64 (r30 n)) S := by
  have m := fun S => move_down n 0 29 S (by omega) hn
  change ∀ S, Call theE _ [.int .i64 n, .int .i64 30, .int .i64 0] S (.tup [.int .i64 (r30 n), .bool _, .nili]) S at m
  generalize ovrB (rnd n (2 ^ (29 + 1))) = o at m
  refine Call.ofC Tryd.func150 YtjdnmejohadlbaaDoor.b150 YtjdnmejohadlbaaDoor.d150 YtjdnmejohadlbaaDoor.e150 (by simp [Tryd.f150]) ?_
  dsimp only [YtjdnmejohadlbaaDoor.c150, Tryd.f150, Option.getD_some]
  simp (maxSteps := 2000000) only [wk0, wk1, wk2, wk3, wk4, keepA, keepT, Fr.keep, frzT, flatT, arrayAtA, ownT, extT, Fr.ev, Fr.put, Fr.get, initFr, buildSliceA, zeros, pkB, pkT, pkF, ownDst, Env.kd, ofConst, isConst, binA, intI, cmpI, shiftI, convertA, buildA, fillA, fillS, splice, AV.cells?, storeA, readAt, fieldAddrA, fieldA, indexA, extractA, unA, builtinA, appendA, lenA, sliceCells, isSliceK, makeInterfaceA, nilCheckA, eqA, AV.one, AV.plain, if_false, if_true, Nat.reduceEqDiff, reduceIte, Nat.reduceAdd, List.replicate, Nat.reduceLeDiff, Nat.reduceMul, Nat.reduceSub, Nat.reducePow, Int.reduceLT, Int.reduceLE, Int.reduceToNat, Int.reducePow, IntKind.bits, Int.reduceEq, Int.reduceMul, Int.reduceNeg, ne_eq, reduceCtorEq, escT, BEq.rfl, beq_self_eq_true, Int.reduceAdd, Int.reduceSub, Int.reduceMod, Int.reduceDiv, Nat.reduceMod, Nat.reduceDiv, Nat.reduceLT, cond_true, cond_false, gt_iff_lt, ge_iff_le, YtjdnmejohadlbaaDoor.D150, ty2, ty3, ty4, ty30]
  refine callThen_of (m _) ?_
  simp (maxSteps := 2000000) only [wk0, wk1, wk2, wk3, wk4, keepA, keepT, Fr.keep, frzT, flatT, arrayAtA, ownT, extT, Fr.ev, Fr.put, Fr.get, initFr, buildSliceA, zeros, pkB, pkT, pkF, ownDst, Env.kd, ofConst, isConst, binA, intI, cmpI, shiftI, convertA, buildA, fillA, fillS, splice, AV.cells?, storeA, readAt, fieldAddrA, fieldA, indexA, extractA, unA, builtinA, appendA, lenA, sliceCells, isSliceK, makeInterfaceA, nilCheckA, eqA, AV.one, AV.plain, if_false, if_true, Nat.reduceEqDiff, reduceIte, Nat.reduceAdd, List.replicate, Nat.reduceLeDiff, Nat.reduceMul, Nat.reduceSub, Nat.reducePow, Int.reduceLT, Int.reduceLE, Int.reduceToNat, Int.reducePow, IntKind.bits, Int.reduceEq, Int.reduceMul, Int.reduceNeg, ne_eq, reduceCtorEq, escT, BEq.rfl, beq_self_eq_true, Int.reduceAdd, Int.reduceSub, Int.reduceMod, Int.reduceDiv, Nat.reduceMod, Nat.reduceDiv, Nat.reduceLT, cond_true, cond_false, gt_iff_lt, ge_iff_le, YtjdnmejohadlbaaDoor.D150, ty2, ty3, ty4, ty30]
  exact retB_plain (by simp [nmd_int]) rfl (by simp)
/-- The pair of a step, whatever it is. -/
theorem stepP_left (k : Nat) (p : P3) : stepP true k p = ⟨IntKind.i64.wrap (p.x - p.y / 2 ^ k), IntKind.i64.wrap (p.y + p.x / 2 ^ k), IntKind.i64.wrap (p.z - angN k)⟩ := rfl
theorem stepP_right (k : Nat) (p : P3) : stepP false k p = ⟨IntKind.i64.wrap (p.x + p.y / 2 ^ k), IntKind.i64.wrap (p.y - p.x / 2 ^ k), IntKind.i64.wrap (p.z + angN k)⟩ := rfl
theorem first_ok (z : Int) (S : Heap) (hz : inI z) : Call theE 79 [.int .i64 z] S (.tup [.int .i64 (r30 (bothP z).x), .int .i64 (r30 (bothP z).y)]) S := by
  have a0 := fun S => angles_ok S
  obtain ⟨run, hrun⟩ : ∃ run : Nat → P3, run = runP (fun p => decide (0 ≤ p.z)) ⟨495056041134655927, 495056041134655927, z⟩ := ⟨_, rfl⟩
  have hin : ∀ k, OkP (run k) := fun k => by rw [hrun]; exact runP_okP ⟨show inI 495056041134655927 by unfold inI; omega, show inI 495056041134655927 by unfold inI; omega, hz⟩ k
  have hst : ∀ k, run (k + 1) = stepP (decide (0 ≤ (run k).z)) k (run k) := fun k => by rw [hrun]; rfl
  have h0 : run 0 = ⟨495056041134655927, 495056041134655927, z⟩ := by rw [hrun]; rfl
  have h40 : bothP z = run 40 := by rw [hrun]; rfl
  rw [h40]
  clear hrun h40
  have r1 := fun S => rounded_ok (run 40).x S (hin 40).x
  have r2 := fun S => rounded_ok (run 40).y S (hin 40).y
  refine Call.ofC Tryd.func79 YtjdnmejohadlbaaDoor.b79 YtjdnmejohadlbaaDoor.d79 YtjdnmejohadlbaaDoor.e79 (by simp [Tryd.f79]) ?_
  dsimp only [YtjdnmejohadlbaaDoor.c79, Tryd.f79, Option.getD_some]
  simp (maxSteps := 2000000) only [wk0, wk1, wk2, wk3, wk4, keepA, keepT, Fr.keep, frzT, flatT, arrayAtA, ownT, extT, Fr.ev, Fr.put, Fr.get, initFr, buildSliceA, zeros, pkB, pkT, pkF, ownDst, Env.kd, ofConst, isConst, binA, intI, cmpI, shiftI, convertA, buildA, fillA, fillS, splice, AV.cells?, storeA, readAt, fieldAddrA, fieldA, indexA, extractA, unA, builtinA, appendA, lenA, sliceCells, isSliceK, makeInterfaceA, nilCheckA, eqA, AV.one, AV.plain, if_false, if_true, Nat.reduceEqDiff, reduceIte, Nat.reduceAdd, List.replicate, Nat.reduceLeDiff, Nat.reduceMul, Nat.reduceSub, Nat.reducePow, Int.reduceLT, Int.reduceLE, Int.reduceToNat, Int.reducePow, IntKind.bits, Int.reduceEq, Int.reduceMul, Int.reduceNeg, ne_eq, reduceCtorEq, escT, BEq.rfl, beq_self_eq_true, Int.reduceAdd, Int.reduceSub, Int.reduceMod, Int.reduceDiv, Nat.reduceMod, Nat.reduceDiv, Nat.reduceLT, cond_true, cond_false, gt_iff_lt, ge_iff_le, YtjdnmejohadlbaaDoor.D79, ty1, ty2, ty3, ty4, ty219, ty220]
  refine callThen_of (a0 _) ?_
  simp (maxSteps := 2000000) only [wk0, wk1, wk2, wk3, wk4, keepA, keepT, Fr.keep, frzT, flatT, arrayAtA, ownT, extT, Fr.ev, Fr.put, Fr.get, initFr, buildSliceA, zeros, pkB, pkT, pkF, ownDst, Env.kd, ofConst, isConst, binA, intI, cmpI, shiftI, convertA, buildA, fillA, fillS, splice, AV.cells?, storeA, readAt, fieldAddrA, fieldA, indexA, extractA, unA, builtinA, appendA, lenA, sliceCells, isSliceK, makeInterfaceA, nilCheckA, eqA, AV.one, AV.plain, if_false, if_true, Nat.reduceEqDiff, reduceIte, Nat.reduceAdd, List.replicate, Nat.reduceLeDiff, Nat.reduceMul, Nat.reduceSub, Nat.reducePow, Int.reduceLT, Int.reduceLE, Int.reduceToNat, Int.reducePow, IntKind.bits, Int.reduceEq, Int.reduceMul, Int.reduceNeg, ne_eq, reduceCtorEq, escT, BEq.rfl, beq_self_eq_true, Int.reduceAdd, Int.reduceSub, Int.reduceMod, Int.reduceDiv, Nat.reduceMod, Nat.reduceDiv, Nat.reduceLT, cond_true, cond_false, gt_iff_lt, ge_iff_le, YtjdnmejohadlbaaDoor.D79, ty1, ty2, ty3, ty4, ty219, ty220]
  refine loopC_ind (fun m fr H => ∃ k : Nat, k + m = 40 ∧ fr.get 0 = .int .i64 (run k).z ∧ fr.get 4 = .ptr S.length 0 0 ∧ fr.get 8 = .agg (angL.map fun n => AV.int .i64 n) ∧ fr.get 9 = .int .i64 (k : Int) ∧
    H = S ++ [some ⟨[.int .i64 (run k).x, .int .i64 (run k).y], 0⟩]) ?_ (n := 40) ⟨0, by omega, by rw [h0]; rfl, rfl, rfl, rfl, by rw [h0]⟩
  rintro m fr H ⟨k, hkm, g0, g4, g8, g9, rfl⟩ ih
  by_cases hk : (k : Int) < 40
  · have hkn : k < 40 := by omega
    have ga := ang_at k hkn
    have p1 : (0 : Int) ≤ (k : Int) := by omega
    have wi : IntKind.i64.wrap ((k : Int) + 1) = ((k + 1 : Nat) : Int) := wrapI (by omega)
    have hs := hst k
    by_cases hz0 : 0 ≤ (run k).z
    · have l := fun S => left_ok (run k).x (run k).y k S (by omega)
      rw [decide_eq_true hz0, stepP_left] at hs
      simp (maxSteps := 2000000) only [wk0, wk1, wk2, wk3, wk4, keepA, keepT, Fr.keep, frzT, flatT, arrayAtA, ownT, extT, Fr.ev, Fr.put, Fr.get, initFr, buildSliceA, zeros, pkB, pkT, pkF, ownDst, Env.kd, ofConst, isConst, binA, intI, cmpI, shiftI, convertA, buildA, fillA, fillS, splice, AV.cells?, storeA, readAt, fieldAddrA, fieldA, indexA, extractA, unA, builtinA, appendA, lenA, sliceCells, isSliceK, makeInterfaceA, nilCheckA, eqA, AV.one, AV.plain, if_false, if_true, Nat.reduceEqDiff, reduceIte, Nat.reduceAdd, List.replicate, Nat.reduceLeDiff, Nat.reduceMul, Nat.reduceSub, Nat.reducePow, Int.reduceLT, Int.reduceLE, Int.reduceToNat, Int.reducePow, IntKind.bits, Int.reduceEq, Int.reduceMul, Int.reduceNeg, ne_eq, reduceCtorEq, escT, BEq.rfl, beq_self_eq_true, Int.reduceAdd, Int.reduceSub, Int.reduceMod, Int.reduceDiv, Nat.reduceMod, Nat.reduceDiv, Nat.reduceLT, cond_true, cond_false, gt_iff_lt, ge_iff_le, g0, g4, g8, g9, hk, hz0, ga, p1, wi, Int.toNat_natCast, Nat.mul_one, YtjdnmejohadlbaaDoor.D79, ty1, ty2, ty3, ty4, ty219, ty220]
      refine callThen_of (l _) ?_
      simp (maxSteps := 2000000) only [wk0, wk1, wk2, wk3, wk4, keepA, keepT, Fr.keep, frzT, flatT, arrayAtA, ownT, extT, Fr.ev, Fr.put, Fr.get, initFr, buildSliceA, zeros, pkB, pkT, pkF, ownDst, Env.kd, ofConst, isConst, binA, intI, cmpI, shiftI, convertA, buildA, fillA, fillS, splice, AV.cells?, storeA, readAt, fieldAddrA, fieldA, indexA, extractA, unA, builtinA, appendA, lenA, sliceCells, isSliceK, makeInterfaceA, nilCheckA, eqA, AV.one, AV.plain, if_false, if_true, Nat.reduceEqDiff, reduceIte, Nat.reduceAdd, List.replicate, Nat.reduceLeDiff, Nat.reduceMul, Nat.reduceSub, Nat.reducePow, Int.reduceLT, Int.reduceLE, Int.reduceToNat, Int.reducePow, IntKind.bits, Int.reduceEq, Int.reduceMul, Int.reduceNeg, ne_eq, reduceCtorEq, escT, BEq.rfl, beq_self_eq_true, Int.reduceAdd, Int.reduceSub, Int.reduceMod, Int.reduceDiv, Nat.reduceMod, Nat.reduceDiv, Nat.reduceLT, cond_true, cond_false, gt_iff_lt, ge_iff_le, g0, g4, g8, g9, hk, hz0, ga, p1, wi, Int.toNat_natCast, Nat.mul_one, YtjdnmejohadlbaaDoor.D79, ty1, ty2, ty3, ty4, ty219, ty220]
      exact ih (m - 1) _ _ (by omega) ⟨k + 1, by omega, by rw [hs]; simp [Fr.get], by simp [Fr.get, g4], by simp [Fr.get, g8], by simp [Fr.get], by rw [hs]⟩
    · have l := fun S => right_ok (run k).x (run k).y k S (by omega)
      rw [decide_eq_false hz0, stepP_right] at hs
      simp (maxSteps := 2000000) only [wk0, wk1, wk2, wk3, wk4, keepA, keepT, Fr.keep, frzT, flatT, arrayAtA, ownT, extT, Fr.ev, Fr.put, Fr.get, initFr, buildSliceA, zeros, pkB, pkT, pkF, ownDst, Env.kd, ofConst, isConst, binA, intI, cmpI, shiftI, convertA, buildA, fillA, fillS, splice, AV.cells?, storeA, readAt, fieldAddrA, fieldA, indexA, extractA, unA, builtinA, appendA, lenA, sliceCells, isSliceK, makeInterfaceA, nilCheckA, eqA, AV.one, AV.plain, if_false, if_true, Nat.reduceEqDiff, reduceIte, Nat.reduceAdd, List.replicate, Nat.reduceLeDiff, Nat.reduceMul, Nat.reduceSub, Nat.reducePow, Int.reduceLT, Int.reduceLE, Int.reduceToNat, Int.reducePow, IntKind.bits, Int.reduceEq, Int.reduceMul, Int.reduceNeg, ne_eq, reduceCtorEq, escT, BEq.rfl, beq_self_eq_true, Int.reduceAdd, Int.reduceSub, Int.reduceMod, Int.reduceDiv, Nat.reduceMod, Nat.reduceDiv, Nat.reduceLT, cond_true, cond_false, gt_iff_lt, ge_iff_le, g0, g4, g8, g9, hk, hz0, ga, p1, wi, Int.toNat_natCast, Nat.mul_one, YtjdnmejohadlbaaDoor.D79, ty1, ty2, ty3, ty4, ty219, ty220]
      refine callThen_of (l _) ?_
      simp (maxSteps := 2000000) only [wk0, wk1, wk2, wk3, wk4, keepA, keepT, Fr.keep, frzT, flatT, arrayAtA, ownT, extT, Fr.ev, Fr.put, Fr.get, initFr, buildSliceA, zeros, pkB, pkT, pkF, ownDst, Env.kd, ofConst, isConst, binA, intI, cmpI, shiftI, convertA, buildA, fillA, fillS, splice, AV.cells?, storeA, readAt, fieldAddrA, fieldA, indexA, extractA, unA, builtinA, appendA, lenA, sliceCells, isSliceK, makeInterfaceA, nilCheckA, eqA, AV.one, AV.plain, if_false, if_true, Nat.reduceEqDiff, reduceIte, Nat.reduceAdd, List.replicate, Nat.reduceLeDiff, Nat.reduceMul, Nat.reduceSub, Nat.reducePow, Int.reduceLT, Int.reduceLE, Int.reduceToNat, Int.reducePow, IntKind.bits, Int.reduceEq, Int.reduceMul, Int.reduceNeg, ne_eq, reduceCtorEq, escT, BEq.rfl, beq_self_eq_true, Int.reduceAdd, Int.reduceSub, Int.reduceMod, Int.reduceDiv, Nat.reduceMod, Nat.reduceDiv, Nat.reduceLT, cond_true, cond_false, gt_iff_lt, ge_iff_le, g0, g4, g8, g9, hk, hz0, ga, p1, wi, Int.toNat_natCast, Nat.mul_one, YtjdnmejohadlbaaDoor.D79, ty1, ty2, ty3, ty4, ty219, ty220]
      exact ih (m - 1) _ _ (by omega) ⟨k + 1, by omega, by rw [hs]; simp [Fr.get], by simp [Fr.get, g4], by simp [Fr.get, g8], by simp [Fr.get], by rw [hs]⟩
  · obtain rfl : k = 40 := by omega
    simp (maxSteps := 2000000) only [wk0, wk1, wk2, wk3, wk4, keepA, keepT, Fr.keep, frzT, flatT, arrayAtA, ownT, extT, Fr.ev, Fr.put, Fr.get, initFr, buildSliceA, zeros, pkB, pkT, pkF, ownDst, Env.kd, ofConst, isConst, binA, intI, cmpI, shiftI, convertA, buildA, fillA, fillS, splice, AV.cells?, storeA, readAt, fieldAddrA, fieldA, indexA, extractA, unA, builtinA, appendA, lenA, sliceCells, isSliceK, makeInterfaceA, nilCheckA, eqA, AV.one, AV.plain, if_false, if_true, Nat.reduceEqDiff, reduceIte, Nat.reduceAdd, List.replicate, Nat.reduceLeDiff, Nat.reduceMul, Nat.reduceSub, Nat.reducePow, Int.reduceLT, Int.reduceLE, Int.reduceToNat, Int.reducePow, IntKind.bits, Int.reduceEq, Int.reduceMul, Int.reduceNeg, ne_eq, reduceCtorEq, escT, BEq.rfl, beq_self_eq_true, Int.reduceAdd, Int.reduceSub, Int.reduceMod, Int.reduceDiv, Nat.reduceMod, Nat.reduceDiv, Nat.reduceLT, cond_true, cond_false, gt_iff_lt, ge_iff_le, g0, g4, g8, g9, hk, YtjdnmejohadlbaaDoor.D79, ty1, ty2, ty3, ty4, ty219, ty220]
    refine callThen_of (r1 _) ?_
    simp (maxSteps := 2000000) only [wk0, wk1, wk2, wk3, wk4, keepA, keepT, Fr.keep, frzT, flatT, arrayAtA, ownT, extT, Fr.ev, Fr.put, Fr.get, initFr, buildSliceA, zeros, pkB, pkT, pkF, ownDst, Env.kd, ofConst, isConst, binA, intI, cmpI, shiftI, convertA, buildA, fillA, fillS, splice, AV.cells?, storeA, readAt, fieldAddrA, fieldA, indexA, extractA, unA, builtinA, appendA, lenA, sliceCells, isSliceK, makeInterfaceA, nilCheckA, eqA, AV.one, AV.plain, if_false, if_true, Nat.reduceEqDiff, reduceIte, Nat.reduceAdd, List.replicate, Nat.reduceLeDiff, Nat.reduceMul, Nat.reduceSub, Nat.reducePow, Int.reduceLT, Int.reduceLE, Int.reduceToNat, Int.reducePow, IntKind.bits, Int.reduceEq, Int.reduceMul, Int.reduceNeg, ne_eq, reduceCtorEq, escT, BEq.rfl, beq_self_eq_true, Int.reduceAdd, Int.reduceSub, Int.reduceMod, Int.reduceDiv, Nat.reduceMod, Nat.reduceDiv, Nat.reduceLT, cond_true, cond_false, gt_iff_lt, ge_iff_le, g0, g4, g8, g9, hk, YtjdnmejohadlbaaDoor.D79, ty1, ty2, ty3, ty4, ty219, ty220]
    refine callThen_of (r2 _) ?_
    simp (maxSteps := 2000000) only [wk0, wk1, wk2, wk3, wk4, keepA, keepT, Fr.keep, frzT, flatT, arrayAtA, ownT, extT, Fr.ev, Fr.put, Fr.get, initFr, buildSliceA, zeros, pkB, pkT, pkF, ownDst, Env.kd, ofConst, isConst, binA, intI, cmpI, shiftI, convertA, buildA, fillA, fillS, splice, AV.cells?, storeA, readAt, fieldAddrA, fieldA, indexA, extractA, unA, builtinA, appendA, lenA, sliceCells, isSliceK, makeInterfaceA, nilCheckA, eqA, AV.one, AV.plain, if_false, if_true, Nat.reduceEqDiff, reduceIte, Nat.reduceAdd, List.replicate, Nat.reduceLeDiff, Nat.reduceMul, Nat.reduceSub, Nat.reducePow, Int.reduceLT, Int.reduceLE, Int.reduceToNat, Int.reducePow, IntKind.bits, Int.reduceEq, Int.reduceMul, Int.reduceNeg, ne_eq, reduceCtorEq, escT, BEq.rfl, beq_self_eq_true, Int.reduceAdd, Int.reduceSub, Int.reduceMod, Int.reduceDiv, Nat.reduceMod, Nat.reduceDiv, Nat.reduceLT, cond_true, cond_false, gt_iff_lt, ge_iff_le, g0, g4, g8, g9, hk, YtjdnmejohadlbaaDoor.D79, ty1, ty2, ty3, ty4, ty219, ty220]
    exact retB_plain (by simp [nmd_int]) rfl (by simp)
theorem r30_in (n : Int) : -4611686018427387903 ≤ r30 n ∧ r30 n ≤ 4611686018427387903 := by unfold r30 bndI; omega
def bothZ (t : Int) : Int := t % 1073741824 * 1073741824 - 576460752303423488
def cosQ (t : Int) : Int := r30 (bothP (bothZ t)).x
def sinQ (t : Int) : Int := r30 (bothP (bothZ t)).y
/-- The sine and the cosine of a direction. -/
def sinT (t : Int) : Int := if t / 1073741824 = 0 then sinQ t else if t / 1073741824 = 1 then cosQ t else if t / 1073741824 = 2 then -sinQ t else -cosQ t
def cosT (t : Int) : Int := if t / 1073741824 = 0 then cosQ t else if t / 1073741824 = 1 then -sinQ t else if t / 1073741824 = 2 then -cosQ t else sinQ t
theorem sinT_in (t : Int) : -4611686018427387903 ≤ sinT t ∧ sinT t ≤ 4611686018427387903 := by
  have h1 := r30_in (bothP (bothZ t)).x
  have h2 := r30_in (bothP (bothZ t)).y
  unfold sinT sinQ cosQ
  split
  · omega
  · split
    · omega
    · split <;> omega
theorem cosT_in (t : Int) : -4611686018427387903 ≤ cosT t ∧ cosT t ≤ 4611686018427387903 := by
  have h1 := r30_in (bothP (bothZ t)).x
  have h2 := r30_in (bothP (bothZ t)).y
  unfold cosT sinQ cosQ
  split
  · omega
  · split
    · omega
    · split <;> omega
theorem and30 {x : Int} (h : 0 ≤ x ∧ x < 4294967296) : bitsI .and .u32 x 1073741823 = some (.int .u32 (x % 1073741824)) := by
  show some (AV.int .u32 (IntKind.u32.wrap ((BitVec.ofInt 32 x &&& BitVec.ofInt 32 1073741823).toNat : Int))) = _
  have e1 : (BitVec.ofInt 32 x).toNat = x.toNat := by
    rw [BitVec.toNat_ofInt]
    congr 1
    omega
  have e2 : (BitVec.ofInt 32 1073741823).toNat = 2 ^ 30 - 1 := by decide
  rw [BitVec.toNat_and, e1, e2, Nat.and_two_pow_sub_one_eq_mod, Int.natCast_emod, Int.toNat_of_nonneg h.1]
  have e3 : ((2 ^ 30 : Nat) : Int) = 1073741824 := by decide
  rw [e3]
  congr 2
  simp [IntKind.wrap, IntKind.bits, IntKind.signed]
  omega
theorem both_ok (t : Int) (S : Heap) (ht : 0 ≤ t ∧ t < 4294967296) : Call theE 20 [.int .u32 t] S (.tup [.int .i64 (sinT t), .int .i64 (cosT t)]) S := by
  have hf := fun S => first_ok (bothZ t) S (by unfold inI bothZ; omega)
  have an := and30 ht
  have w0 : IntKind.i64.wrap (t % 1073741824) = t % 1073741824 := wrapI (by omega)
  have w1 : IntKind.i64.wrap (t % 1073741824 * 1073741824) = t % 1073741824 * 1073741824 := wrapI (by omega)
  have w2 : IntKind.i64.wrap (t % 1073741824 * 1073741824 - 576460752303423488) = bothZ t := wrapI (by omega)
  have sh : t.fdiv 1073741824 = t / 1073741824 := Int.fdiv_eq_ediv_of_nonneg _ (by omega)
  have h1 : -4611686018427387903 ≤ cosQ t ∧ cosQ t ≤ 4611686018427387903 := r30_in _
  have h2 : -4611686018427387903 ≤ sinQ t ∧ sinQ t ≤ 4611686018427387903 := r30_in _
  have n1 : IntKind.i64.wrap (0 - cosQ t) = -cosQ t := by rw [wrapI (by omega)]; omega
  have n2 : IntKind.i64.wrap (0 - sinQ t) = -sinQ t := by rw [wrapI (by omega)]; omega
  have hq : t / 1073741824 = 0 ∨ t / 1073741824 = 1 ∨ t / 1073741824 = 2 ∨ t / 1073741824 = 3 := by omega
  change ∀ S, Call theE _ _ _ (.tup [.int .i64 (cosQ t), .int .i64 (sinQ t)]) _ at hf
  unfold sinT cosT
  generalize cosQ t = c at *
  generalize sinQ t = s at *
  have m30 : min 30 32 = 30 := rfl
  refine Call.ofC Tryd.func20 YtjdnmejohadlbaaDoor.b20 YtjdnmejohadlbaaDoor.d20 YtjdnmejohadlbaaDoor.e20 (by simp [Tryd.f20]) ?_
  dsimp only [YtjdnmejohadlbaaDoor.c20, Tryd.f20, Option.getD_some]
  rcases hq with hq | hq | hq | hq
  · simp only [hq, if_true]
    simp (maxSteps := 2000000) only [wk0, wk1, wk2, wk3, wk4, keepA, keepT, Fr.keep, frzT, flatT, arrayAtA, ownT, extT, Fr.ev, Fr.put, Fr.get, initFr, buildSliceA, zeros, pkB, pkT, pkF, ownDst, Env.kd, ofConst, isConst, binA, intI, cmpI, shiftI, convertA, buildA, fillA, fillS, splice, AV.cells?, storeA, readAt, fieldAddrA, fieldA, indexA, extractA, unA, builtinA, appendA, lenA, sliceCells, isSliceK, makeInterfaceA, nilCheckA, eqA, AV.one, AV.plain, if_false, if_true, Nat.reduceEqDiff, reduceIte, Nat.reduceAdd, List.replicate, Nat.reduceLeDiff, Nat.reduceMul, Nat.reduceSub, Nat.reducePow, Int.reduceLT, Int.reduceLE, Int.reduceToNat, Int.reducePow, IntKind.bits, Int.reduceEq, Int.reduceMul, Int.reduceNeg, ne_eq, reduceCtorEq, escT, BEq.rfl, beq_self_eq_true, Int.reduceAdd, Int.reduceSub, Int.reduceMod, Int.reduceDiv, Nat.reduceMod, Nat.reduceDiv, Nat.reduceLT, cond_true, cond_false, gt_iff_lt, ge_iff_le, an, w0, w1, w2, sh, hq, m30, YtjdnmejohadlbaaDoor.D20, ty2, ty4, ty51, ty99]
    refine callThen_of (hf _) ?_
    simp (maxSteps := 2000000) only [wk0, wk1, wk2, wk3, wk4, keepA, keepT, Fr.keep, frzT, flatT, arrayAtA, ownT, extT, Fr.ev, Fr.put, Fr.get, initFr, buildSliceA, zeros, pkB, pkT, pkF, ownDst, Env.kd, ofConst, isConst, binA, intI, cmpI, shiftI, convertA, buildA, fillA, fillS, splice, AV.cells?, storeA, readAt, fieldAddrA, fieldA, indexA, extractA, unA, builtinA, appendA, lenA, sliceCells, isSliceK, makeInterfaceA, nilCheckA, eqA, AV.one, AV.plain, if_false, if_true, Nat.reduceEqDiff, reduceIte, Nat.reduceAdd, List.replicate, Nat.reduceLeDiff, Nat.reduceMul, Nat.reduceSub, Nat.reducePow, Int.reduceLT, Int.reduceLE, Int.reduceToNat, Int.reducePow, IntKind.bits, Int.reduceEq, Int.reduceMul, Int.reduceNeg, ne_eq, reduceCtorEq, escT, BEq.rfl, beq_self_eq_true, Int.reduceAdd, Int.reduceSub, Int.reduceMod, Int.reduceDiv, Nat.reduceMod, Nat.reduceDiv, Nat.reduceLT, cond_true, cond_false, gt_iff_lt, ge_iff_le, an, w0, w1, w2, sh, hq, m30, YtjdnmejohadlbaaDoor.D20, ty2, ty4, ty51, ty99]
    exact retB_plain (by simp [nmd_int]) rfl (by simp)
  · have e0 : ¬ (1 : Int) = 0 := by decide
    simp only [hq, e0, if_true, if_false]
    simp (maxSteps := 2000000) only [wk0, wk1, wk2, wk3, wk4, keepA, keepT, Fr.keep, frzT, flatT, arrayAtA, ownT, extT, Fr.ev, Fr.put, Fr.get, initFr, buildSliceA, zeros, pkB, pkT, pkF, ownDst, Env.kd, ofConst, isConst, binA, intI, cmpI, shiftI, convertA, buildA, fillA, fillS, splice, AV.cells?, storeA, readAt, fieldAddrA, fieldA, indexA, extractA, unA, builtinA, appendA, lenA, sliceCells, isSliceK, makeInterfaceA, nilCheckA, eqA, AV.one, AV.plain, if_false, if_true, Nat.reduceEqDiff, reduceIte, Nat.reduceAdd, List.replicate, Nat.reduceLeDiff, Nat.reduceMul, Nat.reduceSub, Nat.reducePow, Int.reduceLT, Int.reduceLE, Int.reduceToNat, Int.reducePow, IntKind.bits, Int.reduceEq, Int.reduceMul, Int.reduceNeg, ne_eq, reduceCtorEq, escT, BEq.rfl, beq_self_eq_true, Int.reduceAdd, Int.reduceSub, Int.reduceMod, Int.reduceDiv, Nat.reduceMod, Nat.reduceDiv, Nat.reduceLT, cond_true, cond_false, gt_iff_lt, ge_iff_le, an, w0, w1, w2, sh, hq, n1, n2, m30, YtjdnmejohadlbaaDoor.D20, ty2, ty4, ty51, ty99]
    refine callThen_of (hf _) ?_
    simp (maxSteps := 2000000) only [wk0, wk1, wk2, wk3, wk4, keepA, keepT, Fr.keep, frzT, flatT, arrayAtA, ownT, extT, Fr.ev, Fr.put, Fr.get, initFr, buildSliceA, zeros, pkB, pkT, pkF, ownDst, Env.kd, ofConst, isConst, binA, intI, cmpI, shiftI, convertA, buildA, fillA, fillS, splice, AV.cells?, storeA, readAt, fieldAddrA, fieldA, indexA, extractA, unA, builtinA, appendA, lenA, sliceCells, isSliceK, makeInterfaceA, nilCheckA, eqA, AV.one, AV.plain, if_false, if_true, Nat.reduceEqDiff, reduceIte, Nat.reduceAdd, List.replicate, Nat.reduceLeDiff, Nat.reduceMul, Nat.reduceSub, Nat.reducePow, Int.reduceLT, Int.reduceLE, Int.reduceToNat, Int.reducePow, IntKind.bits, Int.reduceEq, Int.reduceMul, Int.reduceNeg, ne_eq, reduceCtorEq, escT, BEq.rfl, beq_self_eq_true, Int.reduceAdd, Int.reduceSub, Int.reduceMod, Int.reduceDiv, Nat.reduceMod, Nat.reduceDiv, Nat.reduceLT, cond_true, cond_false, gt_iff_lt, ge_iff_le, an, w0, w1, w2, sh, hq, n1, n2, m30, YtjdnmejohadlbaaDoor.D20, ty2, ty4, ty51, ty99]
    exact retB_plain (by simp [nmd_int]) rfl (by simp)
  · have e0 : ¬ (2 : Int) = 0 := by decide
    have e1 : ¬ (2 : Int) = 1 := by decide
    simp only [hq, e0, e1, if_true, if_false]
    simp (maxSteps := 2000000) only [wk0, wk1, wk2, wk3, wk4, keepA, keepT, Fr.keep, frzT, flatT, arrayAtA, ownT, extT, Fr.ev, Fr.put, Fr.get, initFr, buildSliceA, zeros, pkB, pkT, pkF, ownDst, Env.kd, ofConst, isConst, binA, intI, cmpI, shiftI, convertA, buildA, fillA, fillS, splice, AV.cells?, storeA, readAt, fieldAddrA, fieldA, indexA, extractA, unA, builtinA, appendA, lenA, sliceCells, isSliceK, makeInterfaceA, nilCheckA, eqA, AV.one, AV.plain, if_false, if_true, Nat.reduceEqDiff, reduceIte, Nat.reduceAdd, List.replicate, Nat.reduceLeDiff, Nat.reduceMul, Nat.reduceSub, Nat.reducePow, Int.reduceLT, Int.reduceLE, Int.reduceToNat, Int.reducePow, IntKind.bits, Int.reduceEq, Int.reduceMul, Int.reduceNeg, ne_eq, reduceCtorEq, escT, BEq.rfl, beq_self_eq_true, Int.reduceAdd, Int.reduceSub, Int.reduceMod, Int.reduceDiv, Nat.reduceMod, Nat.reduceDiv, Nat.reduceLT, cond_true, cond_false, gt_iff_lt, ge_iff_le, an, w0, w1, w2, sh, hq, n1, n2, m30, YtjdnmejohadlbaaDoor.D20, ty2, ty4, ty51, ty99]
    refine callThen_of (hf _) ?_
    simp (maxSteps := 2000000) only [wk0, wk1, wk2, wk3, wk4, keepA, keepT, Fr.keep, frzT, flatT, arrayAtA, ownT, extT, Fr.ev, Fr.put, Fr.get, initFr, buildSliceA, zeros, pkB, pkT, pkF, ownDst, Env.kd, ofConst, isConst, binA, intI, cmpI, shiftI, convertA, buildA, fillA, fillS, splice, AV.cells?, storeA, readAt, fieldAddrA, fieldA, indexA, extractA, unA, builtinA, appendA, lenA, sliceCells, isSliceK, makeInterfaceA, nilCheckA, eqA, AV.one, AV.plain, if_false, if_true, Nat.reduceEqDiff, reduceIte, Nat.reduceAdd, List.replicate, Nat.reduceLeDiff, Nat.reduceMul, Nat.reduceSub, Nat.reducePow, Int.reduceLT, Int.reduceLE, Int.reduceToNat, Int.reducePow, IntKind.bits, Int.reduceEq, Int.reduceMul, Int.reduceNeg, ne_eq, reduceCtorEq, escT, BEq.rfl, beq_self_eq_true, Int.reduceAdd, Int.reduceSub, Int.reduceMod, Int.reduceDiv, Nat.reduceMod, Nat.reduceDiv, Nat.reduceLT, cond_true, cond_false, gt_iff_lt, ge_iff_le, an, w0, w1, w2, sh, hq, n1, n2, m30, YtjdnmejohadlbaaDoor.D20, ty2, ty4, ty51, ty99]
    exact retB_plain (by simp [nmd_int]) rfl (by simp)
  · have e0 : ¬ (3 : Int) = 0 := by decide
    have e1 : ¬ (3 : Int) = 1 := by decide
    have e2 : ¬ (3 : Int) = 2 := by decide
    simp only [hq, e0, e1, e2, if_true, if_false]
    simp (maxSteps := 2000000) only [wk0, wk1, wk2, wk3, wk4, keepA, keepT, Fr.keep, frzT, flatT, arrayAtA, ownT, extT, Fr.ev, Fr.put, Fr.get, initFr, buildSliceA, zeros, pkB, pkT, pkF, ownDst, Env.kd, ofConst, isConst, binA, intI, cmpI, shiftI, convertA, buildA, fillA, fillS, splice, AV.cells?, storeA, readAt, fieldAddrA, fieldA, indexA, extractA, unA, builtinA, appendA, lenA, sliceCells, isSliceK, makeInterfaceA, nilCheckA, eqA, AV.one, AV.plain, if_false, if_true, Nat.reduceEqDiff, reduceIte, Nat.reduceAdd, List.replicate, Nat.reduceLeDiff, Nat.reduceMul, Nat.reduceSub, Nat.reducePow, Int.reduceLT, Int.reduceLE, Int.reduceToNat, Int.reducePow, IntKind.bits, Int.reduceEq, Int.reduceMul, Int.reduceNeg, ne_eq, reduceCtorEq, escT, BEq.rfl, beq_self_eq_true, Int.reduceAdd, Int.reduceSub, Int.reduceMod, Int.reduceDiv, Nat.reduceMod, Nat.reduceDiv, Nat.reduceLT, cond_true, cond_false, gt_iff_lt, ge_iff_le, an, w0, w1, w2, sh, hq, n1, n2, m30, YtjdnmejohadlbaaDoor.D20, ty2, ty4, ty51, ty99]
    refine callThen_of (hf _) ?_
    simp (maxSteps := 2000000) only [wk0, wk1, wk2, wk3, wk4, keepA, keepT, Fr.keep, frzT, flatT, arrayAtA, ownT, extT, Fr.ev, Fr.put, Fr.get, initFr, buildSliceA, zeros, pkB, pkT, pkF, ownDst, Env.kd, ofConst, isConst, binA, intI, cmpI, shiftI, convertA, buildA, fillA, fillS, splice, AV.cells?, storeA, readAt, fieldAddrA, fieldA, indexA, extractA, unA, builtinA, appendA, lenA, sliceCells, isSliceK, makeInterfaceA, nilCheckA, eqA, AV.one, AV.plain, if_false, if_true, Nat.reduceEqDiff, reduceIte, Nat.reduceAdd, List.replicate, Nat.reduceLeDiff, Nat.reduceMul, Nat.reduceSub, Nat.reducePow, Int.reduceLT, Int.reduceLE, Int.reduceToNat, Int.reducePow, IntKind.bits, Int.reduceEq, Int.reduceMul, Int.reduceNeg, ne_eq, reduceCtorEq, escT, BEq.rfl, beq_self_eq_true, Int.reduceAdd, Int.reduceSub, Int.reduceMod, Int.reduceDiv, Nat.reduceMod, Nat.reduceDiv, Nat.reduceLT, cond_true, cond_false, gt_iff_lt, ge_iff_le, an, w0, w1, w2, sh, hq, n1, n2, m30, YtjdnmejohadlbaaDoor.D20, ty2, ty4, ty51, ty99]
    exact retB_plain (by simp [nmd_int]) rfl (by simp)
def plX (t far : Int) : Int := bndI (rnd (far * sinT t) (2 ^ 30))
def plY (t far : Int) : Int := bndI (rnd (far * cosT t) (2 ^ 30))
theorem place_ok (t far : Int) (S : Heap) (ht : 0 ≤ t ∧ t < 4294967296) (hf : 0 ≤ far ∧ far ≤ 4611686018427387903) : Call theE 22 [.int .u32 t, .int .i64 far] S (.tup [.int .i64 (plX t far), .int .i64 (plY t far), .nili]) S := by
  have b := fun S => both_ok t S ht
  have h1 := sinT_in t
  have h2 := cosT_in t
  have m1 := fun S => mul_ok far (sinT t) 30 S (by omega) (by unfold inI; omega) (by unfold inI; omega)
  have m2 := fun S => mul_ok far (cosT t) 30 S (by omega) (by unfold inI; omega) (by unfold inI; omega)
  have p1 : ¬ far < 0 := by omega
  have p2 : ¬ 4611686018427387903 < far := by omega
  change ∀ S, Call theE _ [_, _, .int .i64 30] _ (.tup [.int .i64 (plX t far), _, _]) _ at m1
  change ∀ S, Call theE _ [_, _, .int .i64 30] _ (.tup [.int .i64 (plY t far), _, _]) _ at m2
  refine Call.ofC Tryd.func22 YtjdnmejohadlbaaDoor.b22 YtjdnmejohadlbaaDoor.d22 YtjdnmejohadlbaaDoor.e22 (by simp [Tryd.f22]) ?_
  dsimp only [YtjdnmejohadlbaaDoor.c22, Tryd.f22, Option.getD_some]
  simp (maxSteps := 2000000) only [wk0, wk1, wk2, wk3, wk4, keepA, keepT, Fr.keep, frzT, flatT, arrayAtA, ownT, extT, Fr.ev, Fr.put, Fr.get, initFr, buildSliceA, zeros, pkB, pkT, pkF, ownDst, Env.kd, ofConst, isConst, binA, intI, cmpI, shiftI, convertA, buildA, fillA, fillS, splice, AV.cells?, storeA, readAt, fieldAddrA, fieldA, indexA, extractA, unA, builtinA, appendA, lenA, sliceCells, isSliceK, makeInterfaceA, nilCheckA, eqA, AV.one, AV.plain, if_false, if_true, Nat.reduceEqDiff, reduceIte, Nat.reduceAdd, List.replicate, Nat.reduceLeDiff, Nat.reduceMul, Nat.reduceSub, Nat.reducePow, Int.reduceLT, Int.reduceLE, Int.reduceToNat, Int.reducePow, IntKind.bits, Int.reduceEq, Int.reduceMul, Int.reduceNeg, ne_eq, reduceCtorEq, escT, BEq.rfl, beq_self_eq_true, Int.reduceAdd, Int.reduceSub, Int.reduceMod, Int.reduceDiv, Nat.reduceMod, Nat.reduceDiv, Nat.reduceLT, cond_true, cond_false, gt_iff_lt, ge_iff_le, p1, p2, YtjdnmejohadlbaaDoor.D22, ty2, ty3, ty4, ty30, ty51, ty133]
  refine callThen_of (b _) ?_
  simp (maxSteps := 2000000) only [wk0, wk1, wk2, wk3, wk4, keepA, keepT, Fr.keep, frzT, flatT, arrayAtA, ownT, extT, Fr.ev, Fr.put, Fr.get, initFr, buildSliceA, zeros, pkB, pkT, pkF, ownDst, Env.kd, ofConst, isConst, binA, intI, cmpI, shiftI, convertA, buildA, fillA, fillS, splice, AV.cells?, storeA, readAt, fieldAddrA, fieldA, indexA, extractA, unA, builtinA, appendA, lenA, sliceCells, isSliceK, makeInterfaceA, nilCheckA, eqA, AV.one, AV.plain, if_false, if_true, Nat.reduceEqDiff, reduceIte, Nat.reduceAdd, List.replicate, Nat.reduceLeDiff, Nat.reduceMul, Nat.reduceSub, Nat.reducePow, Int.reduceLT, Int.reduceLE, Int.reduceToNat, Int.reducePow, IntKind.bits, Int.reduceEq, Int.reduceMul, Int.reduceNeg, ne_eq, reduceCtorEq, escT, BEq.rfl, beq_self_eq_true, Int.reduceAdd, Int.reduceSub, Int.reduceMod, Int.reduceDiv, Nat.reduceMod, Nat.reduceDiv, Nat.reduceLT, cond_true, cond_false, gt_iff_lt, ge_iff_le, p1, p2, YtjdnmejohadlbaaDoor.D22, ty2, ty3, ty4, ty30, ty51, ty133]
  refine callThen_of (m1 _) ?_
  simp (maxSteps := 2000000) only [wk0, wk1, wk2, wk3, wk4, keepA, keepT, Fr.keep, frzT, flatT, arrayAtA, ownT, extT, Fr.ev, Fr.put, Fr.get, initFr, buildSliceA, zeros, pkB, pkT, pkF, ownDst, Env.kd, ofConst, isConst, binA, intI, cmpI, shiftI, convertA, buildA, fillA, fillS, splice, AV.cells?, storeA, readAt, fieldAddrA, fieldA, indexA, extractA, unA, builtinA, appendA, lenA, sliceCells, isSliceK, makeInterfaceA, nilCheckA, eqA, AV.one, AV.plain, if_false, if_true, Nat.reduceEqDiff, reduceIte, Nat.reduceAdd, List.replicate, Nat.reduceLeDiff, Nat.reduceMul, Nat.reduceSub, Nat.reducePow, Int.reduceLT, Int.reduceLE, Int.reduceToNat, Int.reducePow, IntKind.bits, Int.reduceEq, Int.reduceMul, Int.reduceNeg, ne_eq, reduceCtorEq, escT, BEq.rfl, beq_self_eq_true, Int.reduceAdd, Int.reduceSub, Int.reduceMod, Int.reduceDiv, Nat.reduceMod, Nat.reduceDiv, Nat.reduceLT, cond_true, cond_false, gt_iff_lt, ge_iff_le, p1, p2, YtjdnmejohadlbaaDoor.D22, ty2, ty3, ty4, ty30, ty51, ty133]
  refine callThen_of (m2 _) ?_
  simp (maxSteps := 2000000) only [wk0, wk1, wk2, wk3, wk4, keepA, keepT, Fr.keep, frzT, flatT, arrayAtA, ownT, extT, Fr.ev, Fr.put, Fr.get, initFr, buildSliceA, zeros, pkB, pkT, pkF, ownDst, Env.kd, ofConst, isConst, binA, intI, cmpI, shiftI, convertA, buildA, fillA, fillS, splice, AV.cells?, storeA, readAt, fieldAddrA, fieldA, indexA, extractA, unA, builtinA, appendA, lenA, sliceCells, isSliceK, makeInterfaceA, nilCheckA, eqA, AV.one, AV.plain, if_false, if_true, Nat.reduceEqDiff, reduceIte, Nat.reduceAdd, List.replicate, Nat.reduceLeDiff, Nat.reduceMul, Nat.reduceSub, Nat.reducePow, Int.reduceLT, Int.reduceLE, Int.reduceToNat, Int.reducePow, IntKind.bits, Int.reduceEq, Int.reduceMul, Int.reduceNeg, ne_eq, reduceCtorEq, escT, BEq.rfl, beq_self_eq_true, Int.reduceAdd, Int.reduceSub, Int.reduceMod, Int.reduceDiv, Nat.reduceMod, Nat.reduceDiv, Nat.reduceLT, cond_true, cond_false, gt_iff_lt, ge_iff_le, p1, p2, YtjdnmejohadlbaaDoor.D22, ty2, ty3, ty4, ty30, ty51, ty133]
  exact retB_plain (by simp [nmd_int, nmd_nili]) rfl (by simp)
theorem place_bad (t far : Int) (S : Heap) (hf : ¬ (0 ≤ far ∧ far ≤ 4611686018427387903)) : Call theE 22 [.int .u32 t, .int .i64 far] S (.tup [.int .i64 0, .int .i64 0, errA 1]) S := by
  refine Call.ofC Tryd.func22 YtjdnmejohadlbaaDoor.b22 YtjdnmejohadlbaaDoor.d22 YtjdnmejohadlbaaDoor.e22 (by simp [Tryd.f22]) ?_
  dsimp only [YtjdnmejohadlbaaDoor.c22, Tryd.f22, Option.getD_some]
  by_cases h : far < 0
  · simp (maxSteps := 2000000) only [wk0, wk1, wk2, wk3, wk4, keepA, keepT, Fr.keep, frzT, flatT, arrayAtA, ownT, extT, Fr.ev, Fr.put, Fr.get, initFr, buildSliceA, zeros, pkB, pkT, pkF, ownDst, Env.kd, ofConst, isConst, binA, intI, cmpI, shiftI, convertA, buildA, fillA, fillS, splice, AV.cells?, storeA, readAt, fieldAddrA, fieldA, indexA, extractA, unA, builtinA, appendA, lenA, sliceCells, isSliceK, makeInterfaceA, nilCheckA, eqA, AV.one, AV.plain, if_false, if_true, Nat.reduceEqDiff, reduceIte, Nat.reduceAdd, List.replicate, Nat.reduceLeDiff, Nat.reduceMul, Nat.reduceSub, Nat.reducePow, Int.reduceLT, Int.reduceLE, Int.reduceToNat, Int.reducePow, IntKind.bits, Int.reduceEq, Int.reduceMul, Int.reduceNeg, ne_eq, reduceCtorEq, escT, BEq.rfl, beq_self_eq_true, Int.reduceAdd, Int.reduceSub, Int.reduceMod, Int.reduceDiv, Nat.reduceMod, Nat.reduceDiv, Nat.reduceLT, cond_true, cond_false, gt_iff_lt, ge_iff_le, h, YtjdnmejohadlbaaDoor.D22, ty2, ty3, ty4, ty30, ty51, ty133]
    exact retB_plain (by simp [nmd_int, nmd_ifc]) rfl (by simp)
  · have p2 : 4611686018427387903 < far := by omega
    simp (maxSteps := 2000000) only [wk0, wk1, wk2, wk3, wk4, keepA, keepT, Fr.keep, frzT, flatT, arrayAtA, ownT, extT, Fr.ev, Fr.put, Fr.get, initFr, buildSliceA, zeros, pkB, pkT, pkF, ownDst, Env.kd, ofConst, isConst, binA, intI, cmpI, shiftI, convertA, buildA, fillA, fillS, splice, AV.cells?, storeA, readAt, fieldAddrA, fieldA, indexA, extractA, unA, builtinA, appendA, lenA, sliceCells, isSliceK, makeInterfaceA, nilCheckA, eqA, AV.one, AV.plain, if_false, if_true, Nat.reduceEqDiff, reduceIte, Nat.reduceAdd, List.replicate, Nat.reduceLeDiff, Nat.reduceMul, Nat.reduceSub, Nat.reducePow, Int.reduceLT, Int.reduceLE, Int.reduceToNat, Int.reducePow, IntKind.bits, Int.reduceEq, Int.reduceMul, Int.reduceNeg, ne_eq, reduceCtorEq, escT, BEq.rfl, beq_self_eq_true, Int.reduceAdd, Int.reduceSub, Int.reduceMod, Int.reduceDiv, Nat.reduceMod, Nat.reduceDiv, Nat.reduceLT, cond_true, cond_false, gt_iff_lt, ge_iff_le, h, p2, YtjdnmejohadlbaaDoor.D22, ty2, ty3, ty4, ty30, ty51, ty133]
    exact retB_plain (by simp [nmd_int, nmd_ifc]) rfl (by simp)
end Go.Proofs.YtjdnmejohadlbaaDoor
