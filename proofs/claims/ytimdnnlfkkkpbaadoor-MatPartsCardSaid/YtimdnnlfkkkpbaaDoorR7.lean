/- The law MatParts. -/
import Derived.Test.YtimdnnlfkkkpbaaDoorN5
set_option linter.unusedSimpArgs false
set_option linter.unusedVariables false
set_option maxRecDepth 100000
set_option maxHeartbeats 8000000
namespace Go.Proofs.YtimdnnlfkkkpbaaDoor
noncomputable def c5 : Code := Tryd.f5.body.getD .skip
theorem b5 : Tryd.f5.body = some c5 := rfl
theorem d5 : fnOk Tryd.f5 c5 = true := by kernel_rfl
def D5 : Nat → List Tag := fun _ => []
theorem e5 : drawsOk D5 c5 = true := by kernel_rfl
theorem matParts_may (R C : Nat) (F : Nat → Nat → Int) (i j : Int) (S : Heap) (hR : 1 ≤ R ∧ R ≤ 6) (hC : 1 ≤ C ∧ C ≤ 6) (hf : ∀ i j, i < R → j < C → inI (F i j))
    (qo : ∀ S, Call theE 23 [mtx R C F] S (.tup [mk R C F, .nili]) S) (qm : ∀ S, Call theE 29 [mtx R C F] S (.bool true) S) :
    Call theE 5 [mtx R C F, .int .i64 i, .int .i64 j] S (.bool true) S := by
  have ie := fun S => num25_given 1 S
  have sr := fun S => sure08_ok S
  have az := all38z
  simp only [List.replicate] at az
  have qt := fun S => turn_ok R C F S hR hC
  have qt8 := fun S => refTurn8_ok R C F S (by omega) (by omega)
  have ro1 := fun S => rowsOf8_ok R C F S hR hC
  have ro2 := fun S => rowsOf8_ok C R (fun i j => F j i) S hC hR
  have sm1 := fun S => sameRows8_ok R C F S (by omega) (by omega)
  have sm2 := fun S => sameRows8_ok C R (fun i j => F j i) S (by omega) (by omega)
  have tk1 := take36g C F (R * C)
  have tk2 := take36g R (fun i j => F j i) (C * R)
  have al1 := all36g (gridP C F (R * C))
  have al2 := all36g (gridP R (fun i j => F j i) (C * R))
  have gl0 := rowsA_get (c := C) (f := F) (show 0 < R by omega)
  have k0 : (0 : Int) < R := by omega
  simp only [mk, matA, mtx] at qo qm qt qt8 ro1 ro2 sm1 sm2
  refine Call.ofC Tryd.func5 YtimdnnlfkkkpbaaDoor.b5 YtimdnnlfkkkpbaaDoor.d5 YtimdnnlfkkkpbaaDoor.e5 (by simp [Tryd.f5]) ?_
  dsimp only [YtimdnnlfkkkpbaaDoor.c5, Tryd.f5, Option.getD_some]
  iterate 3 rw [wpC_assoc]
  refine wpC_split (fun fr H => fr.get 0 = .lst (rowsA R C F) R ∧ fr.get 1 = .int .i64 i ∧ fr.get 2 = .int .i64 j ∧ fr.get 7 = .ptr S.length 0 0 ∧ fr.get 8 = .nili ∧ ∃ b, H = S ++ [some ⟨.int .i64 R :: .int .i64 C :: (gridP C F (R * C)).map fun x => .int .i64 x, 0⟩, b]) ?_ ?_
  · intro K' hK'
    by_cases hI : 1 ≤ i ∧ i ≤ 6
    · obtain ⟨n, hn⟩ : ∃ n : Nat, i = n := ⟨i.toNat, by omega⟩
      have qy : ∀ S, Call theE 24 [.int .i64 i] S (.tup [mk n n (eyeP n), .nili]) S := fun S => by rw [hn]; exact eye_ok n S (by omega)
      have qy8 : ∀ S, Call theE 28 [.int .i64 i] S (mtx n n (eyeP n)) S := fun S => by rw [hn]; exact refEye8_ok n S (by omega)
      have ro := fun S => rowsOf8_ok n n (eyeP n) S (by omega) (by omega)
      have sm := fun S => sameRows8_ok n n (eyeP n) S (by omega) (by omega)
      have tk0 := take36g n (eyeP n) (n * n)
      have al0 := all36g (gridP n (eyeP n) (n * n))
      have e1 : ¬ i < 1 := by omega
      have e2 : ¬ 6 < i := by omega
      simp only [mk, matA, mtx] at qy qy8 ro sm
      simp (maxSteps := 2000000) only [wk0, wk1, wk2, wk3, keepA, keepT, Fr.keep, frzT, flatT, arrayAtA, ownT, extT, Fr.ev, Fr.put, Fr.get, initFr, buildSliceA, zeros, pkB, pkT, pkF, ownDst, Env.kd, ofConst, isConst, binA, intI, cmpI, shiftI, convertA, buildA, fillA, fillS, splice, AV.cells?, storeA, readAt, fieldAddrA, fieldA, indexA, extractA, unA, builtinA, appendA, lenA, sliceCells, isSliceK, makeInterfaceA, nilCheckA, eqA, AV.one, AV.plain, if_false, if_true, Nat.reduceEqDiff, reduceIte, Nat.reduceAdd, List.replicate, Nat.reduceLeDiff, Nat.reduceMul, Nat.reduceSub, Nat.reducePow, Int.reduceLT, Int.reduceLE, Int.reduceToNat, Int.reducePow, IntKind.bits, Int.reduceEq, Int.reduceMul, Int.reduceNeg, ne_eq, reduceCtorEq, escT, BEq.rfl, beq_self_eq_true, Int.reduceAdd, Int.reduceSub, Int.reduceMod, Int.reduceDiv, Nat.reduceMod, Nat.reduceDiv, Nat.reduceLT, cond_true, cond_false, gt_iff_lt, ge_iff_le, mk, matA, mtx, tk1, al1, e1, e2, List.length_map, gridP_len, tk0, al0, YtimdnnlfkkkpbaaDoor.D5, keep5, ty2, ty3, ty4, ty22, ty23, ty25, ty49]
      repeat
        first
        | refine callThen_of (qo _) ?_
        | refine callThen_of (qy _) ?_
        | refine callThen_of (ro _) ?_
        | refine callThen_of (qy8 _) ?_
        | refine callThen_of (sm _) ?_
        simp (maxSteps := 2000000) only [wk0, wk1, wk2, wk3, keepA, keepT, Fr.keep, frzT, flatT, arrayAtA, ownT, extT, Fr.ev, Fr.put, Fr.get, initFr, buildSliceA, zeros, pkB, pkT, pkF, ownDst, Env.kd, ofConst, isConst, binA, intI, cmpI, shiftI, convertA, buildA, fillA, fillS, splice, AV.cells?, storeA, readAt, fieldAddrA, fieldA, indexA, extractA, unA, builtinA, appendA, lenA, sliceCells, isSliceK, makeInterfaceA, nilCheckA, eqA, AV.one, AV.plain, if_false, if_true, Nat.reduceEqDiff, reduceIte, Nat.reduceAdd, List.replicate, Nat.reduceLeDiff, Nat.reduceMul, Nat.reduceSub, Nat.reducePow, Int.reduceLT, Int.reduceLE, Int.reduceToNat, Int.reducePow, IntKind.bits, Int.reduceEq, Int.reduceMul, Int.reduceNeg, ne_eq, reduceCtorEq, escT, BEq.rfl, beq_self_eq_true, Int.reduceAdd, Int.reduceSub, Int.reduceMod, Int.reduceDiv, Nat.reduceMod, Nat.reduceDiv, Nat.reduceLT, cond_true, cond_false, gt_iff_lt, ge_iff_le, mk, matA, mtx, tk1, al1, e1, e2, List.length_map, gridP_len, tk0, al0, YtimdnnlfkkkpbaaDoor.D5, keep5, ty2, ty3, ty4, ty22, ty23, ty25, ty49]
      exact hK' _ _ (by simp [Fr.get, zero38])
    · have qy := fun S => eye_bad i S hI
      simp only [zeroM, matA, List.replicate, List.map_cons, List.map_nil, errA] at qy
      by_cases e1 : i < 1
      · simp (maxSteps := 2000000) only [wk0, wk1, wk2, wk3, keepA, keepT, Fr.keep, frzT, flatT, arrayAtA, ownT, extT, Fr.ev, Fr.put, Fr.get, initFr, buildSliceA, zeros, pkB, pkT, pkF, ownDst, Env.kd, ofConst, isConst, binA, intI, cmpI, shiftI, convertA, buildA, fillA, fillS, splice, AV.cells?, storeA, readAt, fieldAddrA, fieldA, indexA, extractA, unA, builtinA, appendA, lenA, sliceCells, isSliceK, makeInterfaceA, nilCheckA, eqA, AV.one, AV.plain, if_false, if_true, Nat.reduceEqDiff, reduceIte, Nat.reduceAdd, List.replicate, Nat.reduceLeDiff, Nat.reduceMul, Nat.reduceSub, Nat.reducePow, Int.reduceLT, Int.reduceLE, Int.reduceToNat, Int.reducePow, IntKind.bits, Int.reduceEq, Int.reduceMul, Int.reduceNeg, ne_eq, reduceCtorEq, escT, BEq.rfl, beq_self_eq_true, Int.reduceAdd, Int.reduceSub, Int.reduceMod, Int.reduceDiv, Nat.reduceMod, Nat.reduceDiv, Nat.reduceLT, cond_true, cond_false, gt_iff_lt, ge_iff_le, mk, matA, mtx, tk1, al1, e1, az, List.length_map, gridP_len, YtimdnnlfkkkpbaaDoor.D5, keep5, ty2, ty3, ty4, ty22, ty23, ty25, ty49]
        refine callThen_of (qo _) ?_
        simp (maxSteps := 2000000) only [wk0, wk1, wk2, wk3, keepA, keepT, Fr.keep, frzT, flatT, arrayAtA, ownT, extT, Fr.ev, Fr.put, Fr.get, initFr, buildSliceA, zeros, pkB, pkT, pkF, ownDst, Env.kd, ofConst, isConst, binA, intI, cmpI, shiftI, convertA, buildA, fillA, fillS, splice, AV.cells?, storeA, readAt, fieldAddrA, fieldA, indexA, extractA, unA, builtinA, appendA, lenA, sliceCells, isSliceK, makeInterfaceA, nilCheckA, eqA, AV.one, AV.plain, if_false, if_true, Nat.reduceEqDiff, reduceIte, Nat.reduceAdd, List.replicate, Nat.reduceLeDiff, Nat.reduceMul, Nat.reduceSub, Nat.reducePow, Int.reduceLT, Int.reduceLE, Int.reduceToNat, Int.reducePow, IntKind.bits, Int.reduceEq, Int.reduceMul, Int.reduceNeg, ne_eq, reduceCtorEq, escT, BEq.rfl, beq_self_eq_true, Int.reduceAdd, Int.reduceSub, Int.reduceMod, Int.reduceDiv, Nat.reduceMod, Nat.reduceDiv, Nat.reduceLT, cond_true, cond_false, gt_iff_lt, ge_iff_le, mk, matA, mtx, tk1, al1, e1, az, List.length_map, gridP_len, YtimdnnlfkkkpbaaDoor.D5, keep5, ty2, ty3, ty4, ty22, ty23, ty25, ty49]
        refine callThen_of (qy _) ?_
        simp (maxSteps := 2000000) only [wk0, wk1, wk2, wk3, keepA, keepT, Fr.keep, frzT, flatT, arrayAtA, ownT, extT, Fr.ev, Fr.put, Fr.get, initFr, buildSliceA, zeros, pkB, pkT, pkF, ownDst, Env.kd, ofConst, isConst, binA, intI, cmpI, shiftI, convertA, buildA, fillA, fillS, splice, AV.cells?, storeA, readAt, fieldAddrA, fieldA, indexA, extractA, unA, builtinA, appendA, lenA, sliceCells, isSliceK, makeInterfaceA, nilCheckA, eqA, AV.one, AV.plain, if_false, if_true, Nat.reduceEqDiff, reduceIte, Nat.reduceAdd, List.replicate, Nat.reduceLeDiff, Nat.reduceMul, Nat.reduceSub, Nat.reducePow, Int.reduceLT, Int.reduceLE, Int.reduceToNat, Int.reducePow, IntKind.bits, Int.reduceEq, Int.reduceMul, Int.reduceNeg, ne_eq, reduceCtorEq, escT, BEq.rfl, beq_self_eq_true, Int.reduceAdd, Int.reduceSub, Int.reduceMod, Int.reduceDiv, Nat.reduceMod, Nat.reduceDiv, Nat.reduceLT, cond_true, cond_false, gt_iff_lt, ge_iff_le, mk, matA, mtx, tk1, al1, e1, az, List.length_map, gridP_len, YtimdnnlfkkkpbaaDoor.D5, keep5, ty2, ty3, ty4, ty22, ty23, ty25, ty49]
        refine callThen_of (ie _) ?_
        simp (maxSteps := 2000000) only [wk0, wk1, wk2, wk3, keepA, keepT, Fr.keep, frzT, flatT, arrayAtA, ownT, extT, Fr.ev, Fr.put, Fr.get, initFr, buildSliceA, zeros, pkB, pkT, pkF, ownDst, Env.kd, ofConst, isConst, binA, intI, cmpI, shiftI, convertA, buildA, fillA, fillS, splice, AV.cells?, storeA, readAt, fieldAddrA, fieldA, indexA, extractA, unA, builtinA, appendA, lenA, sliceCells, isSliceK, makeInterfaceA, nilCheckA, eqA, AV.one, AV.plain, if_false, if_true, Nat.reduceEqDiff, reduceIte, Nat.reduceAdd, List.replicate, Nat.reduceLeDiff, Nat.reduceMul, Nat.reduceSub, Nat.reducePow, Int.reduceLT, Int.reduceLE, Int.reduceToNat, Int.reducePow, IntKind.bits, Int.reduceEq, Int.reduceMul, Int.reduceNeg, ne_eq, reduceCtorEq, escT, BEq.rfl, beq_self_eq_true, Int.reduceAdd, Int.reduceSub, Int.reduceMod, Int.reduceDiv, Nat.reduceMod, Nat.reduceDiv, Nat.reduceLT, cond_true, cond_false, gt_iff_lt, ge_iff_le, mk, matA, mtx, tk1, al1, e1, az, List.length_map, gridP_len, YtimdnnlfkkkpbaaDoor.D5, keep5, ty2, ty3, ty4, ty22, ty23, ty25, ty49]
        exact hK' _ _ (by simp [Fr.get, zero38])
      · have e2 : 6 < i := by omega
        simp (maxSteps := 2000000) only [wk0, wk1, wk2, wk3, keepA, keepT, Fr.keep, frzT, flatT, arrayAtA, ownT, extT, Fr.ev, Fr.put, Fr.get, initFr, buildSliceA, zeros, pkB, pkT, pkF, ownDst, Env.kd, ofConst, isConst, binA, intI, cmpI, shiftI, convertA, buildA, fillA, fillS, splice, AV.cells?, storeA, readAt, fieldAddrA, fieldA, indexA, extractA, unA, builtinA, appendA, lenA, sliceCells, isSliceK, makeInterfaceA, nilCheckA, eqA, AV.one, AV.plain, if_false, if_true, Nat.reduceEqDiff, reduceIte, Nat.reduceAdd, List.replicate, Nat.reduceLeDiff, Nat.reduceMul, Nat.reduceSub, Nat.reducePow, Int.reduceLT, Int.reduceLE, Int.reduceToNat, Int.reducePow, IntKind.bits, Int.reduceEq, Int.reduceMul, Int.reduceNeg, ne_eq, reduceCtorEq, escT, BEq.rfl, beq_self_eq_true, Int.reduceAdd, Int.reduceSub, Int.reduceMod, Int.reduceDiv, Nat.reduceMod, Nat.reduceDiv, Nat.reduceLT, cond_true, cond_false, gt_iff_lt, ge_iff_le, mk, matA, mtx, tk1, al1, e1, e2, az, List.length_map, gridP_len, YtimdnnlfkkkpbaaDoor.D5, keep5, ty2, ty3, ty4, ty22, ty23, ty25, ty49]
        refine callThen_of (qo _) ?_
        simp (maxSteps := 2000000) only [wk0, wk1, wk2, wk3, keepA, keepT, Fr.keep, frzT, flatT, arrayAtA, ownT, extT, Fr.ev, Fr.put, Fr.get, initFr, buildSliceA, zeros, pkB, pkT, pkF, ownDst, Env.kd, ofConst, isConst, binA, intI, cmpI, shiftI, convertA, buildA, fillA, fillS, splice, AV.cells?, storeA, readAt, fieldAddrA, fieldA, indexA, extractA, unA, builtinA, appendA, lenA, sliceCells, isSliceK, makeInterfaceA, nilCheckA, eqA, AV.one, AV.plain, if_false, if_true, Nat.reduceEqDiff, reduceIte, Nat.reduceAdd, List.replicate, Nat.reduceLeDiff, Nat.reduceMul, Nat.reduceSub, Nat.reducePow, Int.reduceLT, Int.reduceLE, Int.reduceToNat, Int.reducePow, IntKind.bits, Int.reduceEq, Int.reduceMul, Int.reduceNeg, ne_eq, reduceCtorEq, escT, BEq.rfl, beq_self_eq_true, Int.reduceAdd, Int.reduceSub, Int.reduceMod, Int.reduceDiv, Nat.reduceMod, Nat.reduceDiv, Nat.reduceLT, cond_true, cond_false, gt_iff_lt, ge_iff_le, mk, matA, mtx, tk1, al1, e1, e2, az, List.length_map, gridP_len, YtimdnnlfkkkpbaaDoor.D5, keep5, ty2, ty3, ty4, ty22, ty23, ty25, ty49]
        refine callThen_of (qy _) ?_
        simp (maxSteps := 2000000) only [wk0, wk1, wk2, wk3, keepA, keepT, Fr.keep, frzT, flatT, arrayAtA, ownT, extT, Fr.ev, Fr.put, Fr.get, initFr, buildSliceA, zeros, pkB, pkT, pkF, ownDst, Env.kd, ofConst, isConst, binA, intI, cmpI, shiftI, convertA, buildA, fillA, fillS, splice, AV.cells?, storeA, readAt, fieldAddrA, fieldA, indexA, extractA, unA, builtinA, appendA, lenA, sliceCells, isSliceK, makeInterfaceA, nilCheckA, eqA, AV.one, AV.plain, if_false, if_true, Nat.reduceEqDiff, reduceIte, Nat.reduceAdd, List.replicate, Nat.reduceLeDiff, Nat.reduceMul, Nat.reduceSub, Nat.reducePow, Int.reduceLT, Int.reduceLE, Int.reduceToNat, Int.reducePow, IntKind.bits, Int.reduceEq, Int.reduceMul, Int.reduceNeg, ne_eq, reduceCtorEq, escT, BEq.rfl, beq_self_eq_true, Int.reduceAdd, Int.reduceSub, Int.reduceMod, Int.reduceDiv, Nat.reduceMod, Nat.reduceDiv, Nat.reduceLT, cond_true, cond_false, gt_iff_lt, ge_iff_le, mk, matA, mtx, tk1, al1, e1, e2, az, List.length_map, gridP_len, YtimdnnlfkkkpbaaDoor.D5, keep5, ty2, ty3, ty4, ty22, ty23, ty25, ty49]
        refine callThen_of (ie _) ?_
        simp (maxSteps := 2000000) only [wk0, wk1, wk2, wk3, keepA, keepT, Fr.keep, frzT, flatT, arrayAtA, ownT, extT, Fr.ev, Fr.put, Fr.get, initFr, buildSliceA, zeros, pkB, pkT, pkF, ownDst, Env.kd, ofConst, isConst, binA, intI, cmpI, shiftI, convertA, buildA, fillA, fillS, splice, AV.cells?, storeA, readAt, fieldAddrA, fieldA, indexA, extractA, unA, builtinA, appendA, lenA, sliceCells, isSliceK, makeInterfaceA, nilCheckA, eqA, AV.one, AV.plain, if_false, if_true, Nat.reduceEqDiff, reduceIte, Nat.reduceAdd, List.replicate, Nat.reduceLeDiff, Nat.reduceMul, Nat.reduceSub, Nat.reducePow, Int.reduceLT, Int.reduceLE, Int.reduceToNat, Int.reducePow, IntKind.bits, Int.reduceEq, Int.reduceMul, Int.reduceNeg, ne_eq, reduceCtorEq, escT, BEq.rfl, beq_self_eq_true, Int.reduceAdd, Int.reduceSub, Int.reduceMod, Int.reduceDiv, Nat.reduceMod, Nat.reduceDiv, Nat.reduceLT, cond_true, cond_false, gt_iff_lt, ge_iff_le, mk, matA, mtx, tk1, al1, e1, e2, az, List.length_map, gridP_len, YtimdnnlfkkkpbaaDoor.D5, keep5, ty2, ty3, ty4, ty22, ty23, ty25, ty49]
        exact hK' _ _ (by simp [Fr.get, zero38])
  · rintro fr H ⟨g0, g1, g2, g7, g8, b, rfl⟩
    by_cases hi : 0 ≤ i ∧ i < R
    · obtain ⟨p, hp⟩ : ∃ p : Nat, i = p := ⟨i.toNat, by omega⟩
      have hpR : p < R := by omega
      have qr : ∀ S, Call theE 34 [mk R C F, .int .i64 i] S (.tup [lstI (rowF F C p), .nili]) S := fun S => by rw [hp]; exact rowM_ok R C p F S hR hC hpR
      have nu := fun S => nums08_ok (rowF F C p) (rowF F C p) S (by rw [rowF_len]; unfold maxLen; omega)
      have gl := rowsA_get (c := C) (f := F) hpR
      have i1 : ¬ i < 0 := by omega
      have i2 : ¬ (R : Int) ≤ i := by omega
      have i3 : i.toNat = p := by omega
      have i4 : 0 ≤ i := by omega
      have i5 : i < R := by omega
      simp only [mk, matA, lstI, rowF_len, decide_true] at qr nu
      by_cases hj : 0 ≤ j ∧ j < C
      · obtain ⟨q, hq⟩ : ∃ q : Nat, j = q := ⟨j.toNat, by omega⟩
        have hqC : q < C := by omega
        have qa : ∀ S, Call theE 33 [mk R C F, .int .i64 i, .int .i64 j] S (.tup [.int .i64 (F p q), .nili]) S := fun S => by rw [hp, hq]; exact atX_ok R C p q F S hR hC hpR hqC
        have gk := rowF_get (f := F) (i := p) hqC
        have j1 : ¬ j < 0 := by omega
        have j2 : ¬ (C : Int) ≤ j := by omega
        have j3 : j.toNat = q := by omega
        have j4 : 0 ≤ j := by omega
        have j5 : j < C := by omega
        simp only [mk, matA] at qa
        have fx := And.intro gl <| And.intro gk <| And.intro i1 <| And.intro i2 <| And.intro i3 <| And.intro i4 <| And.intro i5 <| And.intro j1 <| And.intro j2 <| And.intro j3 <| And.intro j4 j5
        by_cases hRC : R = C
        · subst hRC
          have qe := fun S => even_mat_ok R F S hR hf
          have qe8 := fun S => refEven8_ok R F S (by omega) hf
          have ro3 := fun S => rowsOf8_ok R R (fun i j => bndI (evenF F i j)) S hR hR
          have sm3 := fun S => sameRows8_ok R R (fun i j => bndI (evenF F i j)) S (by omega) (by omega)
          generalize (fun i j => bndI (evenF F i j)) = E at *
          generalize anyP R (fun i j => ovrB (evenF F i j)) (R * R) = o at *
          have tk3 := take36g R E (R * R)
          have al3 := all36g (gridP R E (R * R))
          simp only [mk, matA, mtx, lstI, rowF_len] at qe qe8 ro3 sm3
          simp (maxSteps := 2000000) only [wk0, wk1, wk2, wk3, keepA, keepT, Fr.keep, frzT, flatT, arrayAtA, ownT, extT, Fr.ev, Fr.put, Fr.get, initFr, buildSliceA, zeros, pkB, pkT, pkF, ownDst, Env.kd, ofConst, isConst, binA, intI, cmpI, shiftI, convertA, buildA, fillA, fillS, splice, AV.cells?, storeA, readAt, fieldAddrA, fieldA, indexA, extractA, unA, builtinA, appendA, lenA, sliceCells, isSliceK, makeInterfaceA, nilCheckA, eqA, AV.one, AV.plain, if_false, if_true, Nat.reduceEqDiff, reduceIte, Nat.reduceAdd, List.replicate, Nat.reduceLeDiff, Nat.reduceMul, Nat.reduceSub, Nat.reducePow, Int.reduceLT, Int.reduceLE, Int.reduceToNat, Int.reducePow, IntKind.bits, Int.reduceEq, Int.reduceMul, Int.reduceNeg, ne_eq, reduceCtorEq, escT, BEq.rfl, beq_self_eq_true, Int.reduceAdd, Int.reduceSub, Int.reduceMod, Int.reduceDiv, Nat.reduceMod, Nat.reduceDiv, Nat.reduceLT, cond_true, cond_false, gt_iff_lt, ge_iff_le, g0, g1, g2, g7, g8, mk, matA, mtx, gl0, k0, fx, List.length_map, gridP_len, rowF_len, tk1, tk2, tk3, al1, al2, al3, Int.toNat_natCast, Nat.mul_one, YtimdnnlfkkkpbaaDoor.D5, keep5, ty2, ty3, ty4, ty22, ty23, ty25, ty49]
          repeat
            first
            | refine callThen_of (qm _) ?_
            | refine callThen_of (qa _) ?_
            | refine callThen_of (qr _) ?_
            | refine callThen_of (qt _) ?_
            | refine callThen_of (qe _) ?_
            | refine callThen_of (ro1 _) ?_
            | refine callThen_of (sm1 _) ?_
            | refine callThen_of (ro2 _) ?_
            | refine callThen_of (qt8 _) ?_
            | refine callThen_of (sm2 _) ?_
            | refine callThen_of (nu _) ?_
            | refine callThen_of (qe8 _) ?_
            | refine callThen_of (ro3 _) ?_
            | refine callThen_of (sm3 _) ?_
            | refine callThen_of (sr _) ?_
            simp (maxSteps := 2000000) only [wk0, wk1, wk2, wk3, keepA, keepT, Fr.keep, frzT, flatT, arrayAtA, ownT, extT, Fr.ev, Fr.put, Fr.get, initFr, buildSliceA, zeros, pkB, pkT, pkF, ownDst, Env.kd, ofConst, isConst, binA, intI, cmpI, shiftI, convertA, buildA, fillA, fillS, splice, AV.cells?, storeA, readAt, fieldAddrA, fieldA, indexA, extractA, unA, builtinA, appendA, lenA, sliceCells, isSliceK, makeInterfaceA, nilCheckA, eqA, AV.one, AV.plain, if_false, if_true, Nat.reduceEqDiff, reduceIte, Nat.reduceAdd, List.replicate, Nat.reduceLeDiff, Nat.reduceMul, Nat.reduceSub, Nat.reducePow, Int.reduceLT, Int.reduceLE, Int.reduceToNat, Int.reducePow, IntKind.bits, Int.reduceEq, Int.reduceMul, Int.reduceNeg, ne_eq, reduceCtorEq, escT, BEq.rfl, beq_self_eq_true, Int.reduceAdd, Int.reduceSub, Int.reduceMod, Int.reduceDiv, Nat.reduceMod, Nat.reduceDiv, Nat.reduceLT, cond_true, cond_false, gt_iff_lt, ge_iff_le, g0, g1, g2, g7, g8, mk, matA, mtx, gl0, k0, fx, List.length_map, gridP_len, rowF_len, tk1, tk2, tk3, al1, al2, al3, Int.toNat_natCast, Nat.mul_one, YtimdnnlfkkkpbaaDoor.D5, keep5, ty2, ty3, ty4, ty22, ty23, ty25, ty49]
          exact retB_plain (by simp [nmd_bool]) rfl (by simp)
        · have hRC' : ((R : Int) = C) = False := eq_false (by omega)
          have qe := fun S => even_bad3 R C F S hR hC hRC
          simp only [mk, matA, zeroM, List.replicate, List.map_cons, List.map_nil, errA] at qe
          simp (maxSteps := 2000000) only [wk0, wk1, wk2, wk3, keepA, keepT, Fr.keep, frzT, flatT, arrayAtA, ownT, extT, Fr.ev, Fr.put, Fr.get, initFr, buildSliceA, zeros, pkB, pkT, pkF, ownDst, Env.kd, ofConst, isConst, binA, intI, cmpI, shiftI, convertA, buildA, fillA, fillS, splice, AV.cells?, storeA, readAt, fieldAddrA, fieldA, indexA, extractA, unA, builtinA, appendA, lenA, sliceCells, isSliceK, makeInterfaceA, nilCheckA, eqA, AV.one, AV.plain, if_false, if_true, Nat.reduceEqDiff, reduceIte, Nat.reduceAdd, List.replicate, Nat.reduceLeDiff, Nat.reduceMul, Nat.reduceSub, Nat.reducePow, Int.reduceLT, Int.reduceLE, Int.reduceToNat, Int.reducePow, IntKind.bits, Int.reduceEq, Int.reduceMul, Int.reduceNeg, ne_eq, reduceCtorEq, escT, BEq.rfl, beq_self_eq_true, Int.reduceAdd, Int.reduceSub, Int.reduceMod, Int.reduceDiv, Nat.reduceMod, Nat.reduceDiv, Nat.reduceLT, cond_true, cond_false, gt_iff_lt, ge_iff_le, g0, g1, g2, g7, g8, mk, matA, mtx, gl0, k0, fx, hRC', az, List.length_map, gridP_len, rowF_len, tk1, tk2, al1, al2, Int.toNat_natCast, Nat.mul_one, YtimdnnlfkkkpbaaDoor.D5, keep5, ty2, ty3, ty4, ty22, ty23, ty25, ty49]
          repeat
            first
            | refine callThen_of (qm _) ?_
            | refine callThen_of (qa _) ?_
            | refine callThen_of (qr _) ?_
            | refine callThen_of (qt _) ?_
            | refine callThen_of (qe _) ?_
            | refine callThen_of (ro1 _) ?_
            | refine callThen_of (sm1 _) ?_
            | refine callThen_of (ro2 _) ?_
            | refine callThen_of (qt8 _) ?_
            | refine callThen_of (sm2 _) ?_
            | refine callThen_of (nu _) ?_
            | refine callThen_of (ie _) ?_
            | refine callThen_of (sr _) ?_
            simp (maxSteps := 2000000) only [wk0, wk1, wk2, wk3, keepA, keepT, Fr.keep, frzT, flatT, arrayAtA, ownT, extT, Fr.ev, Fr.put, Fr.get, initFr, buildSliceA, zeros, pkB, pkT, pkF, ownDst, Env.kd, ofConst, isConst, binA, intI, cmpI, shiftI, convertA, buildA, fillA, fillS, splice, AV.cells?, storeA, readAt, fieldAddrA, fieldA, indexA, extractA, unA, builtinA, appendA, lenA, sliceCells, isSliceK, makeInterfaceA, nilCheckA, eqA, AV.one, AV.plain, if_false, if_true, Nat.reduceEqDiff, reduceIte, Nat.reduceAdd, List.replicate, Nat.reduceLeDiff, Nat.reduceMul, Nat.reduceSub, Nat.reducePow, Int.reduceLT, Int.reduceLE, Int.reduceToNat, Int.reducePow, IntKind.bits, Int.reduceEq, Int.reduceMul, Int.reduceNeg, ne_eq, reduceCtorEq, escT, BEq.rfl, beq_self_eq_true, Int.reduceAdd, Int.reduceSub, Int.reduceMod, Int.reduceDiv, Nat.reduceMod, Nat.reduceDiv, Nat.reduceLT, cond_true, cond_false, gt_iff_lt, ge_iff_le, g0, g1, g2, g7, g8, mk, matA, mtx, gl0, k0, fx, hRC', az, List.length_map, gridP_len, rowF_len, tk1, tk2, al1, al2, Int.toNat_natCast, Nat.mul_one, YtimdnnlfkkkpbaaDoor.D5, keep5, ty2, ty3, ty4, ty22, ty23, ty25, ty49]
          exact retB_plain (by simp [nmd_bool]) rfl (by simp)
      · have qa := fun S => atX_bad3 R C i j F S hR hC (fun h => hj h.2)
        simp only [mk, matA, errA] at qa
        by_cases j1 : j < 0
        · have fx := And.intro gl <| And.intro i1 <| And.intro i2 <| And.intro i3 <| And.intro i4 <| And.intro i5 j1
          by_cases hRC : R = C
          · subst hRC
            have qe := fun S => even_mat_ok R F S hR hf
            have qe8 := fun S => refEven8_ok R F S (by omega) hf
            have ro3 := fun S => rowsOf8_ok R R (fun i j => bndI (evenF F i j)) S hR hR
            have sm3 := fun S => sameRows8_ok R R (fun i j => bndI (evenF F i j)) S (by omega) (by omega)
            generalize (fun i j => bndI (evenF F i j)) = E at *
            generalize anyP R (fun i j => ovrB (evenF F i j)) (R * R) = o at *
            have tk3 := take36g R E (R * R)
            have al3 := all36g (gridP R E (R * R))
            simp only [mk, matA, mtx, lstI, rowF_len] at qe qe8 ro3 sm3
            simp (maxSteps := 2000000) only [wk0, wk1, wk2, wk3, keepA, keepT, Fr.keep, frzT, flatT, arrayAtA, ownT, extT, Fr.ev, Fr.put, Fr.get, initFr, buildSliceA, zeros, pkB, pkT, pkF, ownDst, Env.kd, ofConst, isConst, binA, intI, cmpI, shiftI, convertA, buildA, fillA, fillS, splice, AV.cells?, storeA, readAt, fieldAddrA, fieldA, indexA, extractA, unA, builtinA, appendA, lenA, sliceCells, isSliceK, makeInterfaceA, nilCheckA, eqA, AV.one, AV.plain, if_false, if_true, Nat.reduceEqDiff, reduceIte, Nat.reduceAdd, List.replicate, Nat.reduceLeDiff, Nat.reduceMul, Nat.reduceSub, Nat.reducePow, Int.reduceLT, Int.reduceLE, Int.reduceToNat, Int.reducePow, IntKind.bits, Int.reduceEq, Int.reduceMul, Int.reduceNeg, ne_eq, reduceCtorEq, escT, BEq.rfl, beq_self_eq_true, Int.reduceAdd, Int.reduceSub, Int.reduceMod, Int.reduceDiv, Nat.reduceMod, Nat.reduceDiv, Nat.reduceLT, cond_true, cond_false, gt_iff_lt, ge_iff_le, g0, g1, g2, g7, g8, mk, matA, mtx, gl0, k0, fx, List.length_map, gridP_len, rowF_len, tk1, tk2, tk3, al1, al2, al3, Int.toNat_natCast, Nat.mul_one, YtimdnnlfkkkpbaaDoor.D5, keep5, ty2, ty3, ty4, ty22, ty23, ty25, ty49]
            repeat
              first
              | refine callThen_of (qm _) ?_
              | refine callThen_of (qa _) ?_
              | refine callThen_of (qr _) ?_
              | refine callThen_of (qt _) ?_
              | refine callThen_of (qe _) ?_
              | refine callThen_of (ro1 _) ?_
              | refine callThen_of (sm1 _) ?_
              | refine callThen_of (ro2 _) ?_
              | refine callThen_of (qt8 _) ?_
              | refine callThen_of (sm2 _) ?_
              | refine callThen_of (nu _) ?_
              | refine callThen_of (ie _) ?_
              | refine callThen_of (qe8 _) ?_
              | refine callThen_of (ro3 _) ?_
              | refine callThen_of (sm3 _) ?_
              | refine callThen_of (sr _) ?_
              simp (maxSteps := 2000000) only [wk0, wk1, wk2, wk3, keepA, keepT, Fr.keep, frzT, flatT, arrayAtA, ownT, extT, Fr.ev, Fr.put, Fr.get, initFr, buildSliceA, zeros, pkB, pkT, pkF, ownDst, Env.kd, ofConst, isConst, binA, intI, cmpI, shiftI, convertA, buildA, fillA, fillS, splice, AV.cells?, storeA, readAt, fieldAddrA, fieldA, indexA, extractA, unA, builtinA, appendA, lenA, sliceCells, isSliceK, makeInterfaceA, nilCheckA, eqA, AV.one, AV.plain, if_false, if_true, Nat.reduceEqDiff, reduceIte, Nat.reduceAdd, List.replicate, Nat.reduceLeDiff, Nat.reduceMul, Nat.reduceSub, Nat.reducePow, Int.reduceLT, Int.reduceLE, Int.reduceToNat, Int.reducePow, IntKind.bits, Int.reduceEq, Int.reduceMul, Int.reduceNeg, ne_eq, reduceCtorEq, escT, BEq.rfl, beq_self_eq_true, Int.reduceAdd, Int.reduceSub, Int.reduceMod, Int.reduceDiv, Nat.reduceMod, Nat.reduceDiv, Nat.reduceLT, cond_true, cond_false, gt_iff_lt, ge_iff_le, g0, g1, g2, g7, g8, mk, matA, mtx, gl0, k0, fx, List.length_map, gridP_len, rowF_len, tk1, tk2, tk3, al1, al2, al3, Int.toNat_natCast, Nat.mul_one, YtimdnnlfkkkpbaaDoor.D5, keep5, ty2, ty3, ty4, ty22, ty23, ty25, ty49]
            exact retB_plain (by simp [nmd_bool]) rfl (by simp)
          · have hRC' : ((R : Int) = C) = False := eq_false (by omega)
            have qe := fun S => even_bad3 R C F S hR hC hRC
            simp only [mk, matA, zeroM, List.replicate, List.map_cons, List.map_nil, errA] at qe
            simp (maxSteps := 2000000) only [wk0, wk1, wk2, wk3, keepA, keepT, Fr.keep, frzT, flatT, arrayAtA, ownT, extT, Fr.ev, Fr.put, Fr.get, initFr, buildSliceA, zeros, pkB, pkT, pkF, ownDst, Env.kd, ofConst, isConst, binA, intI, cmpI, shiftI, convertA, buildA, fillA, fillS, splice, AV.cells?, storeA, readAt, fieldAddrA, fieldA, indexA, extractA, unA, builtinA, appendA, lenA, sliceCells, isSliceK, makeInterfaceA, nilCheckA, eqA, AV.one, AV.plain, if_false, if_true, Nat.reduceEqDiff, reduceIte, Nat.reduceAdd, List.replicate, Nat.reduceLeDiff, Nat.reduceMul, Nat.reduceSub, Nat.reducePow, Int.reduceLT, Int.reduceLE, Int.reduceToNat, Int.reducePow, IntKind.bits, Int.reduceEq, Int.reduceMul, Int.reduceNeg, ne_eq, reduceCtorEq, escT, BEq.rfl, beq_self_eq_true, Int.reduceAdd, Int.reduceSub, Int.reduceMod, Int.reduceDiv, Nat.reduceMod, Nat.reduceDiv, Nat.reduceLT, cond_true, cond_false, gt_iff_lt, ge_iff_le, g0, g1, g2, g7, g8, mk, matA, mtx, gl0, k0, fx, hRC', az, List.length_map, gridP_len, rowF_len, tk1, tk2, al1, al2, Int.toNat_natCast, Nat.mul_one, YtimdnnlfkkkpbaaDoor.D5, keep5, ty2, ty3, ty4, ty22, ty23, ty25, ty49]
            repeat
              first
              | refine callThen_of (qm _) ?_
              | refine callThen_of (qa _) ?_
              | refine callThen_of (qr _) ?_
              | refine callThen_of (qt _) ?_
              | refine callThen_of (qe _) ?_
              | refine callThen_of (ro1 _) ?_
              | refine callThen_of (sm1 _) ?_
              | refine callThen_of (ro2 _) ?_
              | refine callThen_of (qt8 _) ?_
              | refine callThen_of (sm2 _) ?_
              | refine callThen_of (nu _) ?_
              | refine callThen_of (ie _) ?_
              | refine callThen_of (sr _) ?_
              simp (maxSteps := 2000000) only [wk0, wk1, wk2, wk3, keepA, keepT, Fr.keep, frzT, flatT, arrayAtA, ownT, extT, Fr.ev, Fr.put, Fr.get, initFr, buildSliceA, zeros, pkB, pkT, pkF, ownDst, Env.kd, ofConst, isConst, binA, intI, cmpI, shiftI, convertA, buildA, fillA, fillS, splice, AV.cells?, storeA, readAt, fieldAddrA, fieldA, indexA, extractA, unA, builtinA, appendA, lenA, sliceCells, isSliceK, makeInterfaceA, nilCheckA, eqA, AV.one, AV.plain, if_false, if_true, Nat.reduceEqDiff, reduceIte, Nat.reduceAdd, List.replicate, Nat.reduceLeDiff, Nat.reduceMul, Nat.reduceSub, Nat.reducePow, Int.reduceLT, Int.reduceLE, Int.reduceToNat, Int.reducePow, IntKind.bits, Int.reduceEq, Int.reduceMul, Int.reduceNeg, ne_eq, reduceCtorEq, escT, BEq.rfl, beq_self_eq_true, Int.reduceAdd, Int.reduceSub, Int.reduceMod, Int.reduceDiv, Nat.reduceMod, Nat.reduceDiv, Nat.reduceLT, cond_true, cond_false, gt_iff_lt, ge_iff_le, g0, g1, g2, g7, g8, mk, matA, mtx, gl0, k0, fx, hRC', az, List.length_map, gridP_len, rowF_len, tk1, tk2, al1, al2, Int.toNat_natCast, Nat.mul_one, YtimdnnlfkkkpbaaDoor.D5, keep5, ty2, ty3, ty4, ty22, ty23, ty25, ty49]
            exact retB_plain (by simp [nmd_bool]) rfl (by simp)
        · have j2 : (C : Int) ≤ j := by omega
          have fx := And.intro gl <| And.intro i1 <| And.intro i2 <| And.intro i3 <| And.intro i4 <| And.intro i5 <| And.intro j1 j2
          by_cases hRC : R = C
          · subst hRC
            have qe := fun S => even_mat_ok R F S hR hf
            have qe8 := fun S => refEven8_ok R F S (by omega) hf
            have ro3 := fun S => rowsOf8_ok R R (fun i j => bndI (evenF F i j)) S hR hR
            have sm3 := fun S => sameRows8_ok R R (fun i j => bndI (evenF F i j)) S (by omega) (by omega)
            generalize (fun i j => bndI (evenF F i j)) = E at *
            generalize anyP R (fun i j => ovrB (evenF F i j)) (R * R) = o at *
            have tk3 := take36g R E (R * R)
            have al3 := all36g (gridP R E (R * R))
            simp only [mk, matA, mtx, lstI, rowF_len] at qe qe8 ro3 sm3
            simp (maxSteps := 2000000) only [wk0, wk1, wk2, wk3, keepA, keepT, Fr.keep, frzT, flatT, arrayAtA, ownT, extT, Fr.ev, Fr.put, Fr.get, initFr, buildSliceA, zeros, pkB, pkT, pkF, ownDst, Env.kd, ofConst, isConst, binA, intI, cmpI, shiftI, convertA, buildA, fillA, fillS, splice, AV.cells?, storeA, readAt, fieldAddrA, fieldA, indexA, extractA, unA, builtinA, appendA, lenA, sliceCells, isSliceK, makeInterfaceA, nilCheckA, eqA, AV.one, AV.plain, if_false, if_true, Nat.reduceEqDiff, reduceIte, Nat.reduceAdd, List.replicate, Nat.reduceLeDiff, Nat.reduceMul, Nat.reduceSub, Nat.reducePow, Int.reduceLT, Int.reduceLE, Int.reduceToNat, Int.reducePow, IntKind.bits, Int.reduceEq, Int.reduceMul, Int.reduceNeg, ne_eq, reduceCtorEq, escT, BEq.rfl, beq_self_eq_true, Int.reduceAdd, Int.reduceSub, Int.reduceMod, Int.reduceDiv, Nat.reduceMod, Nat.reduceDiv, Nat.reduceLT, cond_true, cond_false, gt_iff_lt, ge_iff_le, g0, g1, g2, g7, g8, mk, matA, mtx, gl0, k0, fx, List.length_map, gridP_len, rowF_len, tk1, tk2, tk3, al1, al2, al3, Int.toNat_natCast, Nat.mul_one, YtimdnnlfkkkpbaaDoor.D5, keep5, ty2, ty3, ty4, ty22, ty23, ty25, ty49]
            repeat
              first
              | refine callThen_of (qm _) ?_
              | refine callThen_of (qa _) ?_
              | refine callThen_of (qr _) ?_
              | refine callThen_of (qt _) ?_
              | refine callThen_of (qe _) ?_
              | refine callThen_of (ro1 _) ?_
              | refine callThen_of (sm1 _) ?_
              | refine callThen_of (ro2 _) ?_
              | refine callThen_of (qt8 _) ?_
              | refine callThen_of (sm2 _) ?_
              | refine callThen_of (nu _) ?_
              | refine callThen_of (ie _) ?_
              | refine callThen_of (qe8 _) ?_
              | refine callThen_of (ro3 _) ?_
              | refine callThen_of (sm3 _) ?_
              | refine callThen_of (sr _) ?_
              simp (maxSteps := 2000000) only [wk0, wk1, wk2, wk3, keepA, keepT, Fr.keep, frzT, flatT, arrayAtA, ownT, extT, Fr.ev, Fr.put, Fr.get, initFr, buildSliceA, zeros, pkB, pkT, pkF, ownDst, Env.kd, ofConst, isConst, binA, intI, cmpI, shiftI, convertA, buildA, fillA, fillS, splice, AV.cells?, storeA, readAt, fieldAddrA, fieldA, indexA, extractA, unA, builtinA, appendA, lenA, sliceCells, isSliceK, makeInterfaceA, nilCheckA, eqA, AV.one, AV.plain, if_false, if_true, Nat.reduceEqDiff, reduceIte, Nat.reduceAdd, List.replicate, Nat.reduceLeDiff, Nat.reduceMul, Nat.reduceSub, Nat.reducePow, Int.reduceLT, Int.reduceLE, Int.reduceToNat, Int.reducePow, IntKind.bits, Int.reduceEq, Int.reduceMul, Int.reduceNeg, ne_eq, reduceCtorEq, escT, BEq.rfl, beq_self_eq_true, Int.reduceAdd, Int.reduceSub, Int.reduceMod, Int.reduceDiv, Nat.reduceMod, Nat.reduceDiv, Nat.reduceLT, cond_true, cond_false, gt_iff_lt, ge_iff_le, g0, g1, g2, g7, g8, mk, matA, mtx, gl0, k0, fx, List.length_map, gridP_len, rowF_len, tk1, tk2, tk3, al1, al2, al3, Int.toNat_natCast, Nat.mul_one, YtimdnnlfkkkpbaaDoor.D5, keep5, ty2, ty3, ty4, ty22, ty23, ty25, ty49]
            exact retB_plain (by simp [nmd_bool]) rfl (by simp)
          · have hRC' : ((R : Int) = C) = False := eq_false (by omega)
            have qe := fun S => even_bad3 R C F S hR hC hRC
            simp only [mk, matA, zeroM, List.replicate, List.map_cons, List.map_nil, errA] at qe
            simp (maxSteps := 2000000) only [wk0, wk1, wk2, wk3, keepA, keepT, Fr.keep, frzT, flatT, arrayAtA, ownT, extT, Fr.ev, Fr.put, Fr.get, initFr, buildSliceA, zeros, pkB, pkT, pkF, ownDst, Env.kd, ofConst, isConst, binA, intI, cmpI, shiftI, convertA, buildA, fillA, fillS, splice, AV.cells?, storeA, readAt, fieldAddrA, fieldA, indexA, extractA, unA, builtinA, appendA, lenA, sliceCells, isSliceK, makeInterfaceA, nilCheckA, eqA, AV.one, AV.plain, if_false, if_true, Nat.reduceEqDiff, reduceIte, Nat.reduceAdd, List.replicate, Nat.reduceLeDiff, Nat.reduceMul, Nat.reduceSub, Nat.reducePow, Int.reduceLT, Int.reduceLE, Int.reduceToNat, Int.reducePow, IntKind.bits, Int.reduceEq, Int.reduceMul, Int.reduceNeg, ne_eq, reduceCtorEq, escT, BEq.rfl, beq_self_eq_true, Int.reduceAdd, Int.reduceSub, Int.reduceMod, Int.reduceDiv, Nat.reduceMod, Nat.reduceDiv, Nat.reduceLT, cond_true, cond_false, gt_iff_lt, ge_iff_le, g0, g1, g2, g7, g8, mk, matA, mtx, gl0, k0, fx, hRC', az, List.length_map, gridP_len, rowF_len, tk1, tk2, al1, al2, Int.toNat_natCast, Nat.mul_one, YtimdnnlfkkkpbaaDoor.D5, keep5, ty2, ty3, ty4, ty22, ty23, ty25, ty49]
            repeat
              first
              | refine callThen_of (qm _) ?_
              | refine callThen_of (qa _) ?_
              | refine callThen_of (qr _) ?_
              | refine callThen_of (qt _) ?_
              | refine callThen_of (qe _) ?_
              | refine callThen_of (ro1 _) ?_
              | refine callThen_of (sm1 _) ?_
              | refine callThen_of (ro2 _) ?_
              | refine callThen_of (qt8 _) ?_
              | refine callThen_of (sm2 _) ?_
              | refine callThen_of (nu _) ?_
              | refine callThen_of (ie _) ?_
              | refine callThen_of (sr _) ?_
              simp (maxSteps := 2000000) only [wk0, wk1, wk2, wk3, keepA, keepT, Fr.keep, frzT, flatT, arrayAtA, ownT, extT, Fr.ev, Fr.put, Fr.get, initFr, buildSliceA, zeros, pkB, pkT, pkF, ownDst, Env.kd, ofConst, isConst, binA, intI, cmpI, shiftI, convertA, buildA, fillA, fillS, splice, AV.cells?, storeA, readAt, fieldAddrA, fieldA, indexA, extractA, unA, builtinA, appendA, lenA, sliceCells, isSliceK, makeInterfaceA, nilCheckA, eqA, AV.one, AV.plain, if_false, if_true, Nat.reduceEqDiff, reduceIte, Nat.reduceAdd, List.replicate, Nat.reduceLeDiff, Nat.reduceMul, Nat.reduceSub, Nat.reducePow, Int.reduceLT, Int.reduceLE, Int.reduceToNat, Int.reducePow, IntKind.bits, Int.reduceEq, Int.reduceMul, Int.reduceNeg, ne_eq, reduceCtorEq, escT, BEq.rfl, beq_self_eq_true, Int.reduceAdd, Int.reduceSub, Int.reduceMod, Int.reduceDiv, Nat.reduceMod, Nat.reduceDiv, Nat.reduceLT, cond_true, cond_false, gt_iff_lt, ge_iff_le, g0, g1, g2, g7, g8, mk, matA, mtx, gl0, k0, fx, hRC', az, List.length_map, gridP_len, rowF_len, tk1, tk2, al1, al2, Int.toNat_natCast, Nat.mul_one, YtimdnnlfkkkpbaaDoor.D5, keep5, ty2, ty3, ty4, ty22, ty23, ty25, ty49]
            exact retB_plain (by simp [nmd_bool]) rfl (by simp)
    · have qa := fun S => atX_bad3 R C i j F S hR hC (fun h => hi h.1)
      have qr := fun S => rowM_bad3 R C i F S hR hC hi
      simp only [mk, matA, errA] at qa qr
      by_cases i1 : i < 0
      · by_cases hRC : R = C
        · subst hRC
          have qe := fun S => even_mat_ok R F S hR hf
          have qe8 := fun S => refEven8_ok R F S (by omega) hf
          have ro3 := fun S => rowsOf8_ok R R (fun i j => bndI (evenF F i j)) S hR hR
          have sm3 := fun S => sameRows8_ok R R (fun i j => bndI (evenF F i j)) S (by omega) (by omega)
          generalize (fun i j => bndI (evenF F i j)) = E at *
          generalize anyP R (fun i j => ovrB (evenF F i j)) (R * R) = o at *
          have tk3 := take36g R E (R * R)
          have al3 := all36g (gridP R E (R * R))
          simp only [mk, matA, mtx, lstI, rowF_len] at qe qe8 ro3 sm3
          simp (maxSteps := 2000000) only [wk0, wk1, wk2, wk3, keepA, keepT, Fr.keep, frzT, flatT, arrayAtA, ownT, extT, Fr.ev, Fr.put, Fr.get, initFr, buildSliceA, zeros, pkB, pkT, pkF, ownDst, Env.kd, ofConst, isConst, binA, intI, cmpI, shiftI, convertA, buildA, fillA, fillS, splice, AV.cells?, storeA, readAt, fieldAddrA, fieldA, indexA, extractA, unA, builtinA, appendA, lenA, sliceCells, isSliceK, makeInterfaceA, nilCheckA, eqA, AV.one, AV.plain, if_false, if_true, Nat.reduceEqDiff, reduceIte, Nat.reduceAdd, List.replicate, Nat.reduceLeDiff, Nat.reduceMul, Nat.reduceSub, Nat.reducePow, Int.reduceLT, Int.reduceLE, Int.reduceToNat, Int.reducePow, IntKind.bits, Int.reduceEq, Int.reduceMul, Int.reduceNeg, ne_eq, reduceCtorEq, escT, BEq.rfl, beq_self_eq_true, Int.reduceAdd, Int.reduceSub, Int.reduceMod, Int.reduceDiv, Nat.reduceMod, Nat.reduceDiv, Nat.reduceLT, cond_true, cond_false, gt_iff_lt, ge_iff_le, g0, g1, g2, g7, g8, mk, matA, mtx, gl0, k0, i1, List.length_map, gridP_len, rowF_len, tk1, tk2, tk3, al1, al2, al3, Int.toNat_natCast, Nat.mul_one, YtimdnnlfkkkpbaaDoor.D5, keep5, ty2, ty3, ty4, ty22, ty23, ty25, ty49]
          repeat
            first
            | refine callThen_of (qm _) ?_
            | refine callThen_of (qa _) ?_
            | refine callThen_of (qr _) ?_
            | refine callThen_of (qt _) ?_
            | refine callThen_of (qe _) ?_
            | refine callThen_of (ro1 _) ?_
            | refine callThen_of (sm1 _) ?_
            | refine callThen_of (ro2 _) ?_
            | refine callThen_of (qt8 _) ?_
            | refine callThen_of (sm2 _) ?_
            | refine callThen_of (ie _) ?_
            | refine callThen_of (qe8 _) ?_
            | refine callThen_of (ro3 _) ?_
            | refine callThen_of (sm3 _) ?_
            | refine callThen_of (sr _) ?_
            simp (maxSteps := 2000000) only [wk0, wk1, wk2, wk3, keepA, keepT, Fr.keep, frzT, flatT, arrayAtA, ownT, extT, Fr.ev, Fr.put, Fr.get, initFr, buildSliceA, zeros, pkB, pkT, pkF, ownDst, Env.kd, ofConst, isConst, binA, intI, cmpI, shiftI, convertA, buildA, fillA, fillS, splice, AV.cells?, storeA, readAt, fieldAddrA, fieldA, indexA, extractA, unA, builtinA, appendA, lenA, sliceCells, isSliceK, makeInterfaceA, nilCheckA, eqA, AV.one, AV.plain, if_false, if_true, Nat.reduceEqDiff, reduceIte, Nat.reduceAdd, List.replicate, Nat.reduceLeDiff, Nat.reduceMul, Nat.reduceSub, Nat.reducePow, Int.reduceLT, Int.reduceLE, Int.reduceToNat, Int.reducePow, IntKind.bits, Int.reduceEq, Int.reduceMul, Int.reduceNeg, ne_eq, reduceCtorEq, escT, BEq.rfl, beq_self_eq_true, Int.reduceAdd, Int.reduceSub, Int.reduceMod, Int.reduceDiv, Nat.reduceMod, Nat.reduceDiv, Nat.reduceLT, cond_true, cond_false, gt_iff_lt, ge_iff_le, g0, g1, g2, g7, g8, mk, matA, mtx, gl0, k0, i1, List.length_map, gridP_len, rowF_len, tk1, tk2, tk3, al1, al2, al3, Int.toNat_natCast, Nat.mul_one, YtimdnnlfkkkpbaaDoor.D5, keep5, ty2, ty3, ty4, ty22, ty23, ty25, ty49]
          exact retB_plain (by simp [nmd_bool]) rfl (by simp)
        · have hRC' : ((R : Int) = C) = False := eq_false (by omega)
          have qe := fun S => even_bad3 R C F S hR hC hRC
          simp only [mk, matA, zeroM, List.replicate, List.map_cons, List.map_nil, errA] at qe
          simp (maxSteps := 2000000) only [wk0, wk1, wk2, wk3, keepA, keepT, Fr.keep, frzT, flatT, arrayAtA, ownT, extT, Fr.ev, Fr.put, Fr.get, initFr, buildSliceA, zeros, pkB, pkT, pkF, ownDst, Env.kd, ofConst, isConst, binA, intI, cmpI, shiftI, convertA, buildA, fillA, fillS, splice, AV.cells?, storeA, readAt, fieldAddrA, fieldA, indexA, extractA, unA, builtinA, appendA, lenA, sliceCells, isSliceK, makeInterfaceA, nilCheckA, eqA, AV.one, AV.plain, if_false, if_true, Nat.reduceEqDiff, reduceIte, Nat.reduceAdd, List.replicate, Nat.reduceLeDiff, Nat.reduceMul, Nat.reduceSub, Nat.reducePow, Int.reduceLT, Int.reduceLE, Int.reduceToNat, Int.reducePow, IntKind.bits, Int.reduceEq, Int.reduceMul, Int.reduceNeg, ne_eq, reduceCtorEq, escT, BEq.rfl, beq_self_eq_true, Int.reduceAdd, Int.reduceSub, Int.reduceMod, Int.reduceDiv, Nat.reduceMod, Nat.reduceDiv, Nat.reduceLT, cond_true, cond_false, gt_iff_lt, ge_iff_le, g0, g1, g2, g7, g8, mk, matA, mtx, gl0, k0, i1, hRC', az, List.length_map, gridP_len, rowF_len, tk1, tk2, al1, al2, Int.toNat_natCast, Nat.mul_one, YtimdnnlfkkkpbaaDoor.D5, keep5, ty2, ty3, ty4, ty22, ty23, ty25, ty49]
          repeat
            first
            | refine callThen_of (qm _) ?_
            | refine callThen_of (qa _) ?_
            | refine callThen_of (qr _) ?_
            | refine callThen_of (qt _) ?_
            | refine callThen_of (qe _) ?_
            | refine callThen_of (ro1 _) ?_
            | refine callThen_of (sm1 _) ?_
            | refine callThen_of (ro2 _) ?_
            | refine callThen_of (qt8 _) ?_
            | refine callThen_of (sm2 _) ?_
            | refine callThen_of (ie _) ?_
            | refine callThen_of (sr _) ?_
            simp (maxSteps := 2000000) only [wk0, wk1, wk2, wk3, keepA, keepT, Fr.keep, frzT, flatT, arrayAtA, ownT, extT, Fr.ev, Fr.put, Fr.get, initFr, buildSliceA, zeros, pkB, pkT, pkF, ownDst, Env.kd, ofConst, isConst, binA, intI, cmpI, shiftI, convertA, buildA, fillA, fillS, splice, AV.cells?, storeA, readAt, fieldAddrA, fieldA, indexA, extractA, unA, builtinA, appendA, lenA, sliceCells, isSliceK, makeInterfaceA, nilCheckA, eqA, AV.one, AV.plain, if_false, if_true, Nat.reduceEqDiff, reduceIte, Nat.reduceAdd, List.replicate, Nat.reduceLeDiff, Nat.reduceMul, Nat.reduceSub, Nat.reducePow, Int.reduceLT, Int.reduceLE, Int.reduceToNat, Int.reducePow, IntKind.bits, Int.reduceEq, Int.reduceMul, Int.reduceNeg, ne_eq, reduceCtorEq, escT, BEq.rfl, beq_self_eq_true, Int.reduceAdd, Int.reduceSub, Int.reduceMod, Int.reduceDiv, Nat.reduceMod, Nat.reduceDiv, Nat.reduceLT, cond_true, cond_false, gt_iff_lt, ge_iff_le, g0, g1, g2, g7, g8, mk, matA, mtx, gl0, k0, i1, hRC', az, List.length_map, gridP_len, rowF_len, tk1, tk2, al1, al2, Int.toNat_natCast, Nat.mul_one, YtimdnnlfkkkpbaaDoor.D5, keep5, ty2, ty3, ty4, ty22, ty23, ty25, ty49]
          exact retB_plain (by simp [nmd_bool]) rfl (by simp)
      · have i2 : (R : Int) ≤ i := by omega
        have fx := And.intro i1 i2
        by_cases hRC : R = C
        · subst hRC
          have qe := fun S => even_mat_ok R F S hR hf
          have qe8 := fun S => refEven8_ok R F S (by omega) hf
          have ro3 := fun S => rowsOf8_ok R R (fun i j => bndI (evenF F i j)) S hR hR
          have sm3 := fun S => sameRows8_ok R R (fun i j => bndI (evenF F i j)) S (by omega) (by omega)
          generalize (fun i j => bndI (evenF F i j)) = E at *
          generalize anyP R (fun i j => ovrB (evenF F i j)) (R * R) = o at *
          have tk3 := take36g R E (R * R)
          have al3 := all36g (gridP R E (R * R))
          simp only [mk, matA, mtx, lstI, rowF_len] at qe qe8 ro3 sm3
          simp (maxSteps := 2000000) only [wk0, wk1, wk2, wk3, keepA, keepT, Fr.keep, frzT, flatT, arrayAtA, ownT, extT, Fr.ev, Fr.put, Fr.get, initFr, buildSliceA, zeros, pkB, pkT, pkF, ownDst, Env.kd, ofConst, isConst, binA, intI, cmpI, shiftI, convertA, buildA, fillA, fillS, splice, AV.cells?, storeA, readAt, fieldAddrA, fieldA, indexA, extractA, unA, builtinA, appendA, lenA, sliceCells, isSliceK, makeInterfaceA, nilCheckA, eqA, AV.one, AV.plain, if_false, if_true, Nat.reduceEqDiff, reduceIte, Nat.reduceAdd, List.replicate, Nat.reduceLeDiff, Nat.reduceMul, Nat.reduceSub, Nat.reducePow, Int.reduceLT, Int.reduceLE, Int.reduceToNat, Int.reducePow, IntKind.bits, Int.reduceEq, Int.reduceMul, Int.reduceNeg, ne_eq, reduceCtorEq, escT, BEq.rfl, beq_self_eq_true, Int.reduceAdd, Int.reduceSub, Int.reduceMod, Int.reduceDiv, Nat.reduceMod, Nat.reduceDiv, Nat.reduceLT, cond_true, cond_false, gt_iff_lt, ge_iff_le, g0, g1, g2, g7, g8, mk, matA, mtx, gl0, k0, fx, List.length_map, gridP_len, rowF_len, tk1, tk2, tk3, al1, al2, al3, Int.toNat_natCast, Nat.mul_one, YtimdnnlfkkkpbaaDoor.D5, keep5, ty2, ty3, ty4, ty22, ty23, ty25, ty49]
          repeat
            first
            | refine callThen_of (qm _) ?_
            | refine callThen_of (qa _) ?_
            | refine callThen_of (qr _) ?_
            | refine callThen_of (qt _) ?_
            | refine callThen_of (qe _) ?_
            | refine callThen_of (ro1 _) ?_
            | refine callThen_of (sm1 _) ?_
            | refine callThen_of (ro2 _) ?_
            | refine callThen_of (qt8 _) ?_
            | refine callThen_of (sm2 _) ?_
            | refine callThen_of (ie _) ?_
            | refine callThen_of (qe8 _) ?_
            | refine callThen_of (ro3 _) ?_
            | refine callThen_of (sm3 _) ?_
            | refine callThen_of (sr _) ?_
            simp (maxSteps := 2000000) only [wk0, wk1, wk2, wk3, keepA, keepT, Fr.keep, frzT, flatT, arrayAtA, ownT, extT, Fr.ev, Fr.put, Fr.get, initFr, buildSliceA, zeros, pkB, pkT, pkF, ownDst, Env.kd, ofConst, isConst, binA, intI, cmpI, shiftI, convertA, buildA, fillA, fillS, splice, AV.cells?, storeA, readAt, fieldAddrA, fieldA, indexA, extractA, unA, builtinA, appendA, lenA, sliceCells, isSliceK, makeInterfaceA, nilCheckA, eqA, AV.one, AV.plain, if_false, if_true, Nat.reduceEqDiff, reduceIte, Nat.reduceAdd, List.replicate, Nat.reduceLeDiff, Nat.reduceMul, Nat.reduceSub, Nat.reducePow, Int.reduceLT, Int.reduceLE, Int.reduceToNat, Int.reducePow, IntKind.bits, Int.reduceEq, Int.reduceMul, Int.reduceNeg, ne_eq, reduceCtorEq, escT, BEq.rfl, beq_self_eq_true, Int.reduceAdd, Int.reduceSub, Int.reduceMod, Int.reduceDiv, Nat.reduceMod, Nat.reduceDiv, Nat.reduceLT, cond_true, cond_false, gt_iff_lt, ge_iff_le, g0, g1, g2, g7, g8, mk, matA, mtx, gl0, k0, fx, List.length_map, gridP_len, rowF_len, tk1, tk2, tk3, al1, al2, al3, Int.toNat_natCast, Nat.mul_one, YtimdnnlfkkkpbaaDoor.D5, keep5, ty2, ty3, ty4, ty22, ty23, ty25, ty49]
          exact retB_plain (by simp [nmd_bool]) rfl (by simp)
        · have hRC' : ((R : Int) = C) = False := eq_false (by omega)
          have qe := fun S => even_bad3 R C F S hR hC hRC
          simp only [mk, matA, zeroM, List.replicate, List.map_cons, List.map_nil, errA] at qe
          simp (maxSteps := 2000000) only [wk0, wk1, wk2, wk3, keepA, keepT, Fr.keep, frzT, flatT, arrayAtA, ownT, extT, Fr.ev, Fr.put, Fr.get, initFr, buildSliceA, zeros, pkB, pkT, pkF, ownDst, Env.kd, ofConst, isConst, binA, intI, cmpI, shiftI, convertA, buildA, fillA, fillS, splice, AV.cells?, storeA, readAt, fieldAddrA, fieldA, indexA, extractA, unA, builtinA, appendA, lenA, sliceCells, isSliceK, makeInterfaceA, nilCheckA, eqA, AV.one, AV.plain, if_false, if_true, Nat.reduceEqDiff, reduceIte, Nat.reduceAdd, List.replicate, Nat.reduceLeDiff, Nat.reduceMul, Nat.reduceSub, Nat.reducePow, Int.reduceLT, Int.reduceLE, Int.reduceToNat, Int.reducePow, IntKind.bits, Int.reduceEq, Int.reduceMul, Int.reduceNeg, ne_eq, reduceCtorEq, escT, BEq.rfl, beq_self_eq_true, Int.reduceAdd, Int.reduceSub, Int.reduceMod, Int.reduceDiv, Nat.reduceMod, Nat.reduceDiv, Nat.reduceLT, cond_true, cond_false, gt_iff_lt, ge_iff_le, g0, g1, g2, g7, g8, mk, matA, mtx, gl0, k0, fx, hRC', az, List.length_map, gridP_len, rowF_len, tk1, tk2, al1, al2, Int.toNat_natCast, Nat.mul_one, YtimdnnlfkkkpbaaDoor.D5, keep5, ty2, ty3, ty4, ty22, ty23, ty25, ty49]
          repeat
            first
            | refine callThen_of (qm _) ?_
            | refine callThen_of (qa _) ?_
            | refine callThen_of (qr _) ?_
            | refine callThen_of (qt _) ?_
            | refine callThen_of (qe _) ?_
            | refine callThen_of (ro1 _) ?_
            | refine callThen_of (sm1 _) ?_
            | refine callThen_of (ro2 _) ?_
            | refine callThen_of (qt8 _) ?_
            | refine callThen_of (sm2 _) ?_
            | refine callThen_of (ie _) ?_
            | refine callThen_of (sr _) ?_
            simp (maxSteps := 2000000) only [wk0, wk1, wk2, wk3, keepA, keepT, Fr.keep, frzT, flatT, arrayAtA, ownT, extT, Fr.ev, Fr.put, Fr.get, initFr, buildSliceA, zeros, pkB, pkT, pkF, ownDst, Env.kd, ofConst, isConst, binA, intI, cmpI, shiftI, convertA, buildA, fillA, fillS, splice, AV.cells?, storeA, readAt, fieldAddrA, fieldA, indexA, extractA, unA, builtinA, appendA, lenA, sliceCells, isSliceK, makeInterfaceA, nilCheckA, eqA, AV.one, AV.plain, if_false, if_true, Nat.reduceEqDiff, reduceIte, Nat.reduceAdd, List.replicate, Nat.reduceLeDiff, Nat.reduceMul, Nat.reduceSub, Nat.reducePow, Int.reduceLT, Int.reduceLE, Int.reduceToNat, Int.reducePow, IntKind.bits, Int.reduceEq, Int.reduceMul, Int.reduceNeg, ne_eq, reduceCtorEq, escT, BEq.rfl, beq_self_eq_true, Int.reduceAdd, Int.reduceSub, Int.reduceMod, Int.reduceDiv, Nat.reduceMod, Nat.reduceDiv, Nat.reduceLT, cond_true, cond_false, gt_iff_lt, ge_iff_le, g0, g1, g2, g7, g8, mk, matA, mtx, gl0, k0, fx, hRC', az, List.length_map, gridP_len, rowF_len, tk1, tk2, al1, al2, Int.toNat_natCast, Nat.mul_one, YtimdnnlfkkkpbaaDoor.D5, keep5, ty2, ty3, ty4, ty22, ty23, ty25, ty49]
          exact retB_plain (by simp [nmd_bool]) rfl (by simp)
theorem matParts_none (l : List (List Int)) (i j : Int) (S : Heap) (hm : ¬ MayR l) : Call theE 5 [lstL l, .int .i64 i, .int .i64 j] S (.bool true) S := by
  have ie := fun S => num25_given 1 S
  have sr := fun S => sure08_ok S
  have az := all38z
  simp only [List.replicate] at az
  have qo := fun S => of_mat_bad l S hm
  have qm := fun S => may_ok l S
  rw [decide_eq_false hm] at qm
  have qt := fun S => turn_bad 0 0 (List.replicate 36 0) S rfl zeroM_bad
  have ck := fun S => check_bad 0 0 (List.replicate 36 0) S rfl zeroM_bad
  simp only [zeroM, matA, List.replicate, List.map_cons, List.map_nil, errA, lstL] at qo qm qt ck
  refine Call.ofC Tryd.func5 YtimdnnlfkkkpbaaDoor.b5 YtimdnnlfkkkpbaaDoor.d5 YtimdnnlfkkkpbaaDoor.e5 (by simp [Tryd.f5]) ?_
  dsimp only [YtimdnnlfkkkpbaaDoor.c5, Tryd.f5, Option.getD_some]
  iterate 3 rw [wpC_assoc]
  refine wpC_split (fun fr H => fr.get 0 = .lst (l.map lstI) l.length ∧ fr.get 7 = .ptr S.length 0 0 ∧ fr.get 8 = .ifc 85 (.int .i64 1) ∧ ∃ b, H = S ++ [some ⟨zero38, 0⟩, b]) ?_ ?_
  · intro K' hK'
    by_cases hI : 1 ≤ i ∧ i ≤ 6
    · obtain ⟨n, hn⟩ : ∃ n : Nat, i = n := ⟨i.toNat, by omega⟩
      have qy : ∀ S, Call theE 24 [.int .i64 i] S (.tup [mk n n (eyeP n), .nili]) S := fun S => by rw [hn]; exact eye_ok n S (by omega)
      have qy8 : ∀ S, Call theE 28 [.int .i64 i] S (mtx n n (eyeP n)) S := fun S => by rw [hn]; exact refEye8_ok n S (by omega)
      have ro := fun S => rowsOf8_ok n n (eyeP n) S (by omega) (by omega)
      have sm := fun S => sameRows8_ok n n (eyeP n) S (by omega) (by omega)
      have tk0 := take36g n (eyeP n) (n * n)
      have al0 := all36g (gridP n (eyeP n) (n * n))
      have e1 : ¬ i < 1 := by omega
      have e2 : ¬ 6 < i := by omega
      simp only [mk, matA, mtx] at qy qy8 ro sm
      simp (maxSteps := 2000000) only [wk0, wk1, wk2, wk3, keepA, keepT, Fr.keep, frzT, flatT, arrayAtA, ownT, extT, Fr.ev, Fr.put, Fr.get, initFr, buildSliceA, zeros, pkB, pkT, pkF, ownDst, Env.kd, ofConst, isConst, binA, intI, cmpI, shiftI, convertA, buildA, fillA, fillS, splice, AV.cells?, storeA, readAt, fieldAddrA, fieldA, indexA, extractA, unA, builtinA, appendA, lenA, sliceCells, isSliceK, makeInterfaceA, nilCheckA, eqA, AV.one, AV.plain, if_false, if_true, Nat.reduceEqDiff, reduceIte, Nat.reduceAdd, List.replicate, Nat.reduceLeDiff, Nat.reduceMul, Nat.reduceSub, Nat.reducePow, Int.reduceLT, Int.reduceLE, Int.reduceToNat, Int.reducePow, IntKind.bits, Int.reduceEq, Int.reduceMul, Int.reduceNeg, ne_eq, reduceCtorEq, escT, BEq.rfl, beq_self_eq_true, Int.reduceAdd, Int.reduceSub, Int.reduceMod, Int.reduceDiv, Nat.reduceMod, Nat.reduceDiv, Nat.reduceLT, cond_true, cond_false, gt_iff_lt, ge_iff_le, lstL, List.map_cons, e1, e2, List.length_map, gridP_len, tk0, al0, YtimdnnlfkkkpbaaDoor.D5, keep5, ty2, ty3, ty4, ty22, ty23, ty25, ty49]
      repeat
        first
        | refine callThen_of (qo _) ?_
        | refine callThen_of (qy _) ?_
        | refine callThen_of (ro _) ?_
        | refine callThen_of (qy8 _) ?_
        | refine callThen_of (sm _) ?_
        simp (maxSteps := 2000000) only [wk0, wk1, wk2, wk3, keepA, keepT, Fr.keep, frzT, flatT, arrayAtA, ownT, extT, Fr.ev, Fr.put, Fr.get, initFr, buildSliceA, zeros, pkB, pkT, pkF, ownDst, Env.kd, ofConst, isConst, binA, intI, cmpI, shiftI, convertA, buildA, fillA, fillS, splice, AV.cells?, storeA, readAt, fieldAddrA, fieldA, indexA, extractA, unA, builtinA, appendA, lenA, sliceCells, isSliceK, makeInterfaceA, nilCheckA, eqA, AV.one, AV.plain, if_false, if_true, Nat.reduceEqDiff, reduceIte, Nat.reduceAdd, List.replicate, Nat.reduceLeDiff, Nat.reduceMul, Nat.reduceSub, Nat.reducePow, Int.reduceLT, Int.reduceLE, Int.reduceToNat, Int.reducePow, IntKind.bits, Int.reduceEq, Int.reduceMul, Int.reduceNeg, ne_eq, reduceCtorEq, escT, BEq.rfl, beq_self_eq_true, Int.reduceAdd, Int.reduceSub, Int.reduceMod, Int.reduceDiv, Nat.reduceMod, Nat.reduceDiv, Nat.reduceLT, cond_true, cond_false, gt_iff_lt, ge_iff_le, lstL, List.map_cons, e1, e2, List.length_map, gridP_len, tk0, al0, YtimdnnlfkkkpbaaDoor.D5, keep5, ty2, ty3, ty4, ty22, ty23, ty25, ty49]
      exact hK' _ _ (by simp [Fr.get, zero38])
    · have qy := fun S => eye_bad i S hI
      simp only [zeroM, matA, List.replicate, List.map_cons, List.map_nil, errA] at qy
      by_cases e1 : i < 1
      · simp (maxSteps := 2000000) only [wk0, wk1, wk2, wk3, keepA, keepT, Fr.keep, frzT, flatT, arrayAtA, ownT, extT, Fr.ev, Fr.put, Fr.get, initFr, buildSliceA, zeros, pkB, pkT, pkF, ownDst, Env.kd, ofConst, isConst, binA, intI, cmpI, shiftI, convertA, buildA, fillA, fillS, splice, AV.cells?, storeA, readAt, fieldAddrA, fieldA, indexA, extractA, unA, builtinA, appendA, lenA, sliceCells, isSliceK, makeInterfaceA, nilCheckA, eqA, AV.one, AV.plain, if_false, if_true, Nat.reduceEqDiff, reduceIte, Nat.reduceAdd, List.replicate, Nat.reduceLeDiff, Nat.reduceMul, Nat.reduceSub, Nat.reducePow, Int.reduceLT, Int.reduceLE, Int.reduceToNat, Int.reducePow, IntKind.bits, Int.reduceEq, Int.reduceMul, Int.reduceNeg, ne_eq, reduceCtorEq, escT, BEq.rfl, beq_self_eq_true, Int.reduceAdd, Int.reduceSub, Int.reduceMod, Int.reduceDiv, Nat.reduceMod, Nat.reduceDiv, Nat.reduceLT, cond_true, cond_false, gt_iff_lt, ge_iff_le, lstL, List.map_cons, e1, az, List.length_map, gridP_len, YtimdnnlfkkkpbaaDoor.D5, keep5, ty2, ty3, ty4, ty22, ty23, ty25, ty49]
        refine callThen_of (qo _) ?_
        simp (maxSteps := 2000000) only [wk0, wk1, wk2, wk3, keepA, keepT, Fr.keep, frzT, flatT, arrayAtA, ownT, extT, Fr.ev, Fr.put, Fr.get, initFr, buildSliceA, zeros, pkB, pkT, pkF, ownDst, Env.kd, ofConst, isConst, binA, intI, cmpI, shiftI, convertA, buildA, fillA, fillS, splice, AV.cells?, storeA, readAt, fieldAddrA, fieldA, indexA, extractA, unA, builtinA, appendA, lenA, sliceCells, isSliceK, makeInterfaceA, nilCheckA, eqA, AV.one, AV.plain, if_false, if_true, Nat.reduceEqDiff, reduceIte, Nat.reduceAdd, List.replicate, Nat.reduceLeDiff, Nat.reduceMul, Nat.reduceSub, Nat.reducePow, Int.reduceLT, Int.reduceLE, Int.reduceToNat, Int.reducePow, IntKind.bits, Int.reduceEq, Int.reduceMul, Int.reduceNeg, ne_eq, reduceCtorEq, escT, BEq.rfl, beq_self_eq_true, Int.reduceAdd, Int.reduceSub, Int.reduceMod, Int.reduceDiv, Nat.reduceMod, Nat.reduceDiv, Nat.reduceLT, cond_true, cond_false, gt_iff_lt, ge_iff_le, lstL, List.map_cons, e1, az, List.length_map, gridP_len, YtimdnnlfkkkpbaaDoor.D5, keep5, ty2, ty3, ty4, ty22, ty23, ty25, ty49]
        refine callThen_of (qy _) ?_
        simp (maxSteps := 2000000) only [wk0, wk1, wk2, wk3, keepA, keepT, Fr.keep, frzT, flatT, arrayAtA, ownT, extT, Fr.ev, Fr.put, Fr.get, initFr, buildSliceA, zeros, pkB, pkT, pkF, ownDst, Env.kd, ofConst, isConst, binA, intI, cmpI, shiftI, convertA, buildA, fillA, fillS, splice, AV.cells?, storeA, readAt, fieldAddrA, fieldA, indexA, extractA, unA, builtinA, appendA, lenA, sliceCells, isSliceK, makeInterfaceA, nilCheckA, eqA, AV.one, AV.plain, if_false, if_true, Nat.reduceEqDiff, reduceIte, Nat.reduceAdd, List.replicate, Nat.reduceLeDiff, Nat.reduceMul, Nat.reduceSub, Nat.reducePow, Int.reduceLT, Int.reduceLE, Int.reduceToNat, Int.reducePow, IntKind.bits, Int.reduceEq, Int.reduceMul, Int.reduceNeg, ne_eq, reduceCtorEq, escT, BEq.rfl, beq_self_eq_true, Int.reduceAdd, Int.reduceSub, Int.reduceMod, Int.reduceDiv, Nat.reduceMod, Nat.reduceDiv, Nat.reduceLT, cond_true, cond_false, gt_iff_lt, ge_iff_le, lstL, List.map_cons, e1, az, List.length_map, gridP_len, YtimdnnlfkkkpbaaDoor.D5, keep5, ty2, ty3, ty4, ty22, ty23, ty25, ty49]
        refine callThen_of (ie _) ?_
        simp (maxSteps := 2000000) only [wk0, wk1, wk2, wk3, keepA, keepT, Fr.keep, frzT, flatT, arrayAtA, ownT, extT, Fr.ev, Fr.put, Fr.get, initFr, buildSliceA, zeros, pkB, pkT, pkF, ownDst, Env.kd, ofConst, isConst, binA, intI, cmpI, shiftI, convertA, buildA, fillA, fillS, splice, AV.cells?, storeA, readAt, fieldAddrA, fieldA, indexA, extractA, unA, builtinA, appendA, lenA, sliceCells, isSliceK, makeInterfaceA, nilCheckA, eqA, AV.one, AV.plain, if_false, if_true, Nat.reduceEqDiff, reduceIte, Nat.reduceAdd, List.replicate, Nat.reduceLeDiff, Nat.reduceMul, Nat.reduceSub, Nat.reducePow, Int.reduceLT, Int.reduceLE, Int.reduceToNat, Int.reducePow, IntKind.bits, Int.reduceEq, Int.reduceMul, Int.reduceNeg, ne_eq, reduceCtorEq, escT, BEq.rfl, beq_self_eq_true, Int.reduceAdd, Int.reduceSub, Int.reduceMod, Int.reduceDiv, Nat.reduceMod, Nat.reduceDiv, Nat.reduceLT, cond_true, cond_false, gt_iff_lt, ge_iff_le, lstL, List.map_cons, e1, az, List.length_map, gridP_len, YtimdnnlfkkkpbaaDoor.D5, keep5, ty2, ty3, ty4, ty22, ty23, ty25, ty49]
        exact hK' _ _ (by simp [Fr.get, zero38])
      · have e2 : 6 < i := by omega
        simp (maxSteps := 2000000) only [wk0, wk1, wk2, wk3, keepA, keepT, Fr.keep, frzT, flatT, arrayAtA, ownT, extT, Fr.ev, Fr.put, Fr.get, initFr, buildSliceA, zeros, pkB, pkT, pkF, ownDst, Env.kd, ofConst, isConst, binA, intI, cmpI, shiftI, convertA, buildA, fillA, fillS, splice, AV.cells?, storeA, readAt, fieldAddrA, fieldA, indexA, extractA, unA, builtinA, appendA, lenA, sliceCells, isSliceK, makeInterfaceA, nilCheckA, eqA, AV.one, AV.plain, if_false, if_true, Nat.reduceEqDiff, reduceIte, Nat.reduceAdd, List.replicate, Nat.reduceLeDiff, Nat.reduceMul, Nat.reduceSub, Nat.reducePow, Int.reduceLT, Int.reduceLE, Int.reduceToNat, Int.reducePow, IntKind.bits, Int.reduceEq, Int.reduceMul, Int.reduceNeg, ne_eq, reduceCtorEq, escT, BEq.rfl, beq_self_eq_true, Int.reduceAdd, Int.reduceSub, Int.reduceMod, Int.reduceDiv, Nat.reduceMod, Nat.reduceDiv, Nat.reduceLT, cond_true, cond_false, gt_iff_lt, ge_iff_le, lstL, List.map_cons, e1, e2, az, List.length_map, gridP_len, YtimdnnlfkkkpbaaDoor.D5, keep5, ty2, ty3, ty4, ty22, ty23, ty25, ty49]
        refine callThen_of (qo _) ?_
        simp (maxSteps := 2000000) only [wk0, wk1, wk2, wk3, keepA, keepT, Fr.keep, frzT, flatT, arrayAtA, ownT, extT, Fr.ev, Fr.put, Fr.get, initFr, buildSliceA, zeros, pkB, pkT, pkF, ownDst, Env.kd, ofConst, isConst, binA, intI, cmpI, shiftI, convertA, buildA, fillA, fillS, splice, AV.cells?, storeA, readAt, fieldAddrA, fieldA, indexA, extractA, unA, builtinA, appendA, lenA, sliceCells, isSliceK, makeInterfaceA, nilCheckA, eqA, AV.one, AV.plain, if_false, if_true, Nat.reduceEqDiff, reduceIte, Nat.reduceAdd, List.replicate, Nat.reduceLeDiff, Nat.reduceMul, Nat.reduceSub, Nat.reducePow, Int.reduceLT, Int.reduceLE, Int.reduceToNat, Int.reducePow, IntKind.bits, Int.reduceEq, Int.reduceMul, Int.reduceNeg, ne_eq, reduceCtorEq, escT, BEq.rfl, beq_self_eq_true, Int.reduceAdd, Int.reduceSub, Int.reduceMod, Int.reduceDiv, Nat.reduceMod, Nat.reduceDiv, Nat.reduceLT, cond_true, cond_false, gt_iff_lt, ge_iff_le, lstL, List.map_cons, e1, e2, az, List.length_map, gridP_len, YtimdnnlfkkkpbaaDoor.D5, keep5, ty2, ty3, ty4, ty22, ty23, ty25, ty49]
        refine callThen_of (qy _) ?_
        simp (maxSteps := 2000000) only [wk0, wk1, wk2, wk3, keepA, keepT, Fr.keep, frzT, flatT, arrayAtA, ownT, extT, Fr.ev, Fr.put, Fr.get, initFr, buildSliceA, zeros, pkB, pkT, pkF, ownDst, Env.kd, ofConst, isConst, binA, intI, cmpI, shiftI, convertA, buildA, fillA, fillS, splice, AV.cells?, storeA, readAt, fieldAddrA, fieldA, indexA, extractA, unA, builtinA, appendA, lenA, sliceCells, isSliceK, makeInterfaceA, nilCheckA, eqA, AV.one, AV.plain, if_false, if_true, Nat.reduceEqDiff, reduceIte, Nat.reduceAdd, List.replicate, Nat.reduceLeDiff, Nat.reduceMul, Nat.reduceSub, Nat.reducePow, Int.reduceLT, Int.reduceLE, Int.reduceToNat, Int.reducePow, IntKind.bits, Int.reduceEq, Int.reduceMul, Int.reduceNeg, ne_eq, reduceCtorEq, escT, BEq.rfl, beq_self_eq_true, Int.reduceAdd, Int.reduceSub, Int.reduceMod, Int.reduceDiv, Nat.reduceMod, Nat.reduceDiv, Nat.reduceLT, cond_true, cond_false, gt_iff_lt, ge_iff_le, lstL, List.map_cons, e1, e2, az, List.length_map, gridP_len, YtimdnnlfkkkpbaaDoor.D5, keep5, ty2, ty3, ty4, ty22, ty23, ty25, ty49]
        refine callThen_of (ie _) ?_
        simp (maxSteps := 2000000) only [wk0, wk1, wk2, wk3, keepA, keepT, Fr.keep, frzT, flatT, arrayAtA, ownT, extT, Fr.ev, Fr.put, Fr.get, initFr, buildSliceA, zeros, pkB, pkT, pkF, ownDst, Env.kd, ofConst, isConst, binA, intI, cmpI, shiftI, convertA, buildA, fillA, fillS, splice, AV.cells?, storeA, readAt, fieldAddrA, fieldA, indexA, extractA, unA, builtinA, appendA, lenA, sliceCells, isSliceK, makeInterfaceA, nilCheckA, eqA, AV.one, AV.plain, if_false, if_true, Nat.reduceEqDiff, reduceIte, Nat.reduceAdd, List.replicate, Nat.reduceLeDiff, Nat.reduceMul, Nat.reduceSub, Nat.reducePow, Int.reduceLT, Int.reduceLE, Int.reduceToNat, Int.reducePow, IntKind.bits, Int.reduceEq, Int.reduceMul, Int.reduceNeg, ne_eq, reduceCtorEq, escT, BEq.rfl, beq_self_eq_true, Int.reduceAdd, Int.reduceSub, Int.reduceMod, Int.reduceDiv, Nat.reduceMod, Nat.reduceDiv, Nat.reduceLT, cond_true, cond_false, gt_iff_lt, ge_iff_le, lstL, List.map_cons, e1, e2, az, List.length_map, gridP_len, YtimdnnlfkkkpbaaDoor.D5, keep5, ty2, ty3, ty4, ty22, ty23, ty25, ty49]
        exact hK' _ _ (by simp [Fr.get, zero38])
  · rintro fr H ⟨g0, g7, g8, b, rfl⟩
    simp only [zero38, List.replicate]
    simp (maxSteps := 2000000) only [wk0, wk1, wk2, wk3, keepA, keepT, Fr.keep, frzT, flatT, arrayAtA, ownT, extT, Fr.ev, Fr.put, Fr.get, initFr, buildSliceA, zeros, pkB, pkT, pkF, ownDst, Env.kd, ofConst, isConst, binA, intI, cmpI, shiftI, convertA, buildA, fillA, fillS, splice, AV.cells?, storeA, readAt, fieldAddrA, fieldA, indexA, extractA, unA, builtinA, appendA, lenA, sliceCells, isSliceK, makeInterfaceA, nilCheckA, eqA, AV.one, AV.plain, if_false, if_true, Nat.reduceEqDiff, reduceIte, Nat.reduceAdd, List.replicate, Nat.reduceLeDiff, Nat.reduceMul, Nat.reduceSub, Nat.reducePow, Int.reduceLT, Int.reduceLE, Int.reduceToNat, Int.reducePow, IntKind.bits, Int.reduceEq, Int.reduceMul, Int.reduceNeg, ne_eq, reduceCtorEq, escT, BEq.rfl, beq_self_eq_true, Int.reduceAdd, Int.reduceSub, Int.reduceMod, Int.reduceDiv, Nat.reduceMod, Nat.reduceDiv, Nat.reduceLT, cond_true, cond_false, gt_iff_lt, ge_iff_le, g0, g7, g8, az, YtimdnnlfkkkpbaaDoor.D5, keep5, ty2, ty3, ty4, ty22, ty23, ty25, ty49]
    repeat
      first
      | refine callThen_of (qm _) ?_
      | refine callThen_of (qt _) ?_
      | refine callThen_of (ie _) ?_
      | refine callThen_of (ck _) ?_
      | refine callThen_of (sr _) ?_
      simp (maxSteps := 2000000) only [wk0, wk1, wk2, wk3, keepA, keepT, Fr.keep, frzT, flatT, arrayAtA, ownT, extT, Fr.ev, Fr.put, Fr.get, initFr, buildSliceA, zeros, pkB, pkT, pkF, ownDst, Env.kd, ofConst, isConst, binA, intI, cmpI, shiftI, convertA, buildA, fillA, fillS, splice, AV.cells?, storeA, readAt, fieldAddrA, fieldA, indexA, extractA, unA, builtinA, appendA, lenA, sliceCells, isSliceK, makeInterfaceA, nilCheckA, eqA, AV.one, AV.plain, if_false, if_true, Nat.reduceEqDiff, reduceIte, Nat.reduceAdd, List.replicate, Nat.reduceLeDiff, Nat.reduceMul, Nat.reduceSub, Nat.reducePow, Int.reduceLT, Int.reduceLE, Int.reduceToNat, Int.reducePow, IntKind.bits, Int.reduceEq, Int.reduceMul, Int.reduceNeg, ne_eq, reduceCtorEq, escT, BEq.rfl, beq_self_eq_true, Int.reduceAdd, Int.reduceSub, Int.reduceMod, Int.reduceDiv, Nat.reduceMod, Nat.reduceDiv, Nat.reduceLT, cond_true, cond_false, gt_iff_lt, ge_iff_le, g0, g7, g8, az, YtimdnnlfkkkpbaaDoor.D5, keep5, ty2, ty3, ty4, ty22, ty23, ty25, ty49]
    exact retB_plain (by simp [nmd_bool]) rfl (by simp)
theorem matParts_ok (l : List (List Int)) (i j : Int) (S : Heap) (h1 : ∀ r ∈ l, ∀ x ∈ r, inI x) (hi : inI i) (hj : inI j) : Call theE 5 [lstL l, .int .i64 i, .int .i64 j] S (.bool true) S := by
  by_cases hm : MayR l
  · have e := mtx_of hm
    have qo := fun S => of_mat_ok l (l.getD 0 []).length S hm.1 hm.2.1 hm.2.2
    have qm := fun S => may_ok l S
    rw [decide_eq_true hm] at qm
    rw [e] at qo qm ⊢
    exact matParts_may _ _ _ i j S hm.1 hm.2.1 (fun i j hi hj => rows_in h1 i j) qo qm
  · exact matParts_none l i j S hm
end Go.Proofs.YtimdnnlfkkkpbaaDoor
