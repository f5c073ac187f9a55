/- Layer 7's theorem: the walk. -/
import Derived.Test.YtimdnnlfkkkpbaaR2
set_option linter.unusedSimpArgs false
set_option linter.unusedVariables false
set_option maxRecDepth 100000
set_option maxHeartbeats 4000000
namespace Go.Proofs.Ytimdnnlfkkkpbaa
theorem vecLaws_ok (a b : List Int) (c : Int) (S : Heap) (ha : ∀ x ∈ a, inI x) (hb : ∀ x ∈ b, inI x) (hc : inI c) :
    Call theE 3 [lstI a, lstI b, .int .i64 c] S (.bool true) S := by
  obtain ⟨n, hn⟩ : ∃ n : Nat, n = min (min a.length b.length) 6 := ⟨_, rfl⟩
  have e0 : min (min (a.length : Int) (b.length : Int)) 6 = n := by omega
  have h0 : ¬ (1152921504606846976 : Int) = 0 := by decide
  have h0' : ¬ (1073741824 : Int) = 0 := by decide
  have tkI : ∀ (l : List Int), l.length = n → List.take n (l.map fun x => AV.int .i64 x) = l.map fun x => AV.int .i64 x := fun l h => List.take_of_length_le (by simp [h])
  have xl : (cutL a n).length = n := cutL_len (by omega)
  have yl : (cutL b n).length = n := cutL_len (by omega)
  have tk1 := tkI _ xl
  have tk2 := tkI _ yl
  have pl : ∀ (l : List Int), ∀ x ∈ l.map (fun x => AV.int .i64 x), Nmd 0 x := by
    intro l x hx
    obtain ⟨y, _, rfl⟩ := List.mem_map.1 hx
    exact .int _ _
  refine Call.ofC Try.func3 b3 d3 e3 (by simp [Try.f3]) ?_
  dsimp only [c3, Try.f3, Option.getD_some]
  simp (maxSteps := 2000000) only [wk0, wk1, wk2, wk3, keepA, frzT, flatT, arrayAtA, ownT, extT, Fr.ev, Fr.put, Fr.get, initFr, buildSliceA, zeros, pickA, ownDst, Env.kd, ofConst, isConst, binA, intI, cmpI, shiftI, convertA, buildA, fillA, fillS, splice, AV.cells?, storeA, readAt, fieldAddrA, fieldA, indexA, extractA, unA, builtinA, appendA, lenA, sliceCells, isSliceK, makeInterfaceA, nilCheckA, eqA, AV.one, AV.plain, if_false, if_true, Nat.reduceEqDiff, reduceIte, Nat.reduceAdd, List.replicate, Nat.reduceLeDiff, Nat.reduceMul, Nat.reduceSub, Nat.reducePow, Int.reduceLT, Int.reduceLE, Int.reduceToNat, Int.reducePow, IntKind.bits, Int.reduceEq, Int.reduceMul, Int.reduceNeg, ne_eq, reduceCtorEq, escT, BEq.rfl, beq_self_eq_true, Int.reduceAdd, Int.reduceSub, Int.reduceMod, Int.reduceDiv, Nat.reduceMod, Nat.reduceDiv, Nat.reduceLT, cond_true, cond_false, gt_iff_lt, ge_iff_le, lstI, e0, D3, ty1, ty2, ty3, ty4, ty22, ty24, ty29]
  refine loopC_split 0 (fun fr H => ∃ c1 c2, fr.get 0 = lstI a ∧ fr.get 1 = lstI b ∧ fr.get 2 = .int .i64 c ∧ fr.get 7 = .int .i64 n ∧ fr.get 8 = .sl S.length n 0 n c1 1 ∧ fr.get 9 = .sl (S.length + 1) n 0 n c2 1 ∧
    H = S ++ [some ⟨(cutL a n).map fun x => .int .i64 x, n⟩, some ⟨(cutL b n).map fun x => .int .i64 x, n⟩]) (fun K' hK => ?_) ?_
  · refine loopC_ind (fun m fr H => ∃ i c1 c2 : Nat, i + m = n ∧ fr.get 10 = .int .i64 i ∧ fr.get 0 = lstI a ∧ fr.get 1 = lstI b ∧ fr.get 2 = .int .i64 c ∧ fr.get 7 = .int .i64 n ∧ fr.get 8 = .sl S.length i 0 i c1 1 ∧ fr.get 9 = .sl (S.length + 1) i 0 i c2 1 ∧
      H = S ++ [some ⟨(cutL a i).map fun x => .int .i64 x, i⟩, some ⟨(cutL b i).map fun x => .int .i64 x, i⟩]) ?_ (n := n) ⟨0, 0, 0, by omega, rfl, rfl, rfl, rfl, rfl, rfl, rfl, rfl⟩
    rintro m fr H ⟨i, c1, c2, him, g10, g0, g1, g2, g7, g8, g9, rfl⟩ ih
    by_cases hi : (i : Int) < n
    · have hia : i < a.length := by omega
      have hib : i < b.length := by omega
      have k1 : (0 : Int) ≤ i := by omega
      have k2 : (i : Int) < a.length := by omega
      have k3 : (i : Int) < b.length := by omega
      have wi : IntKind.i64.wrap ((i : Int) + 1) = ((i + 1 : Nat) : Int) := wrapI (by omega)
      have ga := get_lstI hia
      have gb := get_lstI hib
      have l1 : (cutL a i).length = i := cutL_len (by omega)
      have l2 : (cutL b i).length = i := cutL_len (by omega)
      have s1 : ((cutL a i).map fun x => AV.int .i64 x) ++ [.int .i64 ((a[i]).tmod 1152921504606846976)] = (cutL a (i + 1)).map fun x => .int .i64 x := by rw [cutL_succ hia, List.map_append]; rfl
      have s2 : ((cutL b i).map fun x => AV.int .i64 x) ++ [.int .i64 ((b[i]).tmod 1152921504606846976)] = (cutL b (i + 1)).map fun x => .int .i64 x := by rw [cutL_succ hib, List.map_append]; rfl
      have a1 : (i + 1) * 8 ≤ maxBytes := by unfold maxBytes; omega
      have a2 : i + 1 ≤ 9223372036854775807 := by omega
      simp (maxSteps := 2000000) only [wk0, wk1, wk2, wk3, keepA, frzT, flatT, arrayAtA, ownT, extT, Fr.ev, Fr.put, Fr.get, initFr, buildSliceA, zeros, pickA, ownDst, Env.kd, ofConst, isConst, binA, intI, cmpI, shiftI, convertA, buildA, fillA, fillS, splice, AV.cells?, storeA, readAt, fieldAddrA, fieldA, indexA, extractA, unA, builtinA, appendA, lenA, sliceCells, isSliceK, makeInterfaceA, nilCheckA, eqA, AV.one, AV.plain, if_false, if_true, Nat.reduceEqDiff, reduceIte, Nat.reduceAdd, List.replicate, Nat.reduceLeDiff, Nat.reduceMul, Nat.reduceSub, Nat.reducePow, Int.reduceLT, Int.reduceLE, Int.reduceToNat, Int.reducePow, IntKind.bits, Int.reduceEq, Int.reduceMul, Int.reduceNeg, ne_eq, reduceCtorEq, escT, BEq.rfl, beq_self_eq_true, Int.reduceAdd, Int.reduceSub, Int.reduceMod, Int.reduceDiv, Nat.reduceMod, Nat.reduceDiv, Nat.reduceLT, cond_true, cond_false, gt_iff_lt, ge_iff_le, lstI, g10, g0, g1, g2, g7, g8, g9, hi, k1, k2, k3, Int.toNat_natCast, Nat.mul_one, ga, gb, h0, List.length_map, l1, l2, s1, s2, a1, a2, wi, D3, ty1, ty2, ty3, ty4, ty22, ty24, ty29]
      exact ih (m - 1) _ _ (by omega) ⟨i + 1, i + 1, i + 1, by omega, by simp [Fr.get], by simp [Fr.get, g0, lstI], by simp [Fr.get, g1, lstI], by simp [Fr.get, g2], by simp [Fr.get, g7], by simp [Fr.get], by simp [Fr.get], rfl⟩
    · obtain rfl : i = n := by omega
      simp (maxSteps := 2000000) only [wk0, wk1, wk2, wk3, keepA, frzT, flatT, arrayAtA, ownT, extT, Fr.ev, Fr.put, Fr.get, initFr, buildSliceA, zeros, pickA, ownDst, Env.kd, ofConst, isConst, binA, intI, cmpI, shiftI, convertA, buildA, fillA, fillS, splice, AV.cells?, storeA, readAt, fieldAddrA, fieldA, indexA, extractA, unA, builtinA, appendA, lenA, sliceCells, isSliceK, makeInterfaceA, nilCheckA, eqA, AV.one, AV.plain, if_false, if_true, Nat.reduceEqDiff, reduceIte, Nat.reduceAdd, List.replicate, Nat.reduceLeDiff, Nat.reduceMul, Nat.reduceSub, Nat.reducePow, Int.reduceLT, Int.reduceLE, Int.reduceToNat, Int.reducePow, IntKind.bits, Int.reduceEq, Int.reduceMul, Int.reduceNeg, ne_eq, reduceCtorEq, escT, BEq.rfl, beq_self_eq_true, Int.reduceAdd, Int.reduceSub, Int.reduceMod, Int.reduceDiv, Nat.reduceMod, Nat.reduceDiv, Nat.reduceLT, cond_true, cond_false, gt_iff_lt, ge_iff_le, lstI, g10, g0, g1, g2, g7, g8, g9, hi, D3, ty1, ty2, ty3, ty4, ty22, ty24, ty29]
      exact hK _ _ ⟨c1, c2, by simp [Fr.get, g0, lstI], by simp [Fr.get, g1, lstI], by simp [Fr.get, g2], by simp [Fr.get, g7], by simp [Fr.get, g8], by simp [Fr.get, g9], rfl⟩
  · rintro fr H ⟨c1, c2, g0, g1, g2, g7, g8, g9, rfl⟩
    obtain ⟨x, hx⟩ : ∃ x, cutL a n = x := ⟨_, rfl⟩
    obtain ⟨y, hy⟩ : ∃ y, cutL b n = y := ⟨_, rfl⟩
    have xs : ∀ z ∈ x, smallI z := by rw [← hx]; exact cutL_small
    have ys : ∀ z ∈ y, smallI z := by rw [← hy]; exact cutL_small
    simp only [hx, hy] at xl yl tk1 tk2 ⊢
    have px := pl x
    have py := pl y
    simp (maxSteps := 2000000) only [wk0, wk1, wk2, wk3, keepA, frzT, flatT, arrayAtA, ownT, extT, Fr.ev, Fr.put, Fr.get, initFr, buildSliceA, zeros, pickA, ownDst, Env.kd, ofConst, isConst, binA, intI, cmpI, shiftI, convertA, buildA, fillA, fillS, splice, AV.cells?, storeA, readAt, fieldAddrA, fieldA, indexA, extractA, unA, builtinA, appendA, lenA, sliceCells, isSliceK, makeInterfaceA, nilCheckA, eqA, AV.one, AV.plain, if_false, if_true, Nat.reduceEqDiff, reduceIte, Nat.reduceAdd, List.replicate, Nat.reduceLeDiff, Nat.reduceMul, Nat.reduceSub, Nat.reducePow, Int.reduceLT, Int.reduceLE, Int.reduceToNat, Int.reducePow, IntKind.bits, Int.reduceEq, Int.reduceMul, Int.reduceNeg, ne_eq, reduceCtorEq, escT, BEq.rfl, beq_self_eq_true, Int.reduceAdd, Int.reduceSub, Int.reduceMod, Int.reduceDiv, Nat.reduceMod, Nat.reduceDiv, Nat.reduceLT, cond_true, cond_false, gt_iff_lt, ge_iff_le, g0, g1, g2, g7, g8, g9, List.length_map, xl, yl, tk1, tk2, Nat.mul_one, Nat.le_refl, Nat.le_add_right, eq_true px, eq_true py, D3, ty1, ty2, ty3, ty4, ty22, ty24, ty29]
    have hlr : y.length = x.length := by omega
    obtain ⟨z1, z2, z3, z4, z5, z6⟩ := addL_small hlr xs ys
    have xin : ∀ z ∈ x, inI z := fun z h => small_in (xs z h)
    have yin : ∀ z ∈ y, inI z := fun z h => small_in (ys z h)
    have q1 := fun S => vecAdd_ok x y S (by omega) hlr xin yin
    have q2 := fun S => vecSub_ok (addL x y) y S (by omega) (by omega) z4 yin
    have q3 := fun S => nums07_ok x x S (by unfold maxLen; omega)
    rw [z3] at q1
    rw [z5, z6] at q2
    rw [decide_eq_true rfl] at q3
    simp only [lstI, xl, yl, z1] at q1 q2 q3
    refine callThen_of (q1 _) ?_
    simp (maxSteps := 2000000) only [wk0, wk1, wk2, wk3, keepA, frzT, flatT, arrayAtA, ownT, extT, Fr.ev, Fr.put, Fr.get, initFr, buildSliceA, zeros, pickA, ownDst, Env.kd, ofConst, isConst, binA, intI, cmpI, shiftI, convertA, buildA, fillA, fillS, splice, AV.cells?, storeA, readAt, fieldAddrA, fieldA, indexA, extractA, unA, builtinA, appendA, lenA, sliceCells, isSliceK, makeInterfaceA, nilCheckA, eqA, AV.one, AV.plain, if_false, if_true, Nat.reduceEqDiff, reduceIte, Nat.reduceAdd, List.replicate, Nat.reduceLeDiff, Nat.reduceMul, Nat.reduceSub, Nat.reducePow, Int.reduceLT, Int.reduceLE, Int.reduceToNat, Int.reducePow, IntKind.bits, Int.reduceEq, Int.reduceMul, Int.reduceNeg, ne_eq, reduceCtorEq, escT, BEq.rfl, beq_self_eq_true, Int.reduceAdd, Int.reduceSub, Int.reduceMod, Int.reduceDiv, Nat.reduceMod, Nat.reduceDiv, Nat.reduceLT, cond_true, cond_false, gt_iff_lt, ge_iff_le, D3, ty1, ty2, ty3, ty4, ty22, ty24, ty29]
    refine callThen_of (q2 _) ?_
    simp (maxSteps := 2000000) only [wk0, wk1, wk2, wk3, keepA, frzT, flatT, arrayAtA, ownT, extT, Fr.ev, Fr.put, Fr.get, initFr, buildSliceA, zeros, pickA, ownDst, Env.kd, ofConst, isConst, binA, intI, cmpI, shiftI, convertA, buildA, fillA, fillS, splice, AV.cells?, storeA, readAt, fieldAddrA, fieldA, indexA, extractA, unA, builtinA, appendA, lenA, sliceCells, isSliceK, makeInterfaceA, nilCheckA, eqA, AV.one, AV.plain, if_false, if_true, Nat.reduceEqDiff, reduceIte, Nat.reduceAdd, List.replicate, Nat.reduceLeDiff, Nat.reduceMul, Nat.reduceSub, Nat.reducePow, Int.reduceLT, Int.reduceLE, Int.reduceToNat, Int.reducePow, IntKind.bits, Int.reduceEq, Int.reduceMul, Int.reduceNeg, ne_eq, reduceCtorEq, escT, BEq.rfl, beq_self_eq_true, Int.reduceAdd, Int.reduceSub, Int.reduceMod, Int.reduceDiv, Nat.reduceMod, Nat.reduceDiv, Nat.reduceLT, cond_true, cond_false, gt_iff_lt, ge_iff_le, D3, ty1, ty2, ty3, ty4, ty22, ty24, ty29]
    refine callThen_of (q3 _) ?_
    have tm := tmod_bound c 1073741824 (by decide)
    obtain ⟨k0, hk0⟩ : ∃ k0, c.tmod 1073741824 = k0 := ⟨_, rfl⟩
    rw [hk0] at tm
    by_cases hneg : k0 < 0
    · have wk : IntKind.i64.wrap (0 - k0) = -k0 := by rw [wrapI (by omega)]; omega
      have wj : IntKind.i64.wrap (1073741824 - -k0) = 1073741824 - -k0 := wrapI (by omega)
      simp (maxSteps := 2000000) only [wk0, wk1, wk2, wk3, keepA, frzT, flatT, arrayAtA, ownT, extT, Fr.ev, Fr.put, Fr.get, initFr, buildSliceA, zeros, pickA, ownDst, Env.kd, ofConst, isConst, binA, intI, cmpI, shiftI, convertA, buildA, fillA, fillS, splice, AV.cells?, storeA, readAt, fieldAddrA, fieldA, indexA, extractA, unA, builtinA, appendA, lenA, sliceCells, isSliceK, makeInterfaceA, nilCheckA, eqA, AV.one, AV.plain, if_false, if_true, Nat.reduceEqDiff, reduceIte, Nat.reduceAdd, List.replicate, Nat.reduceLeDiff, Nat.reduceMul, Nat.reduceSub, Nat.reducePow, Int.reduceLT, Int.reduceLE, Int.reduceToNat, Int.reducePow, IntKind.bits, Int.reduceEq, Int.reduceMul, Int.reduceNeg, ne_eq, reduceCtorEq, escT, BEq.rfl, beq_self_eq_true, Int.reduceAdd, Int.reduceSub, Int.reduceMod, Int.reduceDiv, Nat.reduceMod, Nat.reduceDiv, Nat.reduceLT, cond_true, cond_false, gt_iff_lt, ge_iff_le, g2, g7, h0', hk0, hneg, wk, wj, D3, ty1, ty2, ty3, ty4, ty22, ty24, ty29]
      obtain ⟨j1, j2, j3, j4, j5⟩ := join_laws (k := (-k0)) xl yl xs ys (by omega)
      have q4 := fun S => join_ok [x, y] [(-k0), 1073741824 - (-k0)] n S (by simp) rfl (by omega) (by simp [xl, yl]) (by simp; exact ⟨xin, yin⟩) (by simp [inI]; omega)
      rw [j1] at q4
      obtain ⟨J, hJ⟩ : ∃ J, joinL [x, y] [(-k0), 1073741824 - (-k0)] n = J := ⟨_, rfl⟩
      rw [hJ] at j2 j3 j4 j5
      simp only [hJ] at q4
      simp only [lstI, lstL, xl, yl, j2, List.map_cons, List.map_nil, List.length_cons, List.length_nil, Nat.zero_add, Nat.reduceAdd] at q4
      refine callThen_of (q4 _) ?_
      simp (maxSteps := 2000000) only [wk0, wk1, wk2, wk3, keepA, frzT, flatT, arrayAtA, ownT, extT, Fr.ev, Fr.put, Fr.get, initFr, buildSliceA, zeros, pickA, ownDst, Env.kd, ofConst, isConst, binA, intI, cmpI, shiftI, convertA, buildA, fillA, fillS, splice, AV.cells?, storeA, readAt, fieldAddrA, fieldA, indexA, extractA, unA, builtinA, appendA, lenA, sliceCells, isSliceK, makeInterfaceA, nilCheckA, eqA, AV.one, AV.plain, if_false, if_true, Nat.reduceEqDiff, reduceIte, Nat.reduceAdd, List.replicate, Nat.reduceLeDiff, Nat.reduceMul, Nat.reduceSub, Nat.reducePow, Int.reduceLT, Int.reduceLE, Int.reduceToNat, Int.reducePow, IntKind.bits, Int.reduceEq, Int.reduceMul, Int.reduceNeg, ne_eq, reduceCtorEq, escT, BEq.rfl, beq_self_eq_true, Int.reduceAdd, Int.reduceSub, Int.reduceMod, Int.reduceDiv, Nat.reduceMod, Nat.reduceDiv, Nat.reduceLT, cond_true, cond_false, gt_iff_lt, ge_iff_le, g7, D3, ty1, ty2, ty3, ty4, ty22, ty24, ty29]
      refine loopC_split 2 (fun fr H => fr.get 8 = .lst (x.map fun x => .int .i64 x) n ∧ fr.get 9 = .lst (y.map fun x => .int .i64 x) n ∧ fr.get 18 = .lst (J.map fun x => .int .i64 x) n ∧ H = S ++ [none, none]) (fun K' hK => ?_) ?_
      · refine loopC_ind (fun m fr H => ∃ i : Nat, i + m = n ∧ fr.get 21 = .int .i64 i ∧ fr.get 7 = .int .i64 n ∧ fr.get 8 = .lst (x.map fun x => .int .i64 x) n ∧ fr.get 9 = .lst (y.map fun x => .int .i64 x) n ∧ fr.get 18 = .lst (J.map fun x => .int .i64 x) n ∧ H = S ++ [none, none]) ?_ (n := n) ⟨0, by omega, by simp [Fr.get], by simp [Fr.get, g7], by simp [Fr.get], by simp [Fr.get], by simp [Fr.get], rfl⟩
        rintro m fr H ⟨i, him, g21, g7, g8, g9, g18, rfl⟩ ih
        by_cases hi : (i : Int) < n
        · have k1 : (0 : Int) ≤ i := by omega
          have k2 : i < n := by omega
          have wi : IntKind.i64.wrap ((i : Int) + 1) = ((i + 1 : Nat) : Int) := wrapI (by omega)
          have gx := get_lstI (l := x) (i := i) (by omega)
          have gy := get_lstI (l := y) (i := i) (by omega)
          have gJ := get_lstI (l := J) (i := i) (by omega)
          have j := j3 i k2
          rw [getD_of (by omega), getD_of (by omega), getD_of (by omega)] at j
          have sx := xs _ (List.getElem_mem (show i < x.length by omega))
          have sy := ys _ (List.getElem_mem (show i < y.length by omega))
          unfold smallI at sx sy
          have w1 : IntKind.i64.wrap (min x[i] y[i] - 1) = min x[i] y[i] - 1 := wrapI (by omega)
          have w2 : IntKind.i64.wrap (max x[i] y[i] + 1) = max x[i] y[i] + 1 := wrapI (by omega)
          have t1 : ¬ J[i] < min x[i] y[i] - 1 := by omega
          have t2 : ¬ max x[i] y[i] + 1 < J[i] := by omega
          simp (maxSteps := 2000000) only [wk0, wk1, wk2, wk3, keepA, frzT, flatT, arrayAtA, ownT, extT, Fr.ev, Fr.put, Fr.get, initFr, buildSliceA, zeros, pickA, ownDst, Env.kd, ofConst, isConst, binA, intI, cmpI, shiftI, convertA, buildA, fillA, fillS, splice, AV.cells?, storeA, readAt, fieldAddrA, fieldA, indexA, extractA, unA, builtinA, appendA, lenA, sliceCells, isSliceK, makeInterfaceA, nilCheckA, eqA, AV.one, AV.plain, if_false, if_true, Nat.reduceEqDiff, reduceIte, Nat.reduceAdd, List.replicate, Nat.reduceLeDiff, Nat.reduceMul, Nat.reduceSub, Nat.reducePow, Int.reduceLT, Int.reduceLE, Int.reduceToNat, Int.reducePow, IntKind.bits, Int.reduceEq, Int.reduceMul, Int.reduceNeg, ne_eq, reduceCtorEq, escT, BEq.rfl, beq_self_eq_true, Int.reduceAdd, Int.reduceSub, Int.reduceMod, Int.reduceDiv, Nat.reduceMod, Nat.reduceDiv, Nat.reduceLT, cond_true, cond_false, gt_iff_lt, ge_iff_le, g21, g7, g8, g9, g18, hi, k1, Int.toNat_natCast, Nat.mul_one, gx, gy, gJ, w1, w2, t1, t2, wi, D3, ty1, ty2, ty3, ty4, ty22, ty24, ty29]
          exact ih (m - 1) _ _ (by omega) ⟨i + 1, by omega, by simp [Fr.get], by simp [Fr.get, g7], by simp [Fr.get, g8], by simp [Fr.get, g9], by simp [Fr.get, g18], rfl⟩
        · simp (maxSteps := 2000000) only [wk0, wk1, wk2, wk3, keepA, frzT, flatT, arrayAtA, ownT, extT, Fr.ev, Fr.put, Fr.get, initFr, buildSliceA, zeros, pickA, ownDst, Env.kd, ofConst, isConst, binA, intI, cmpI, shiftI, convertA, buildA, fillA, fillS, splice, AV.cells?, storeA, readAt, fieldAddrA, fieldA, indexA, extractA, unA, builtinA, appendA, lenA, sliceCells, isSliceK, makeInterfaceA, nilCheckA, eqA, AV.one, AV.plain, if_false, if_true, Nat.reduceEqDiff, reduceIte, Nat.reduceAdd, List.replicate, Nat.reduceLeDiff, Nat.reduceMul, Nat.reduceSub, Nat.reducePow, Int.reduceLT, Int.reduceLE, Int.reduceToNat, Int.reducePow, IntKind.bits, Int.reduceEq, Int.reduceMul, Int.reduceNeg, ne_eq, reduceCtorEq, escT, BEq.rfl, beq_self_eq_true, Int.reduceAdd, Int.reduceSub, Int.reduceMod, Int.reduceDiv, Nat.reduceMod, Nat.reduceDiv, Nat.reduceLT, cond_true, cond_false, gt_iff_lt, ge_iff_le, g21, g7, g8, g9, g18, hi, D3, ty1, ty2, ty3, ty4, ty22, ty24, ty29]
          exact hK _ _ ⟨by simp [Fr.get, g8], by simp [Fr.get, g9], by simp [Fr.get, g18], rfl⟩
      · rintro fr H ⟨g8, g9, g18, rfl⟩
        have q5 := fun S => size_of J S (by unfold maxLen; omega) j4
        have q6 := fun S => size_of x S (by unfold maxLen; omega) xin
        have q7 := fun S => size_of y S (by unfold maxLen; omega) yin
        have bx := sizeL_bound x x.length (Nat.le_refl _)
        have byy := sizeL_bound y y.length (Nat.le_refl _)
        rw [List.take_length] at bx byy
        simp only [lstI, xl, yl, j2] at q5 q6 q7
        have w3 : IntKind.i64.wrap (max (sizeL x) (sizeL y) + 1) = max (sizeL x) (sizeL y) + 1 := wrapI (by omega)
        simp (maxSteps := 2000000) only [wk0, wk1, wk2, wk3, keepA, frzT, flatT, arrayAtA, ownT, extT, Fr.ev, Fr.put, Fr.get, initFr, buildSliceA, zeros, pickA, ownDst, Env.kd, ofConst, isConst, binA, intI, cmpI, shiftI, convertA, buildA, fillA, fillS, splice, AV.cells?, storeA, readAt, fieldAddrA, fieldA, indexA, extractA, unA, builtinA, appendA, lenA, sliceCells, isSliceK, makeInterfaceA, nilCheckA, eqA, AV.one, AV.plain, if_false, if_true, Nat.reduceEqDiff, reduceIte, Nat.reduceAdd, List.replicate, Nat.reduceLeDiff, Nat.reduceMul, Nat.reduceSub, Nat.reducePow, Int.reduceLT, Int.reduceLE, Int.reduceToNat, Int.reducePow, IntKind.bits, Int.reduceEq, Int.reduceMul, Int.reduceNeg, ne_eq, reduceCtorEq, escT, BEq.rfl, beq_self_eq_true, Int.reduceAdd, Int.reduceSub, Int.reduceMod, Int.reduceDiv, Nat.reduceMod, Nat.reduceDiv, Nat.reduceLT, cond_true, cond_false, gt_iff_lt, ge_iff_le, g8, g9, g18, D3, ty1, ty2, ty3, ty4, ty22, ty24, ty29]
        refine callThen_of (q5 _) ?_
        simp (maxSteps := 2000000) only [wk0, wk1, wk2, wk3, keepA, frzT, flatT, arrayAtA, ownT, extT, Fr.ev, Fr.put, Fr.get, initFr, buildSliceA, zeros, pickA, ownDst, Env.kd, ofConst, isConst, binA, intI, cmpI, shiftI, convertA, buildA, fillA, fillS, splice, AV.cells?, storeA, readAt, fieldAddrA, fieldA, indexA, extractA, unA, builtinA, appendA, lenA, sliceCells, isSliceK, makeInterfaceA, nilCheckA, eqA, AV.one, AV.plain, if_false, if_true, Nat.reduceEqDiff, reduceIte, Nat.reduceAdd, List.replicate, Nat.reduceLeDiff, Nat.reduceMul, Nat.reduceSub, Nat.reducePow, Int.reduceLT, Int.reduceLE, Int.reduceToNat, Int.reducePow, IntKind.bits, Int.reduceEq, Int.reduceMul, Int.reduceNeg, ne_eq, reduceCtorEq, escT, BEq.rfl, beq_self_eq_true, Int.reduceAdd, Int.reduceSub, Int.reduceMod, Int.reduceDiv, Nat.reduceMod, Nat.reduceDiv, Nat.reduceLT, cond_true, cond_false, gt_iff_lt, ge_iff_le, g8, g9, D3, ty1, ty2, ty3, ty4, ty22, ty24, ty29]
        refine callThen_of (q6 _) ?_
        simp (maxSteps := 2000000) only [wk0, wk1, wk2, wk3, keepA, frzT, flatT, arrayAtA, ownT, extT, Fr.ev, Fr.put, Fr.get, initFr, buildSliceA, zeros, pickA, ownDst, Env.kd, ofConst, isConst, binA, intI, cmpI, shiftI, convertA, buildA, fillA, fillS, splice, AV.cells?, storeA, readAt, fieldAddrA, fieldA, indexA, extractA, unA, builtinA, appendA, lenA, sliceCells, isSliceK, makeInterfaceA, nilCheckA, eqA, AV.one, AV.plain, if_false, if_true, Nat.reduceEqDiff, reduceIte, Nat.reduceAdd, List.replicate, Nat.reduceLeDiff, Nat.reduceMul, Nat.reduceSub, Nat.reducePow, Int.reduceLT, Int.reduceLE, Int.reduceToNat, Int.reducePow, IntKind.bits, Int.reduceEq, Int.reduceMul, Int.reduceNeg, ne_eq, reduceCtorEq, escT, BEq.rfl, beq_self_eq_true, Int.reduceAdd, Int.reduceSub, Int.reduceMod, Int.reduceDiv, Nat.reduceMod, Nat.reduceDiv, Nat.reduceLT, cond_true, cond_false, gt_iff_lt, ge_iff_le, g8, g9, D3, ty1, ty2, ty3, ty4, ty22, ty24, ty29]
        refine callThen_of (q7 _) ?_
        simp (maxSteps := 2000000) only [wk0, wk1, wk2, wk3, keepA, frzT, flatT, arrayAtA, ownT, extT, Fr.ev, Fr.put, Fr.get, initFr, buildSliceA, zeros, pickA, ownDst, Env.kd, ofConst, isConst, binA, intI, cmpI, shiftI, convertA, buildA, fillA, fillS, splice, AV.cells?, storeA, readAt, fieldAddrA, fieldA, indexA, extractA, unA, builtinA, appendA, lenA, sliceCells, isSliceK, makeInterfaceA, nilCheckA, eqA, AV.one, AV.plain, if_false, if_true, Nat.reduceEqDiff, reduceIte, Nat.reduceAdd, List.replicate, Nat.reduceLeDiff, Nat.reduceMul, Nat.reduceSub, Nat.reducePow, Int.reduceLT, Int.reduceLE, Int.reduceToNat, Int.reducePow, IntKind.bits, Int.reduceEq, Int.reduceMul, Int.reduceNeg, ne_eq, reduceCtorEq, escT, BEq.rfl, beq_self_eq_true, Int.reduceAdd, Int.reduceSub, Int.reduceMod, Int.reduceDiv, Nat.reduceMod, Nat.reduceDiv, Nat.reduceLT, cond_true, cond_false, gt_iff_lt, ge_iff_le, w3, j5, D3, ty1, ty2, ty3, ty4, ty22, ty24, ty29]
        refine callThen_of (sure07_ok _) ?_
        simp (maxSteps := 2000000) only [wk0, wk1, wk2, wk3, keepA, frzT, flatT, arrayAtA, ownT, extT, Fr.ev, Fr.put, Fr.get, initFr, buildSliceA, zeros, pickA, ownDst, Env.kd, ofConst, isConst, binA, intI, cmpI, shiftI, convertA, buildA, fillA, fillS, splice, AV.cells?, storeA, readAt, fieldAddrA, fieldA, indexA, extractA, unA, builtinA, appendA, lenA, sliceCells, isSliceK, makeInterfaceA, nilCheckA, eqA, AV.one, AV.plain, if_false, if_true, Nat.reduceEqDiff, reduceIte, Nat.reduceAdd, List.replicate, Nat.reduceLeDiff, Nat.reduceMul, Nat.reduceSub, Nat.reducePow, Int.reduceLT, Int.reduceLE, Int.reduceToNat, Int.reducePow, IntKind.bits, Int.reduceEq, Int.reduceMul, Int.reduceNeg, ne_eq, reduceCtorEq, escT, BEq.rfl, beq_self_eq_true, Int.reduceAdd, Int.reduceSub, Int.reduceMod, Int.reduceDiv, Nat.reduceMod, Nat.reduceDiv, Nat.reduceLT, cond_true, cond_false, gt_iff_lt, ge_iff_le, D3, ty1, ty2, ty3, ty4, ty22, ty24, ty29]
        exact retB_plain (by simp [nmd_bool]) rfl (by simp)
    · have wj : IntKind.i64.wrap (1073741824 - k0) = 1073741824 - k0 := wrapI (by omega)
      simp (maxSteps := 2000000) only [wk0, wk1, wk2, wk3, keepA, frzT, flatT, arrayAtA, ownT, extT, Fr.ev, Fr.put, Fr.get, initFr, buildSliceA, zeros, pickA, ownDst, Env.kd, ofConst, isConst, binA, intI, cmpI, shiftI, convertA, buildA, fillA, fillS, splice, AV.cells?, storeA, readAt, fieldAddrA, fieldA, indexA, extractA, unA, builtinA, appendA, lenA, sliceCells, isSliceK, makeInterfaceA, nilCheckA, eqA, AV.one, AV.plain, if_false, if_true, Nat.reduceEqDiff, reduceIte, Nat.reduceAdd, List.replicate, Nat.reduceLeDiff, Nat.reduceMul, Nat.reduceSub, Nat.reducePow, Int.reduceLT, Int.reduceLE, Int.reduceToNat, Int.reducePow, IntKind.bits, Int.reduceEq, Int.reduceMul, Int.reduceNeg, ne_eq, reduceCtorEq, escT, BEq.rfl, beq_self_eq_true, Int.reduceAdd, Int.reduceSub, Int.reduceMod, Int.reduceDiv, Nat.reduceMod, Nat.reduceDiv, Nat.reduceLT, cond_true, cond_false, gt_iff_lt, ge_iff_le, g2, g7, h0', hk0, hneg, wj, D3, ty1, ty2, ty3, ty4, ty22, ty24, ty29]
      obtain ⟨j1, j2, j3, j4, j5⟩ := join_laws (k := k0) xl yl xs ys (by omega)
      have q4 := fun S => join_ok [x, y] [k0, 1073741824 - k0] n S (by simp) rfl (by omega) (by simp [xl, yl]) (by simp; exact ⟨xin, yin⟩) (by simp [inI]; omega)
      rw [j1] at q4
      obtain ⟨J, hJ⟩ : ∃ J, joinL [x, y] [k0, 1073741824 - k0] n = J := ⟨_, rfl⟩
      rw [hJ] at j2 j3 j4 j5
      simp only [hJ] at q4
      simp only [lstI, lstL, xl, yl, j2, List.map_cons, List.map_nil, List.length_cons, List.length_nil, Nat.zero_add, Nat.reduceAdd] at q4
      refine callThen_of (q4 _) ?_
      simp (maxSteps := 2000000) only [wk0, wk1, wk2, wk3, keepA, frzT, flatT, arrayAtA, ownT, extT, Fr.ev, Fr.put, Fr.get, initFr, buildSliceA, zeros, pickA, ownDst, Env.kd, ofConst, isConst, binA, intI, cmpI, shiftI, convertA, buildA, fillA, fillS, splice, AV.cells?, storeA, readAt, fieldAddrA, fieldA, indexA, extractA, unA, builtinA, appendA, lenA, sliceCells, isSliceK, makeInterfaceA, nilCheckA, eqA, AV.one, AV.plain, if_false, if_true, Nat.reduceEqDiff, reduceIte, Nat.reduceAdd, List.replicate, Nat.reduceLeDiff, Nat.reduceMul, Nat.reduceSub, Nat.reducePow, Int.reduceLT, Int.reduceLE, Int.reduceToNat, Int.reducePow, IntKind.bits, Int.reduceEq, Int.reduceMul, Int.reduceNeg, ne_eq, reduceCtorEq, escT, BEq.rfl, beq_self_eq_true, Int.reduceAdd, Int.reduceSub, Int.reduceMod, Int.reduceDiv, Nat.reduceMod, Nat.reduceDiv, Nat.reduceLT, cond_true, cond_false, gt_iff_lt, ge_iff_le, g7, D3, ty1, ty2, ty3, ty4, ty22, ty24, ty29]
      refine loopC_split 2 (fun fr H => fr.get 8 = .lst (x.map fun x => .int .i64 x) n ∧ fr.get 9 = .lst (y.map fun x => .int .i64 x) n ∧ fr.get 18 = .lst (J.map fun x => .int .i64 x) n ∧ H = S ++ [none, none]) (fun K' hK => ?_) ?_
      · refine loopC_ind (fun m fr H => ∃ i : Nat, i + m = n ∧ fr.get 21 = .int .i64 i ∧ fr.get 7 = .int .i64 n ∧ fr.get 8 = .lst (x.map fun x => .int .i64 x) n ∧ fr.get 9 = .lst (y.map fun x => .int .i64 x) n ∧ fr.get 18 = .lst (J.map fun x => .int .i64 x) n ∧ H = S ++ [none, none]) ?_ (n := n) ⟨0, by omega, by simp [Fr.get], by simp [Fr.get, g7], by simp [Fr.get], by simp [Fr.get], by simp [Fr.get], rfl⟩
        rintro m fr H ⟨i, him, g21, g7, g8, g9, g18, rfl⟩ ih
        by_cases hi : (i : Int) < n
        · have k1 : (0 : Int) ≤ i := by omega
          have k2 : i < n := by omega
          have wi : IntKind.i64.wrap ((i : Int) + 1) = ((i + 1 : Nat) : Int) := wrapI (by omega)
          have gx := get_lstI (l := x) (i := i) (by omega)
          have gy := get_lstI (l := y) (i := i) (by omega)
          have gJ := get_lstI (l := J) (i := i) (by omega)
          have j := j3 i k2
          rw [getD_of (by omega), getD_of (by omega), getD_of (by omega)] at j
          have sx := xs _ (List.getElem_mem (show i < x.length by omega))
          have sy := ys _ (List.getElem_mem (show i < y.length by omega))
          unfold smallI at sx sy
          have w1 : IntKind.i64.wrap (min x[i] y[i] - 1) = min x[i] y[i] - 1 := wrapI (by omega)
          have w2 : IntKind.i64.wrap (max x[i] y[i] + 1) = max x[i] y[i] + 1 := wrapI (by omega)
          have t1 : ¬ J[i] < min x[i] y[i] - 1 := by omega
          have t2 : ¬ max x[i] y[i] + 1 < J[i] := by omega
          simp (maxSteps := 2000000) only [wk0, wk1, wk2, wk3, keepA, frzT, flatT, arrayAtA, ownT, extT, Fr.ev, Fr.put, Fr.get, initFr, buildSliceA, zeros, pickA, ownDst, Env.kd, ofConst, isConst, binA, intI, cmpI, shiftI, convertA, buildA, fillA, fillS, splice, AV.cells?, storeA, readAt, fieldAddrA, fieldA, indexA, extractA, unA, builtinA, appendA, lenA, sliceCells, isSliceK, makeInterfaceA, nilCheckA, eqA, AV.one, AV.plain, if_false, if_true, Nat.reduceEqDiff, reduceIte, Nat.reduceAdd, List.replicate, Nat.reduceLeDiff, Nat.reduceMul, Nat.reduceSub, Nat.reducePow, Int.reduceLT, Int.reduceLE, Int.reduceToNat, Int.reducePow, IntKind.bits, Int.reduceEq, Int.reduceMul, Int.reduceNeg, ne_eq, reduceCtorEq, escT, BEq.rfl, beq_self_eq_true, Int.reduceAdd, Int.reduceSub, Int.reduceMod, Int.reduceDiv, Nat.reduceMod, Nat.reduceDiv, Nat.reduceLT, cond_true, cond_false, gt_iff_lt, ge_iff_le, g21, g7, g8, g9, g18, hi, k1, Int.toNat_natCast, Nat.mul_one, gx, gy, gJ, w1, w2, t1, t2, wi, D3, ty1, ty2, ty3, ty4, ty22, ty24, ty29]
          exact ih (m - 1) _ _ (by omega) ⟨i + 1, by omega, by simp [Fr.get], by simp [Fr.get, g7], by simp [Fr.get, g8], by simp [Fr.get, g9], by simp [Fr.get, g18], rfl⟩
        · simp (maxSteps := 2000000) only [wk0, wk1, wk2, wk3, keepA, frzT, flatT, arrayAtA, ownT, extT, Fr.ev, Fr.put, Fr.get, initFr, buildSliceA, zeros, pickA, ownDst, Env.kd, ofConst, isConst, binA, intI, cmpI, shiftI, convertA, buildA, fillA, fillS, splice, AV.cells?, storeA, readAt, fieldAddrA, fieldA, indexA, extractA, unA, builtinA, appendA, lenA, sliceCells, isSliceK, makeInterfaceA, nilCheckA, eqA, AV.one, AV.plain, if_false, if_true, Nat.reduceEqDiff, reduceIte, Nat.reduceAdd, List.replicate, Nat.reduceLeDiff, Nat.reduceMul, Nat.reduceSub, Nat.reducePow, Int.reduceLT, Int.reduceLE, Int.reduceToNat, Int.reducePow, IntKind.bits, Int.reduceEq, Int.reduceMul, Int.reduceNeg, ne_eq, reduceCtorEq, escT, BEq.rfl, beq_self_eq_true, Int.reduceAdd, Int.reduceSub, Int.reduceMod, Int.reduceDiv, Nat.reduceMod, Nat.reduceDiv, Nat.reduceLT, cond_true, cond_false, gt_iff_lt, ge_iff_le, g21, g7, g8, g9, g18, hi, D3, ty1, ty2, ty3, ty4, ty22, ty24, ty29]
          exact hK _ _ ⟨by simp [Fr.get, g8], by simp [Fr.get, g9], by simp [Fr.get, g18], rfl⟩
      · rintro fr H ⟨g8, g9, g18, rfl⟩
        have q5 := fun S => size_of J S (by unfold maxLen; omega) j4
        have q6 := fun S => size_of x S (by unfold maxLen; omega) xin
        have q7 := fun S => size_of y S (by unfold maxLen; omega) yin
        have bx := sizeL_bound x x.length (Nat.le_refl _)
        have byy := sizeL_bound y y.length (Nat.le_refl _)
        rw [List.take_length] at bx byy
        simp only [lstI, xl, yl, j2] at q5 q6 q7
        have w3 : IntKind.i64.wrap (max (sizeL x) (sizeL y) + 1) = max (sizeL x) (sizeL y) + 1 := wrapI (by omega)
        simp (maxSteps := 2000000) only [wk0, wk1, wk2, wk3, keepA, frzT, flatT, arrayAtA, ownT, extT, Fr.ev, Fr.put, Fr.get, initFr, buildSliceA, zeros, pickA, ownDst, Env.kd, ofConst, isConst, binA, intI, cmpI, shiftI, convertA, buildA, fillA, fillS, splice, AV.cells?, storeA, readAt, fieldAddrA, fieldA, indexA, extractA, unA, builtinA, appendA, lenA, sliceCells, isSliceK, makeInterfaceA, nilCheckA, eqA, AV.one, AV.plain, if_false, if_true, Nat.reduceEqDiff, reduceIte, Nat.reduceAdd, List.replicate, Nat.reduceLeDiff, Nat.reduceMul, Nat.reduceSub, Nat.reducePow, Int.reduceLT, Int.reduceLE, Int.reduceToNat, Int.reducePow, IntKind.bits, Int.reduceEq, Int.reduceMul, Int.reduceNeg, ne_eq, reduceCtorEq, escT, BEq.rfl, beq_self_eq_true, Int.reduceAdd, Int.reduceSub, Int.reduceMod, Int.reduceDiv, Nat.reduceMod, Nat.reduceDiv, Nat.reduceLT, cond_true, cond_false, gt_iff_lt, ge_iff_le, g8, g9, g18, D3, ty1, ty2, ty3, ty4, ty22, ty24, ty29]
        refine callThen_of (q5 _) ?_
        simp (maxSteps := 2000000) only [wk0, wk1, wk2, wk3, keepA, frzT, flatT, arrayAtA, ownT, extT, Fr.ev, Fr.put, Fr.get, initFr, buildSliceA, zeros, pickA, ownDst, Env.kd, ofConst, isConst, binA, intI, cmpI, shiftI, convertA, buildA, fillA, fillS, splice, AV.cells?, storeA, readAt, fieldAddrA, fieldA, indexA, extractA, unA, builtinA, appendA, lenA, sliceCells, isSliceK, makeInterfaceA, nilCheckA, eqA, AV.one, AV.plain, if_false, if_true, Nat.reduceEqDiff, reduceIte, Nat.reduceAdd, List.replicate, Nat.reduceLeDiff, Nat.reduceMul, Nat.reduceSub, Nat.reducePow, Int.reduceLT, Int.reduceLE, Int.reduceToNat, Int.reducePow, IntKind.bits, Int.reduceEq, Int.reduceMul, Int.reduceNeg, ne_eq, reduceCtorEq, escT, BEq.rfl, beq_self_eq_true, Int.reduceAdd, Int.reduceSub, Int.reduceMod, Int.reduceDiv, Nat.reduceMod, Nat.reduceDiv, Nat.reduceLT, cond_true, cond_false, gt_iff_lt, ge_iff_le, g8, g9, D3, ty1, ty2, ty3, ty4, ty22, ty24, ty29]
        refine callThen_of (q6 _) ?_
        simp (maxSteps := 2000000) only [wk0, wk1, wk2, wk3, keepA, frzT, flatT, arrayAtA, ownT, extT, Fr.ev, Fr.put, Fr.get, initFr, buildSliceA, zeros, pickA, ownDst, Env.kd, ofConst, isConst, binA, intI, cmpI, shiftI, convertA, buildA, fillA, fillS, splice, AV.cells?, storeA, readAt, fieldAddrA, fieldA, indexA, extractA, unA, builtinA, appendA, lenA, sliceCells, isSliceK, makeInterfaceA, nilCheckA, eqA, AV.one, AV.plain, if_false, if_true, Nat.reduceEqDiff, reduceIte, Nat.reduceAdd, List.replicate, Nat.reduceLeDiff, Nat.reduceMul, Nat.reduceSub, Nat.reducePow, Int.reduceLT, Int.reduceLE, Int.reduceToNat, Int.reducePow, IntKind.bits, Int.reduceEq, Int.reduceMul, Int.reduceNeg, ne_eq, reduceCtorEq, escT, BEq.rfl, beq_self_eq_true, Int.reduceAdd, Int.reduceSub, Int.reduceMod, Int.reduceDiv, Nat.reduceMod, Nat.reduceDiv, Nat.reduceLT, cond_true, cond_false, gt_iff_lt, ge_iff_le, g8, g9, D3, ty1, ty2, ty3, ty4, ty22, ty24, ty29]
        refine callThen_of (q7 _) ?_
        simp (maxSteps := 2000000) only [wk0, wk1, wk2, wk3, keepA, frzT, flatT, arrayAtA, ownT, extT, Fr.ev, Fr.put, Fr.get, initFr, buildSliceA, zeros, pickA, ownDst, Env.kd, ofConst, isConst, binA, intI, cmpI, shiftI, convertA, buildA, fillA, fillS, splice, AV.cells?, storeA, readAt, fieldAddrA, fieldA, indexA, extractA, unA, builtinA, appendA, lenA, sliceCells, isSliceK, makeInterfaceA, nilCheckA, eqA, AV.one, AV.plain, if_false, if_true, Nat.reduceEqDiff, reduceIte, Nat.reduceAdd, List.replicate, Nat.reduceLeDiff, Nat.reduceMul, Nat.reduceSub, Nat.reducePow, Int.reduceLT, Int.reduceLE, Int.reduceToNat, Int.reducePow, IntKind.bits, Int.reduceEq, Int.reduceMul, Int.reduceNeg, ne_eq, reduceCtorEq, escT, BEq.rfl, beq_self_eq_true, Int.reduceAdd, Int.reduceSub, Int.reduceMod, Int.reduceDiv, Nat.reduceMod, Nat.reduceDiv, Nat.reduceLT, cond_true, cond_false, gt_iff_lt, ge_iff_le, w3, j5, D3, ty1, ty2, ty3, ty4, ty22, ty24, ty29]
        refine callThen_of (sure07_ok _) ?_
        simp (maxSteps := 2000000) only [wk0, wk1, wk2, wk3, keepA, frzT, flatT, arrayAtA, ownT, extT, Fr.ev, Fr.put, Fr.get, initFr, buildSliceA, zeros, pickA, ownDst, Env.kd, ofConst, isConst, binA, intI, cmpI, shiftI, convertA, buildA, fillA, fillS, splice, AV.cells?, storeA, readAt, fieldAddrA, fieldA, indexA, extractA, unA, builtinA, appendA, lenA, sliceCells, isSliceK, makeInterfaceA, nilCheckA, eqA, AV.one, AV.plain, if_false, if_true, Nat.reduceEqDiff, reduceIte, Nat.reduceAdd, List.replicate, Nat.reduceLeDiff, Nat.reduceMul, Nat.reduceSub, Nat.reducePow, Int.reduceLT, Int.reduceLE, Int.reduceToNat, Int.reducePow, IntKind.bits, Int.reduceEq, Int.reduceMul, Int.reduceNeg, ne_eq, reduceCtorEq, escT, BEq.rfl, beq_self_eq_true, Int.reduceAdd, Int.reduceSub, Int.reduceMod, Int.reduceDiv, Nat.reduceMod, Nat.reduceDiv, Nat.reduceLT, cond_true, cond_false, gt_iff_lt, ge_iff_le, D3, ty1, ty2, ty3, ty4, ty22, ty24, ty29]
        exact retB_plain (by simp [nmd_bool]) rfl (by simp)
end Go.Proofs.Ytimdnnlfkkkpbaa
