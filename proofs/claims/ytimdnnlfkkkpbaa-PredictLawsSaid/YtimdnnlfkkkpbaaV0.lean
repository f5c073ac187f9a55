/- vec: one by one. -/
import Derived.Test.YtimdnnlfkkkpbaaQ2
set_option linter.unusedSimpArgs false
set_option linter.unusedVariables false
set_option maxRecDepth 100000
set_option maxHeartbeats 4000000
namespace Go.Proofs.Ytimdnnlfkkkpbaa
noncomputable def c53 : Code := Try.f53.body.getD .skip
theorem b53 : Try.f53.body = some c53 := rfl
theorem d53 : fnOk Try.f53 c53 = true := by kernel_rfl
def D53 : Nat → List Tag := fun _ => []
theorem e53 : drawsOk D53 c53 = true := by kernel_rfl
def eachC (xs : Nat → Int) (n i : Nat) : List AV := ((List.range i).map fun j => AV.int .i64 (xs j)) ++ List.replicate (n - i) (AV.int .i64 0)
theorem eachC_len (xs : Nat → Int) (n i : Nat) (h : i ≤ n) : (eachC xs n i).length = n := by simp [eachC]; omega
theorem eachC_set (xs : Nat → Int) (n i : Nat) (h : i < n) : (eachC xs n i).set i (.int .i64 (xs i)) = eachC xs n (i + 1) := by
  unfold eachC
  rw [List.set_append_right _ _ (by simp), List.range_succ, List.map_append]
  simp only [List.length_map, List.length_range, Nat.sub_self, List.map_cons, List.map_nil, List.append_assoc]
  rw [show n - i = (n - (i + 1)) + 1 by omega, List.replicate_succ, List.set_cons_zero]
  rfl
theorem eachC_all (xs : Nat → Int) (n : Nat) : eachC xs n n = (List.range n).map fun j => AV.int .i64 (xs j) := by simp [eachC]
theorem each_ok (g : FuncId) (caps : List AV) (n : Nat) (xs : Nat → Int) (os : Nat → Bool) (S : Heap) (hn : n ≤ 1000000) (hg : ¬ g = 108)
    (hc : ∀ i, i < n → ∀ L, Call theE g (.int .i64 (i : Int) :: caps) (S ++ L) (.tup [.int .i64 (xs i), .bool (os i)]) (S ++ L)) :
    Call theE 53 [.int .i64 n, .fn g caps] S (.tup [lstI ((List.range n).map xs), .bool ((List.range n).any os)]) S := by
  have b1 : (0 : Int) ≤ n := by omega
  have b2 : ¬ (n : Int) < 0 := by omega
  have b3 : (n : Int).toNat = n := by omega
  have mk : ∀ e, makeSliceA S (.slice e 1 8 [.int .i64 0]) (.int .i64 n) (.int .i64 n) = some (.sl S.length 0 0 n n 1, S ++ [some ⟨eachC xs n 0, 0⟩]) := fun e => by
    have h : makeSliceA S (.slice e 1 8 [.int .i64 0]) (.int .i64 n) (.int .i64 n) = if 0 ≤ (n : Int) ∧ (n : Int) ≤ n ∧ (n : Int).toNat * 8 ≤ maxBytes ∧ (n : Int) ≤ 9223372036854775807 ∧ [AV.int .i64 0].length = 1 then
      some (.sl S.length 0 0 (n : Int).toNat (n : Int).toNat 1, S ++ [some ⟨zeros [.int .i64 0] (n : Int).toNat, 0⟩]) else none := rfl
    rw [h, if_pos ⟨by omega, by omega, by rw [b3]; unfold maxBytes; omega, by omega, rfl⟩, b3]
    have hz : zeros [AV.int .i64 0] n = eachC xs n 0 := by
      simp only [eachC, zeros, List.range_zero, List.map_nil, List.nil_append, Nat.sub_zero]
      clear h b1 b2 b3 hn hc
      induction n with
      | zero => rfl
      | succ n ih => rw [List.replicate_succ, List.flatten_cons, ih, List.replicate_succ]; rfl
    rw [hz]
  refine Call.ofC Try.func53 Ytimdnnlfkkkpbaa.b53 Ytimdnnlfkkkpbaa.d53 Ytimdnnlfkkkpbaa.e53 (by simp [Try.f53]) ?_
  dsimp only [Ytimdnnlfkkkpbaa.c53, Try.f53, Option.getD_some]
  simp (maxSteps := 2000000) only [wk0, wk1, wk2, wk3, keepA, keepT, Fr.keep, frzT, flatT, arrayAtA, ownT, extT, Fr.ev, Fr.put, Fr.get, initFr, buildSliceA, zeros, pkB, pkT, pkF, ownDst, Env.kd, ofConst, isConst, binA, intI, cmpI, shiftI, convertA, buildA, fillA, fillS, splice, AV.cells?, storeA, readAt, fieldAddrA, fieldA, indexA, extractA, unA, builtinA, appendA, lenA, sliceCells, isSliceK, makeInterfaceA, nilCheckA, eqA, AV.one, AV.plain, if_false, if_true, Nat.reduceEqDiff, reduceIte, Nat.reduceAdd, List.replicate, Nat.reduceLeDiff, Nat.reduceMul, Nat.reduceSub, Nat.reducePow, Int.reduceLT, Int.reduceLE, Int.reduceToNat, Int.reducePow, IntKind.bits, Int.reduceEq, Int.reduceMul, Int.reduceNeg, ne_eq, reduceCtorEq, escT, BEq.rfl, beq_self_eq_true, Int.reduceAdd, Int.reduceSub, Int.reduceMod, Int.reduceDiv, Nat.reduceMod, Nat.reduceDiv, Nat.reduceLT, cond_true, cond_false, gt_iff_lt, ge_iff_le, mk, Ytimdnnlfkkkpbaa.D53, ty2, ty3, ty4, ty22, ty98]
  refine loopC_ind (fun m fr H => ∃ i : Nat, i + m = n ∧ fr.get 15 = .int .i64 i ∧ fr.get 14 = .int .i64 n ∧ fr.get 6 = .sl S.length 0 0 n n 1 ∧ fr.get 7 = .bool ((List.range i).any os) ∧ fr.get 1 = .fn g caps ∧
    H = S ++ [some ⟨eachC xs n i, 0⟩]) ?_ (n := n) ⟨0, by omega, rfl, rfl, rfl, rfl, rfl, rfl⟩
  rintro m fr H ⟨i, him, g15, g14, g6, g7, g1, rfl⟩ ih
  by_cases hi : (i : Int) < n
  · have hin : i < n := by omega
    have k1 : (0 : Int) ≤ i := by omega
    have k2 : i + 1 ≤ n := by omega
    have k3 : ((i : Int)).toNat = i := by omega
    have wi : IntKind.i64.wrap ((i : Int) + 1) = ((i + 1 : Nat) : Int) := wrapI (by omega)
    have es := eachC_set xs n i hin
    have el := eachC_len xs n i (by omega)
    have hcc := hc i hin
    simp (maxSteps := 2000000) only [wk0, wk1, wk2, wk3, keepA, keepT, Fr.keep, frzT, flatT, arrayAtA, ownT, extT, Fr.ev, Fr.put, Fr.get, initFr, buildSliceA, zeros, pkB, pkT, pkF, ownDst, Env.kd, ofConst, isConst, binA, intI, cmpI, shiftI, convertA, buildA, fillA, fillS, splice, AV.cells?, storeA, readAt, fieldAddrA, fieldA, indexA, extractA, unA, builtinA, appendA, lenA, sliceCells, isSliceK, makeInterfaceA, nilCheckA, eqA, AV.one, AV.plain, if_false, if_true, Nat.reduceEqDiff, reduceIte, Nat.reduceAdd, List.replicate, Nat.reduceLeDiff, Nat.reduceMul, Nat.reduceSub, Nat.reducePow, Int.reduceLT, Int.reduceLE, Int.reduceToNat, Int.reducePow, IntKind.bits, Int.reduceEq, Int.reduceMul, Int.reduceNeg, ne_eq, reduceCtorEq, escT, BEq.rfl, beq_self_eq_true, Int.reduceAdd, Int.reduceSub, Int.reduceMod, Int.reduceDiv, Nat.reduceMod, Nat.reduceDiv, Nat.reduceLT, cond_true, cond_false, gt_iff_lt, ge_iff_le, g15, g14, g6, g7, g1, hi, hg, Ytimdnnlfkkkpbaa.D53, ty2, ty3, ty4, ty22, ty98]
    refine callThen_of (hcc _) ?_
    have an : (List.range (i + 1)).any os = ((List.range i).any os || os i) := by rw [List.range_succ, List.any_append]; simp
    cases hb : (List.range i).any os
    · simp (maxSteps := 2000000) only [wk0, wk1, wk2, wk3, keepA, keepT, Fr.keep, frzT, flatT, arrayAtA, ownT, extT, Fr.ev, Fr.put, Fr.get, initFr, buildSliceA, zeros, pkB, pkT, pkF, ownDst, Env.kd, ofConst, isConst, binA, intI, cmpI, shiftI, convertA, buildA, fillA, fillS, splice, AV.cells?, storeA, readAt, fieldAddrA, fieldA, indexA, extractA, unA, builtinA, appendA, lenA, sliceCells, isSliceK, makeInterfaceA, nilCheckA, eqA, AV.one, AV.plain, if_false, if_true, Nat.reduceEqDiff, reduceIte, Nat.reduceAdd, List.replicate, Nat.reduceLeDiff, Nat.reduceMul, Nat.reduceSub, Nat.reducePow, Int.reduceLT, Int.reduceLE, Int.reduceToNat, Int.reducePow, IntKind.bits, Int.reduceEq, Int.reduceMul, Int.reduceNeg, ne_eq, reduceCtorEq, escT, BEq.rfl, beq_self_eq_true, Int.reduceAdd, Int.reduceSub, Int.reduceMod, Int.reduceDiv, Nat.reduceMod, Nat.reduceDiv, Nat.reduceLT, cond_true, cond_false, gt_iff_lt, ge_iff_le, g15, g14, g6, g7, g1, hi, k1, k2, k3, es, el, wi, Nat.mul_one, hb, Ytimdnnlfkkkpbaa.D53, ty2, ty3, ty4, ty22, ty98]
      exact ih (m - 1) _ _ (by omega) ⟨i + 1, by omega, by simp [Fr.get], by simp [Fr.get, g14], by simp [Fr.get, g6], by simp [Fr.get, an, hb], by simp [Fr.get, g1], rfl⟩
    · simp (maxSteps := 2000000) only [wk0, wk1, wk2, wk3, keepA, keepT, Fr.keep, frzT, flatT, arrayAtA, ownT, extT, Fr.ev, Fr.put, Fr.get, initFr, buildSliceA, zeros, pkB, pkT, pkF, ownDst, Env.kd, ofConst, isConst, binA, intI, cmpI, shiftI, convertA, buildA, fillA, fillS, splice, AV.cells?, storeA, readAt, fieldAddrA, fieldA, indexA, extractA, unA, builtinA, appendA, lenA, sliceCells, isSliceK, makeInterfaceA, nilCheckA, eqA, AV.one, AV.plain, if_false, if_true, Nat.reduceEqDiff, reduceIte, Nat.reduceAdd, List.replicate, Nat.reduceLeDiff, Nat.reduceMul, Nat.reduceSub, Nat.reducePow, Int.reduceLT, Int.reduceLE, Int.reduceToNat, Int.reducePow, IntKind.bits, Int.reduceEq, Int.reduceMul, Int.reduceNeg, ne_eq, reduceCtorEq, escT, BEq.rfl, beq_self_eq_true, Int.reduceAdd, Int.reduceSub, Int.reduceMod, Int.reduceDiv, Nat.reduceMod, Nat.reduceDiv, Nat.reduceLT, cond_true, cond_false, gt_iff_lt, ge_iff_le, g15, g14, g6, g7, g1, hi, k1, k2, k3, es, el, wi, Nat.mul_one, hb, Ytimdnnlfkkkpbaa.D53, ty2, ty3, ty4, ty22, ty98]
      exact ih (m - 1) _ _ (by omega) ⟨i + 1, by omega, by simp [Fr.get], by simp [Fr.get, g14], by simp [Fr.get, g6], by simp [Fr.get, an, hb], by simp [Fr.get, g1], rfl⟩
  · have hie : i = n := by omega
    subst hie
    simp (maxSteps := 2000000) only [wk0, wk1, wk2, wk3, keepA, keepT, Fr.keep, frzT, flatT, arrayAtA, ownT, extT, Fr.ev, Fr.put, Fr.get, initFr, buildSliceA, zeros, pkB, pkT, pkF, ownDst, Env.kd, ofConst, isConst, binA, intI, cmpI, shiftI, convertA, buildA, fillA, fillS, splice, AV.cells?, storeA, readAt, fieldAddrA, fieldA, indexA, extractA, unA, builtinA, appendA, lenA, sliceCells, isSliceK, makeInterfaceA, nilCheckA, eqA, AV.one, AV.plain, if_false, if_true, Nat.reduceEqDiff, reduceIte, Nat.reduceAdd, List.replicate, Nat.reduceLeDiff, Nat.reduceMul, Nat.reduceSub, Nat.reducePow, Int.reduceLT, Int.reduceLE, Int.reduceToNat, Int.reducePow, IntKind.bits, Int.reduceEq, Int.reduceMul, Int.reduceNeg, ne_eq, reduceCtorEq, escT, BEq.rfl, beq_self_eq_true, Int.reduceAdd, Int.reduceSub, Int.reduceMod, Int.reduceDiv, Nat.reduceMod, Nat.reduceDiv, Nat.reduceLT, cond_true, cond_false, gt_iff_lt, ge_iff_le, g15, g14, g6, g7, g1, hi, Ytimdnnlfkkkpbaa.D53, ty2, ty3, ty4, ty22, ty98]
    refine ⟨[lstI ((List.range i).map xs), .bool ((List.range i).any os)], ?_, rfl, by simp⟩
    refine .cons _ _ _ _ ?_ (.cons _ _ _ _ (.same _ (.bool _)) .nil)
    have hb : blkAt (S ++ [some ⟨eachC xs i i, 0⟩]) S.length 0 = some ⟨eachC xs i i, 0⟩ := by rw [blkAt_app0, blkAt_zero]
    have h := Fin1.sl (base := S.length) (H := S ++ [some ⟨eachC xs i i, 0⟩]) S.length 0 0 i i 1 _ (Nat.le_refl _) hb (by
      intro x hx
      rw [eachC_all] at hx
      simp only [List.mem_map] at hx
      obtain ⟨j, _, rfl⟩ := hx
      exact .int _ _) (by simp [eachC_len])
    have e : List.take (i * 1) (List.drop 0 (eachC xs i i)) = ((List.range i).map xs).map fun x => AV.int .i64 x := by
      rw [eachC_all, List.drop_zero, List.take_of_length_le (by simp)]
      simp
    rw [e] at h
    simpa [lstI] using h
end Go.Proofs.Ytimdnnlfkkkpbaa
