/- The document's answer (chapter 7): a vector times a number. -/
import Derived.Test.YtimdnnlfkkkpbaaDoorV3
import Derived.Test.YtimdnnlfkkkpbaaDoorP6
import Derived.Test.YtimdnnlfkkkpbaaDoorD4
set_option linter.unusedSimpArgs false
set_option linter.unusedVariables false
set_option maxRecDepth 100000
set_option maxHeartbeats 4000000
namespace Go.Proofs.YtimdnnlfkkkpbaaDoor
/-- The first i of what is told of each place. -/
def preL (f : Nat → Int) (i : Nat) : List Int := (List.range i).map f
def preO (f : Nat → Bool) (i : Nat) : Bool := (List.range i).any f
theorem preL_len (f : Nat → Int) (i : Nat) : (preL f i).length = i := by simp [preL]
theorem preL_app (f : Nat → Int) (i : Nat) : (preL f i).map (fun x => AV.int .i64 x) ++ [AV.int .i64 (f i)] = (preL f (i + 1)).map fun x => .int .i64 x := by unfold preL; rw [List.range_succ, List.map_append, List.map_append]; rfl
theorem preO_succ (f : Nat → Bool) (i : Nat) : preO f (i + 1) = (preO f i || f i) := by unfold preO; rw [List.range_succ, List.any_append]; simp
noncomputable def c21 : Code := Tryd.f21.body.getD .skip
theorem b21 : Tryd.f21.body = some c21 := rfl
theorem d21 : fnOk Tryd.f21 c21 = true := by kernel_rfl
def D21 : Nat → List Tag := fun _ => []
theorem e21 : drawsOk D21 c21 = true := by kernel_rfl
theorem refScale_ok (l : List Int) (k : Int) (S : Heap) (h0 : l.length ≤ 100) (h1 : ∀ x ∈ l, inI x) (hk : inI k) : Call theE 21 [lstI l, .int .i64 k] S (.tup [lstI (sclL l k), .bool (sclO l k)]) S := by
  have hf : sclL l k = preL (fun i => bndI (rnd (l.getD i 0 * k) (2 ^ 20))) l.length := rfl
  have ho : sclO l k = preO (fun i => ovrB (rnd (l.getD i 0 * k) (2 ^ 20))) l.length := rfl
  rw [hf, ho]
  have hd : ∀ i S, i < l.length → Call theE 54 [.lst [.int .i64 (l.getD i 0)] 1, .lst [.int .i64 k] 1, .int .i64 20] S (.tup [.int .i64 (bndI (rnd (l.getD i 0 * k) (2 ^ 20))), .bool (ovrB (rnd (l.getD i 0 * k) (2 ^ 20)))]) S := fun i S hi => by
    have hx : inI (l.getD i 0) := by rw [List.getD_eq_getElem?_getD, List.getElem?_eq_getElem hi]; exact h1 _ (List.getElem_mem hi)
    have := refDot_ok _ _ [l.getD i 0] [k] 20 S (SlI.lst _) (SlI.lst _) (by decide) rfl (by simp) (by simpa using hx) (by simpa using hk)
    rw [show dotZ [l.getD i 0] [k] = l.getD i 0 * k by simp [dotZ]] at this
    exact this
  generalize hF : (fun i => bndI (rnd (l.getD i 0 * k) (2 ^ 20))) = F
  generalize hG : (fun i => ovrB (rnd (l.getD i 0 * k) (2 ^ 20))) = G
  have hd2 : ∀ i S, i < l.length → Call theE 54 [.lst [.int .i64 (l.getD i 0)] 1, .lst [.int .i64 k] 1, .int .i64 20] S (.tup [.int .i64 (F i), .bool (G i)]) S := fun i S hi => by rw [← hF, ← hG]; exact hd i S hi
  clear hd hF hG
  refine Call.ofC Tryd.func21 YtimdnnlfkkkpbaaDoor.b21 YtimdnnlfkkkpbaaDoor.d21 YtimdnnlfkkkpbaaDoor.e21 (by simp [Tryd.f21]) ?_
  dsimp only [YtimdnnlfkkkpbaaDoor.c21, Tryd.f21, Option.getD_some]
  simp (maxSteps := 2000000) only [wk0, wk1, wk2, wk3, keepA, keepT, Fr.keep, frzT, flatT, arrayAtA, ownT, extT, Fr.ev, Fr.put, Fr.get, initFr, buildSliceA, zeros, pkB, pkT, pkF, ownDst, Env.kd, ofConst, isConst, binA, intI, cmpI, shiftI, convertA, buildA, fillA, fillS, splice, AV.cells?, storeA, readAt, fieldAddrA, fieldA, indexA, extractA, unA, builtinA, appendA, lenA, sliceCells, isSliceK, makeInterfaceA, nilCheckA, eqA, AV.one, AV.plain, if_false, if_true, Nat.reduceEqDiff, reduceIte, Nat.reduceAdd, List.replicate, Nat.reduceLeDiff, Nat.reduceMul, Nat.reduceSub, Nat.reducePow, Int.reduceLT, Int.reduceLE, Int.reduceToNat, Int.reducePow, IntKind.bits, Int.reduceEq, Int.reduceMul, Int.reduceNeg, ne_eq, reduceCtorEq, escT, BEq.rfl, beq_self_eq_true, Int.reduceAdd, Int.reduceSub, Int.reduceMod, Int.reduceDiv, Nat.reduceMod, Nat.reduceDiv, Nat.reduceLT, cond_true, cond_false, gt_iff_lt, ge_iff_le, lstI, YtimdnnlfkkkpbaaDoor.D21, ty1, ty2, ty3, ty4, ty23]
  refine loopC_ind (fun m fr H => ∃ i cap : Nat, i + m = l.length ∧ fr.get 0 = .lst (l.map fun x => .int .i64 x) l.length ∧ fr.get 1 = .int .i64 k ∧ fr.get 6 = .sl S.length i 0 i cap 1 ∧ fr.get 7 = .bool (preO G i) ∧ fr.get 8 = .int .i64 (i : Int) ∧
    H = S ++ [some ⟨(preL F i).map fun x => .int .i64 x, i⟩]) ?_ (n := l.length) ⟨0, 0, by omega, rfl, rfl, rfl, rfl, rfl, rfl⟩
  rintro m fr H ⟨i, cap, him, g0, g1, g6, g7, g8, rfl⟩ ih
  have cl := preL_len F i
  by_cases hi : (i : Int) < l.length
  · have hin : i < l.length := by omega
    have p1 : (0 : Int) ≤ i := by omega
    have cs := preL_app F i
    have a1 : (i + 1) * 8 ≤ maxBytes := by unfold maxBytes; omega
    have a2 : i + 1 ≤ 9223372036854775807 := by omega
    have wi : IntKind.i64.wrap ((i : Int) + 1) = ((i + 1 : Nat) : Int) := wrapI (by omega)
    have ga : (l.map fun x => AV.int .i64 x)[i]? = some (.int .i64 (l.getD i 0)) := by simp [List.getD_eq_getElem?_getD, List.getElem?_eq_getElem hin]
    have hdi := fun S => hd2 i S hin
    have an := preO_succ G i
    simp (maxSteps := 2000000) only [wk0, wk1, wk2, wk3, keepA, keepT, Fr.keep, frzT, flatT, arrayAtA, ownT, extT, Fr.ev, Fr.put, Fr.get, initFr, buildSliceA, zeros, pkB, pkT, pkF, ownDst, Env.kd, ofConst, isConst, binA, intI, cmpI, shiftI, convertA, buildA, fillA, fillS, splice, AV.cells?, storeA, readAt, fieldAddrA, fieldA, indexA, extractA, unA, builtinA, appendA, lenA, sliceCells, isSliceK, makeInterfaceA, nilCheckA, eqA, AV.one, AV.plain, if_false, if_true, Nat.reduceEqDiff, reduceIte, Nat.reduceAdd, List.replicate, Nat.reduceLeDiff, Nat.reduceMul, Nat.reduceSub, Nat.reducePow, Int.reduceLT, Int.reduceLE, Int.reduceToNat, Int.reducePow, IntKind.bits, Int.reduceEq, Int.reduceMul, Int.reduceNeg, ne_eq, reduceCtorEq, escT, BEq.rfl, beq_self_eq_true, Int.reduceAdd, Int.reduceSub, Int.reduceMod, Int.reduceDiv, Nat.reduceMod, Nat.reduceDiv, Nat.reduceLT, cond_true, cond_false, gt_iff_lt, ge_iff_le, g0, g1, g6, g7, g8, hi, p1, ga, Int.toNat_natCast, Nat.mul_one, YtimdnnlfkkkpbaaDoor.D21, ty1, ty2, ty3, ty4, ty23]
    refine callThen_of (hdi _) ?_
    cases hb : preO G i
    · simp (maxSteps := 2000000) only [wk0, wk1, wk2, wk3, keepA, keepT, Fr.keep, frzT, flatT, arrayAtA, ownT, extT, Fr.ev, Fr.put, Fr.get, initFr, buildSliceA, zeros, pkB, pkT, pkF, ownDst, Env.kd, ofConst, isConst, binA, intI, cmpI, shiftI, convertA, buildA, fillA, fillS, splice, AV.cells?, storeA, readAt, fieldAddrA, fieldA, indexA, extractA, unA, builtinA, appendA, lenA, sliceCells, isSliceK, makeInterfaceA, nilCheckA, eqA, AV.one, AV.plain, if_false, if_true, Nat.reduceEqDiff, reduceIte, Nat.reduceAdd, List.replicate, Nat.reduceLeDiff, Nat.reduceMul, Nat.reduceSub, Nat.reducePow, Int.reduceLT, Int.reduceLE, Int.reduceToNat, Int.reducePow, IntKind.bits, Int.reduceEq, Int.reduceMul, Int.reduceNeg, ne_eq, reduceCtorEq, escT, BEq.rfl, beq_self_eq_true, Int.reduceAdd, Int.reduceSub, Int.reduceMod, Int.reduceDiv, Nat.reduceMod, Nat.reduceDiv, Nat.reduceLT, cond_true, cond_false, gt_iff_lt, ge_iff_le, g0, g1, g6, g7, g8, hi, cl, cs, a1, a2, wi, hb, List.length_map, Nat.mul_one, YtimdnnlfkkkpbaaDoor.D21, ty1, ty2, ty3, ty4, ty23]
      exact ih (m - 1) _ _ (by omega) ⟨i + 1, i + 1, by omega, by simp [Fr.get, g0], by simp [Fr.get, g1], by simp [Fr.get], by simp [Fr.get, an, hb], by simp [Fr.get], rfl⟩
    · simp (maxSteps := 2000000) only [wk0, wk1, wk2, wk3, keepA, keepT, Fr.keep, frzT, flatT, arrayAtA, ownT, extT, Fr.ev, Fr.put, Fr.get, initFr, buildSliceA, zeros, pkB, pkT, pkF, ownDst, Env.kd, ofConst, isConst, binA, intI, cmpI, shiftI, convertA, buildA, fillA, fillS, splice, AV.cells?, storeA, readAt, fieldAddrA, fieldA, indexA, extractA, unA, builtinA, appendA, lenA, sliceCells, isSliceK, makeInterfaceA, nilCheckA, eqA, AV.one, AV.plain, if_false, if_true, Nat.reduceEqDiff, reduceIte, Nat.reduceAdd, List.replicate, Nat.reduceLeDiff, Nat.reduceMul, Nat.reduceSub, Nat.reducePow, Int.reduceLT, Int.reduceLE, Int.reduceToNat, Int.reducePow, IntKind.bits, Int.reduceEq, Int.reduceMul, Int.reduceNeg, ne_eq, reduceCtorEq, escT, BEq.rfl, beq_self_eq_true, Int.reduceAdd, Int.reduceSub, Int.reduceMod, Int.reduceDiv, Nat.reduceMod, Nat.reduceDiv, Nat.reduceLT, cond_true, cond_false, gt_iff_lt, ge_iff_le, g0, g1, g6, g7, g8, hi, cl, cs, a1, a2, wi, hb, List.length_map, Nat.mul_one, YtimdnnlfkkkpbaaDoor.D21, ty1, ty2, ty3, ty4, ty23]
      exact ih (m - 1) _ _ (by omega) ⟨i + 1, i + 1, by omega, by simp [Fr.get, g0], by simp [Fr.get, g1], by simp [Fr.get], by simp [Fr.get, an, hb], by simp [Fr.get], rfl⟩
  · obtain rfl : i = l.length := by omega
    simp (maxSteps := 2000000) only [wk0, wk1, wk2, wk3, keepA, keepT, Fr.keep, frzT, flatT, arrayAtA, ownT, extT, Fr.ev, Fr.put, Fr.get, initFr, buildSliceA, zeros, pkB, pkT, pkF, ownDst, Env.kd, ofConst, isConst, binA, intI, cmpI, shiftI, convertA, buildA, fillA, fillS, splice, AV.cells?, storeA, readAt, fieldAddrA, fieldA, indexA, extractA, unA, builtinA, appendA, lenA, sliceCells, isSliceK, makeInterfaceA, nilCheckA, eqA, AV.one, AV.plain, if_false, if_true, Nat.reduceEqDiff, reduceIte, Nat.reduceAdd, List.replicate, Nat.reduceLeDiff, Nat.reduceMul, Nat.reduceSub, Nat.reducePow, Int.reduceLT, Int.reduceLE, Int.reduceToNat, Int.reducePow, IntKind.bits, Int.reduceEq, Int.reduceMul, Int.reduceNeg, ne_eq, reduceCtorEq, escT, BEq.rfl, beq_self_eq_true, Int.reduceAdd, Int.reduceSub, Int.reduceMod, Int.reduceDiv, Nat.reduceMod, Nat.reduceDiv, Nat.reduceLT, cond_true, cond_false, gt_iff_lt, ge_iff_le, g0, g1, g6, g7, g8, hi, YtimdnnlfkkkpbaaDoor.D21, ty1, ty2, ty3, ty4, ty23]
    refine retB_two ?_ (.same _ (.bool _)) (by simp)
    have h := fin_sl (base := S.length) (id := S.length) (ver := l.length) (cap := cap) (u := l.length) (L := preL F l.length) (H := S ++ [some ⟨(preL F l.length).map fun x => .int .i64 x, l.length⟩]) (Nat.le_refl _) (by rw [blkAt_app0, blkAt_zero])
    rw [cl] at h
    exact h
end Go.Proofs.YtimdnnlfkkkpbaaDoor
