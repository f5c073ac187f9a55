/- The document's answer (chapter 7): joins. -/
import Derived.Test.YtimdnnlfkkkpbaaDoorV5
set_option linter.unusedSimpArgs false
set_option linter.unusedVariables false
set_option maxRecDepth 100000
set_option maxHeartbeats 4000000
namespace Go.Proofs.YtimdnnlfkkkpbaaDoor
noncomputable def c10 : Code := Tryd.f10.body.getD .skip
theorem b10 : Tryd.f10.body = some c10 := rfl
theorem d10 : fnOk Tryd.f10 c10 = true := by kernel_rfl
def D10 : Nat → List Tag
  | 6 => [.pure, .pure, .pure, .quiet, .pure, .pure, .pure, .quiet, .pure, .pure]
  | _ => []
theorem e10 : drawsOk D10 c10 = true := by kernel_rfl
noncomputable def c13 : Code := Tryd.f13.body.getD .skip
theorem b13 : Tryd.f13.body = some c13 := rfl
theorem d13 : fnOk Tryd.f13 c13 = true := by kernel_rfl
def D13 : Nat → List Tag := fun _ => []
theorem e13 : drawsOk D13 c13 = true := by kernel_rfl
theorem refCheck_ok (l : List (List Int)) (ch : List Int) (S : Heap) (h : mayJ l ch) : Call theE 10 [lstL l, lstI ch] S (.int .i64 0) S := by
  obtain ⟨h1, h2, h3, h4, h5⟩ := h
  have hl0 : 0 < l.length := by omega
  have e0 : l.getD 0 [] = l[0] := by simp [List.getD_eq_getElem?_getD, List.getElem?_eq_getElem hl0]
  rw [e0] at h4 h5
  have gl0 := get_lstL hl0
  have q1 : ¬ (l.length : Int) < 1 := by omega
  have q2 : ¬ (4 : Int) < l.length := by omega
  have q3 : ((l.length : Int) = ch.length) = True := eq_true (by omega)
  have q4 : ¬ (6 : Int) < (l[0].length : Int) := by omega
  have q5 : (0 : Int) < l.length := by omega
  refine Call.ofC Tryd.func10 b10 d10 e10 (by simp [Tryd.f10]) ?_
  dsimp only [c10, Tryd.f10, Option.getD_some]
  simp (maxSteps := 2000000) only [wk0, wk1, wk2, wk3, keepA, frzT, flatT, arrayAtA, ownT, extT, Fr.ev, Fr.put, Fr.get, initFr, buildSliceA, zeros, pkB, pkT, pkF, ownDst, Env.kd, ofConst, isConst, binA, intI, cmpI, shiftI, convertA, buildA, fillA, fillS, splice, AV.cells?, storeA, readAt, fieldAddrA, fieldA, indexA, extractA, unA, builtinA, appendA, lenA, sliceCells, isSliceK, makeInterfaceA, nilCheckA, eqA, AV.one, AV.plain, if_false, if_true, Nat.reduceEqDiff, reduceIte, Nat.reduceAdd, List.replicate, Nat.reduceLeDiff, Nat.reduceMul, Nat.reduceSub, Nat.reducePow, Int.reduceLT, Int.reduceLE, Int.reduceToNat, Int.reducePow, IntKind.bits, Int.reduceEq, Int.reduceMul, Int.reduceNeg, ne_eq, reduceCtorEq, escT, BEq.rfl, beq_self_eq_true, Int.reduceAdd, Int.reduceSub, Int.reduceMod, Int.reduceDiv, Nat.reduceMod, Nat.reduceDiv, Nat.reduceLT, cond_true, cond_false, gt_iff_lt, ge_iff_le, lstI, lstL, q1, q2, q3, q4, q5, gl0, D10, ty3, ty4, ty22, ty23]
  refine loopC_ind (fun m fr H => ∃ i : Nat, i + m = l.length ∧ fr.get 0 = .lst (l.map lstI) l.length ∧ fr.get 5 = .int .i64 (i : Int) ∧ H = S) ?_ (n := l.length) ⟨0, by omega, rfl, rfl, rfl⟩
  rintro m fr H ⟨i, him, g0, g5, rfl⟩ ih
  by_cases hi : (i : Int) < l.length
  · have hin : i < l.length := by omega
    have k1 : (0 : Int) ≤ i := by omega
    have gl := get_lstL hin
    have wi : IntKind.i64.wrap ((i : Int) + 1) = ((i + 1 : Nat) : Int) := wrapI (by omega)
    have q6 : ((l[i].length : Int) = (l[0].length : Int)) = True := eq_true (by have := h5 _ (List.getElem_mem hin); omega)
    simp (maxSteps := 2000000) only [wk0, wk1, wk2, wk3, keepA, frzT, flatT, arrayAtA, ownT, extT, Fr.ev, Fr.put, Fr.get, initFr, buildSliceA, zeros, pkB, pkT, pkF, ownDst, Env.kd, ofConst, isConst, binA, intI, cmpI, shiftI, convertA, buildA, fillA, fillS, splice, AV.cells?, storeA, readAt, fieldAddrA, fieldA, indexA, extractA, unA, builtinA, appendA, lenA, sliceCells, isSliceK, makeInterfaceA, nilCheckA, eqA, AV.one, AV.plain, if_false, if_true, Nat.reduceEqDiff, reduceIte, Nat.reduceAdd, List.replicate, Nat.reduceLeDiff, Nat.reduceMul, Nat.reduceSub, Nat.reducePow, Int.reduceLT, Int.reduceLE, Int.reduceToNat, Int.reducePow, IntKind.bits, Int.reduceEq, Int.reduceMul, Int.reduceNeg, ne_eq, reduceCtorEq, escT, BEq.rfl, beq_self_eq_true, Int.reduceAdd, Int.reduceSub, Int.reduceMod, Int.reduceDiv, Nat.reduceMod, Nat.reduceDiv, Nat.reduceLT, cond_true, cond_false, gt_iff_lt, ge_iff_le, lstI, lstL, g0, g5, hi, k1, q5, q6, gl0, gl, wi, Int.toNat_natCast, Nat.mul_one, D10, ty3, ty4, ty22, ty23]
    exact ih (m - 1) _ _ (by omega) ⟨i + 1, by omega, by simp [Fr.get, g0], by simp [Fr.get], rfl⟩
  · simp (maxSteps := 2000000) only [wk0, wk1, wk2, wk3, keepA, frzT, flatT, arrayAtA, ownT, extT, Fr.ev, Fr.put, Fr.get, initFr, buildSliceA, zeros, pkB, pkT, pkF, ownDst, Env.kd, ofConst, isConst, binA, intI, cmpI, shiftI, convertA, buildA, fillA, fillS, splice, AV.cells?, storeA, readAt, fieldAddrA, fieldA, indexA, extractA, unA, builtinA, appendA, lenA, sliceCells, isSliceK, makeInterfaceA, nilCheckA, eqA, AV.one, AV.plain, if_false, if_true, Nat.reduceEqDiff, reduceIte, Nat.reduceAdd, List.replicate, Nat.reduceLeDiff, Nat.reduceMul, Nat.reduceSub, Nat.reducePow, Int.reduceLT, Int.reduceLE, Int.reduceToNat, Int.reducePow, IntKind.bits, Int.reduceEq, Int.reduceMul, Int.reduceNeg, ne_eq, reduceCtorEq, escT, BEq.rfl, beq_self_eq_true, Int.reduceAdd, Int.reduceSub, Int.reduceMod, Int.reduceDiv, Nat.reduceMod, Nat.reduceDiv, Nat.reduceLT, cond_true, cond_false, gt_iff_lt, ge_iff_le, g0, g5, hi, D10, ty3, ty4, ty22, ty23]
    exact retB_plain (by simp [nmd_int]) rfl (by simp)
theorem refCheck_bad (l : List (List Int)) (ch : List Int) (S : Heap) (h : ¬ mayJ l ch) : Call theE 10 [lstL l, lstI ch] S (.int .i64 1) S := by
  unfold mayJ at h
  refine Call.ofC Tryd.func10 b10 d10 e10 (by simp [Tryd.f10]) ?_
  dsimp only [c10, Tryd.f10, Option.getD_some]
  by_cases q1 : (l.length : Int) < 1
  · simp (maxSteps := 2000000) only [wk0, wk1, wk2, wk3, keepA, frzT, flatT, arrayAtA, ownT, extT, Fr.ev, Fr.put, Fr.get, initFr, buildSliceA, zeros, pkB, pkT, pkF, ownDst, Env.kd, ofConst, isConst, binA, intI, cmpI, shiftI, convertA, buildA, fillA, fillS, splice, AV.cells?, storeA, readAt, fieldAddrA, fieldA, indexA, extractA, unA, builtinA, appendA, lenA, sliceCells, isSliceK, makeInterfaceA, nilCheckA, eqA, AV.one, AV.plain, if_false, if_true, Nat.reduceEqDiff, reduceIte, Nat.reduceAdd, List.replicate, Nat.reduceLeDiff, Nat.reduceMul, Nat.reduceSub, Nat.reducePow, Int.reduceLT, Int.reduceLE, Int.reduceToNat, Int.reducePow, IntKind.bits, Int.reduceEq, Int.reduceMul, Int.reduceNeg, ne_eq, reduceCtorEq, escT, BEq.rfl, beq_self_eq_true, Int.reduceAdd, Int.reduceSub, Int.reduceMod, Int.reduceDiv, Nat.reduceMod, Nat.reduceDiv, Nat.reduceLT, cond_true, cond_false, gt_iff_lt, ge_iff_le, lstI, lstL, q1, D10, ty3, ty4, ty22, ty23]
    exact retB_plain (by simp [nmd_int]) rfl (by simp)
  · by_cases q2 : (4 : Int) < l.length
    · simp (maxSteps := 2000000) only [wk0, wk1, wk2, wk3, keepA, frzT, flatT, arrayAtA, ownT, extT, Fr.ev, Fr.put, Fr.get, initFr, buildSliceA, zeros, pkB, pkT, pkF, ownDst, Env.kd, ofConst, isConst, binA, intI, cmpI, shiftI, convertA, buildA, fillA, fillS, splice, AV.cells?, storeA, readAt, fieldAddrA, fieldA, indexA, extractA, unA, builtinA, appendA, lenA, sliceCells, isSliceK, makeInterfaceA, nilCheckA, eqA, AV.one, AV.plain, if_false, if_true, Nat.reduceEqDiff, reduceIte, Nat.reduceAdd, List.replicate, Nat.reduceLeDiff, Nat.reduceMul, Nat.reduceSub, Nat.reducePow, Int.reduceLT, Int.reduceLE, Int.reduceToNat, Int.reducePow, IntKind.bits, Int.reduceEq, Int.reduceMul, Int.reduceNeg, ne_eq, reduceCtorEq, escT, BEq.rfl, beq_self_eq_true, Int.reduceAdd, Int.reduceSub, Int.reduceMod, Int.reduceDiv, Nat.reduceMod, Nat.reduceDiv, Nat.reduceLT, cond_true, cond_false, gt_iff_lt, ge_iff_le, lstI, lstL, q1, q2, D10, ty3, ty4, ty22, ty23]
      exact retB_plain (by simp [nmd_int]) rfl (by simp)
    · by_cases q3' : (l.length : Int) = ch.length
      · have q3 := eq_true q3'
        have hl0 : 0 < l.length := by omega
        have e0 : l.getD 0 [] = l[0] := by simp [List.getD_eq_getElem?_getD, List.getElem?_eq_getElem hl0]
        rw [e0] at h
        have gl0 := get_lstL hl0
        have q5 : (0 : Int) < l.length := by omega
        by_cases q4 : (6 : Int) < (l[0].length : Int)
        · simp (maxSteps := 2000000) only [wk0, wk1, wk2, wk3, keepA, frzT, flatT, arrayAtA, ownT, extT, Fr.ev, Fr.put, Fr.get, initFr, buildSliceA, zeros, pkB, pkT, pkF, ownDst, Env.kd, ofConst, isConst, binA, intI, cmpI, shiftI, convertA, buildA, fillA, fillS, splice, AV.cells?, storeA, readAt, fieldAddrA, fieldA, indexA, extractA, unA, builtinA, appendA, lenA, sliceCells, isSliceK, makeInterfaceA, nilCheckA, eqA, AV.one, AV.plain, if_false, if_true, Nat.reduceEqDiff, reduceIte, Nat.reduceAdd, List.replicate, Nat.reduceLeDiff, Nat.reduceMul, Nat.reduceSub, Nat.reducePow, Int.reduceLT, Int.reduceLE, Int.reduceToNat, Int.reducePow, IntKind.bits, Int.reduceEq, Int.reduceMul, Int.reduceNeg, ne_eq, reduceCtorEq, escT, BEq.rfl, beq_self_eq_true, Int.reduceAdd, Int.reduceSub, Int.reduceMod, Int.reduceDiv, Nat.reduceMod, Nat.reduceDiv, Nat.reduceLT, cond_true, cond_false, gt_iff_lt, ge_iff_le, lstI, lstL, q1, q2, q3, q4, q5, gl0, D10, ty3, ty4, ty22, ty23]
          exact retB_plain (by simp [nmd_int]) rfl (by simp)
        · simp (maxSteps := 2000000) only [wk0, wk1, wk2, wk3, keepA, frzT, flatT, arrayAtA, ownT, extT, Fr.ev, Fr.put, Fr.get, initFr, buildSliceA, zeros, pkB, pkT, pkF, ownDst, Env.kd, ofConst, isConst, binA, intI, cmpI, shiftI, convertA, buildA, fillA, fillS, splice, AV.cells?, storeA, readAt, fieldAddrA, fieldA, indexA, extractA, unA, builtinA, appendA, lenA, sliceCells, isSliceK, makeInterfaceA, nilCheckA, eqA, AV.one, AV.plain, if_false, if_true, Nat.reduceEqDiff, reduceIte, Nat.reduceAdd, List.replicate, Nat.reduceLeDiff, Nat.reduceMul, Nat.reduceSub, Nat.reducePow, Int.reduceLT, Int.reduceLE, Int.reduceToNat, Int.reducePow, IntKind.bits, Int.reduceEq, Int.reduceMul, Int.reduceNeg, ne_eq, reduceCtorEq, escT, BEq.rfl, beq_self_eq_true, Int.reduceAdd, Int.reduceSub, Int.reduceMod, Int.reduceDiv, Nat.reduceMod, Nat.reduceDiv, Nat.reduceLT, cond_true, cond_false, gt_iff_lt, ge_iff_le, lstI, lstL, q1, q2, q3, q4, q5, gl0, D10, ty3, ty4, ty22, ty23]
          refine loopC_ind (fun m fr H => ∃ i : Nat, i + m = l.length ∧ (∀ r ∈ l.take i, r.length = l[0].length) ∧ fr.get 0 = .lst (l.map lstI) l.length ∧ fr.get 5 = .int .i64 (i : Int) ∧ H = S) ?_ (n := l.length) ⟨0, by omega, by simp, rfl, rfl, rfl⟩
          rintro m fr H ⟨i, him, hall, g0, g5, rfl⟩ ih
          by_cases hi : (i : Int) < l.length
          · have hin : i < l.length := by omega
            have k1 : (0 : Int) ≤ i := by omega
            have gl := get_lstL hin
            have wi : IntKind.i64.wrap ((i : Int) + 1) = ((i + 1 : Nat) : Int) := wrapI (by omega)
            by_cases q6' : (l[i].length : Int) = (l[0].length : Int)
            · have q6 := eq_true q6'
              simp (maxSteps := 2000000) only [wk0, wk1, wk2, wk3, keepA, frzT, flatT, arrayAtA, ownT, extT, Fr.ev, Fr.put, Fr.get, initFr, buildSliceA, zeros, pkB, pkT, pkF, ownDst, Env.kd, ofConst, isConst, binA, intI, cmpI, shiftI, convertA, buildA, fillA, fillS, splice, AV.cells?, storeA, readAt, fieldAddrA, fieldA, indexA, extractA, unA, builtinA, appendA, lenA, sliceCells, isSliceK, makeInterfaceA, nilCheckA, eqA, AV.one, AV.plain, if_false, if_true, Nat.reduceEqDiff, reduceIte, Nat.reduceAdd, List.replicate, Nat.reduceLeDiff, Nat.reduceMul, Nat.reduceSub, Nat.reducePow, Int.reduceLT, Int.reduceLE, Int.reduceToNat, Int.reducePow, IntKind.bits, Int.reduceEq, Int.reduceMul, Int.reduceNeg, ne_eq, reduceCtorEq, escT, BEq.rfl, beq_self_eq_true, Int.reduceAdd, Int.reduceSub, Int.reduceMod, Int.reduceDiv, Nat.reduceMod, Nat.reduceDiv, Nat.reduceLT, cond_true, cond_false, gt_iff_lt, ge_iff_le, lstI, lstL, g0, g5, hi, k1, q5, q6, gl0, gl, wi, Int.toNat_natCast, Nat.mul_one, D10, ty3, ty4, ty22, ty23]
              refine ih (m - 1) _ _ (by omega) ⟨i + 1, by omega, ?_, by simp [Fr.get, g0], by simp [Fr.get], rfl⟩
              intro r hr
              rw [List.take_succ_eq_append_getElem hin] at hr
              rcases List.mem_append.1 hr with hr | hr
              · exact hall r hr
              · simp at hr; subst hr; omega
            · have q6 := eq_false q6'
              simp (maxSteps := 2000000) only [wk0, wk1, wk2, wk3, keepA, frzT, flatT, arrayAtA, ownT, extT, Fr.ev, Fr.put, Fr.get, initFr, buildSliceA, zeros, pkB, pkT, pkF, ownDst, Env.kd, ofConst, isConst, binA, intI, cmpI, shiftI, convertA, buildA, fillA, fillS, splice, AV.cells?, storeA, readAt, fieldAddrA, fieldA, indexA, extractA, unA, builtinA, appendA, lenA, sliceCells, isSliceK, makeInterfaceA, nilCheckA, eqA, AV.one, AV.plain, if_false, if_true, Nat.reduceEqDiff, reduceIte, Nat.reduceAdd, List.replicate, Nat.reduceLeDiff, Nat.reduceMul, Nat.reduceSub, Nat.reducePow, Int.reduceLT, Int.reduceLE, Int.reduceToNat, Int.reducePow, IntKind.bits, Int.reduceEq, Int.reduceMul, Int.reduceNeg, ne_eq, reduceCtorEq, escT, BEq.rfl, beq_self_eq_true, Int.reduceAdd, Int.reduceSub, Int.reduceMod, Int.reduceDiv, Nat.reduceMod, Nat.reduceDiv, Nat.reduceLT, cond_true, cond_false, gt_iff_lt, ge_iff_le, lstI, lstL, g0, g5, hi, k1, q5, q6, gl0, gl, wi, Int.toNat_natCast, Nat.mul_one, D10, ty3, ty4, ty22, ty23]
              exact retB_plain (by simp [nmd_int]) rfl (by simp)
          · exfalso
            rw [List.take_of_length_le (by omega)] at hall
            exact h ⟨by omega, by omega, by omega, by omega, hall⟩
      · have q3 := eq_false q3'
        simp (maxSteps := 2000000) only [wk0, wk1, wk2, wk3, keepA, frzT, flatT, arrayAtA, ownT, extT, Fr.ev, Fr.put, Fr.get, initFr, buildSliceA, zeros, pkB, pkT, pkF, ownDst, Env.kd, ofConst, isConst, binA, intI, cmpI, shiftI, convertA, buildA, fillA, fillS, splice, AV.cells?, storeA, readAt, fieldAddrA, fieldA, indexA, extractA, unA, builtinA, appendA, lenA, sliceCells, isSliceK, makeInterfaceA, nilCheckA, eqA, AV.one, AV.plain, if_false, if_true, Nat.reduceEqDiff, reduceIte, Nat.reduceAdd, List.replicate, Nat.reduceLeDiff, Nat.reduceMul, Nat.reduceSub, Nat.reducePow, Int.reduceLT, Int.reduceLE, Int.reduceToNat, Int.reducePow, IntKind.bits, Int.reduceEq, Int.reduceMul, Int.reduceNeg, ne_eq, reduceCtorEq, escT, BEq.rfl, beq_self_eq_true, Int.reduceAdd, Int.reduceSub, Int.reduceMod, Int.reduceDiv, Nat.reduceMod, Nat.reduceDiv, Nat.reduceLT, cond_true, cond_false, gt_iff_lt, ge_iff_le, lstI, lstL, q1, q2, q3, D10, ty3, ty4, ty22, ty23]
        exact retB_plain (by simp [nmd_int]) rfl (by simp)
theorem colI_app {l : List (List Int)} {j k : Nat} (hin : j < l.length) (hk : k < l[j].length) : (colI (l.take j) k).map (fun x => AV.int .i64 x) ++ [AV.int .i64 ((l[j])[k])] = (colI (l.take (j + 1)) k).map fun x => .int .i64 x := by
  unfold colI
  rw [List.take_succ_eq_append_getElem hin, List.map_append, List.map_append, List.map_cons, List.map_nil, List.map_cons, List.map_nil, List.getD_eq_getElem?_getD, List.getElem?_eq_getElem hk]
  rfl
theorem refJoin_ok (l : List (List Int)) (ch : List Int) (n : Nat) (S : Heap) (h0 : 1 ≤ l.length ∧ l.length ≤ 4) (hlc : l.length = ch.length) (hn : n ≤ 6) (hr : ∀ r ∈ l, r.length = n) (h1 : ∀ r ∈ l, ∀ x ∈ r, inI x) (h2 : ∀ x ∈ ch, inI x) :
    Call theE 13 [lstL l, lstI ch] S (.tup [lstI (joinL l ch n), .bool (joinO l ch n)]) S := by
  have hf : joinL l ch n = preL (fun k => bndI (rnd (dotZ (colI l k) ch) (2 ^ 30))) n := rfl
  have ho : joinO l ch n = preO (fun k => ovrB (rnd (dotZ (colI l k) ch) (2 ^ 30))) n := rfl
  rw [hf, ho]
  have hd2 : ∀ k v S, SlI S v (colI l k) → Call theE 54 [v, .lst (ch.map fun x => .int .i64 x) ch.length, .int .i64 30] S (.tup [.int .i64 ((fun k => bndI (rnd (dotZ (colI l k) ch) (2 ^ 30))) k), .bool ((fun k => ovrB (rnd (dotZ (colI l k) ch) (2 ^ 30))) k)]) S := fun k v S hv =>
    refDot_ok v _ (colI l k) ch 30 S hv (SlI.lst ch) (by decide) (by simp [colI, hlc]) (by simp [colI]; omega) (colI_in h1) h2
  generalize (fun k => bndI (rnd (dotZ (colI l k) ch) (2 ^ 30))) = F at *
  generalize (fun k => ovrB (rnd (dotZ (colI l k) ch) (2 ^ 30))) = G at *
  have hl0 : 0 < l.length := by omega
  have gl0 := get_lstL hl0
  have hr0 := hr _ (List.getElem_mem hl0)
  have q5 : (0 : Int) < l.length := by omega
  refine Call.ofC Tryd.func13 b13 d13 e13 (by simp [Tryd.f13]) ?_
  dsimp only [c13, Tryd.f13, Option.getD_some]
  simp (maxSteps := 2000000) only [wk0, wk1, wk2, wk3, keepA, frzT, flatT, arrayAtA, ownT, extT, Fr.ev, Fr.put, Fr.get, initFr, buildSliceA, zeros, pkB, pkT, pkF, ownDst, Env.kd, ofConst, isConst, binA, intI, cmpI, shiftI, convertA, buildA, fillA, fillS, splice, AV.cells?, storeA, readAt, fieldAddrA, fieldA, indexA, extractA, unA, builtinA, appendA, lenA, sliceCells, isSliceK, makeInterfaceA, nilCheckA, eqA, AV.one, AV.plain, if_false, if_true, Nat.reduceEqDiff, reduceIte, Nat.reduceAdd, List.replicate, Nat.reduceLeDiff, Nat.reduceMul, Nat.reduceSub, Nat.reducePow, Int.reduceLT, Int.reduceLE, Int.reduceToNat, Int.reducePow, IntKind.bits, Int.reduceEq, Int.reduceMul, Int.reduceNeg, ne_eq, reduceCtorEq, escT, BEq.rfl, beq_self_eq_true, Int.reduceAdd, Int.reduceSub, Int.reduceMod, Int.reduceDiv, Nat.reduceMod, Nat.reduceDiv, Nat.reduceLT, cond_true, cond_false, gt_iff_lt, ge_iff_le, lstI, lstL, D13, ty1, ty2, ty3, ty4, ty22, ty23]
  refine loopC_ind (fun m fr H => ∃ (i cap : Nat) (T : Heap), i + m = n ∧ fr.get 0 = .lst (l.map lstI) l.length ∧ fr.get 1 = .lst (ch.map fun x => .int .i64 x) ch.length ∧ fr.get 6 = .sl S.length i 0 i cap 1 ∧ fr.get 7 = .bool (preO G i) ∧ fr.get 8 = .int .i64 (i : Int) ∧
    S ++ some ⟨(preL F i).map fun x => .int .i64 x, i⟩ :: T = H) ?_ (n := n) ⟨0, 0, [], by omega, rfl, rfl, rfl, rfl, rfl, rfl⟩
  rintro m fr P ⟨i, cap, T, him, g0, g1, g6, g7, g8, hP⟩ ih
  have cl := preL_len F i
  have tb := fun L => tail_blk hP L rfl
  have tb0 := tail_blk0 hP rfl
  have ts := fun L b => tail_set hP L b
  have tm := fun vs => tail_may hP vs
  have ta := fun a b c d e x H => show mayAppend S.length .append [.sl P.length a b c d e, x] H = True by simp only [mayAppend, eq_iff_iff, iff_true]; left; rw [← hP]; simp
  by_cases hi : (i : Int) < n
  · have k2 : (0 : Int) ≤ i := by omega
    have cs := preL_app F i
    have a1 : (i + 1) * 8 ≤ maxBytes := by unfold maxBytes; omega
    have a2 : i + 1 ≤ 9223372036854775807 := by omega
    have wi : IntKind.i64.wrap ((i : Int) + 1) = ((i + 1 : Nat) : Int) := wrapI (by omega)
    have an := preO_succ G i
    have hdi := fun v S h => hd2 i v S h
    simp (maxSteps := 2000000) only [wk0, wk1, wk2, wk3, keepA, frzT, flatT, arrayAtA, ownT, extT, Fr.ev, Fr.put, Fr.get, initFr, buildSliceA, zeros, pkB, pkT, pkF, ownDst, Env.kd, ofConst, isConst, binA, intI, cmpI, shiftI, convertA, buildA, fillA, fillS, splice, AV.cells?, storeA, readAt, fieldAddrA, fieldA, indexA, extractA, unA, builtinA, appendA, lenA, sliceCells, isSliceK, makeInterfaceA, nilCheckA, eqA, AV.one, AV.plain, if_false, if_true, Nat.reduceEqDiff, reduceIte, Nat.reduceAdd, List.replicate, Nat.reduceLeDiff, Nat.reduceMul, Nat.reduceSub, Nat.reducePow, Int.reduceLT, Int.reduceLE, Int.reduceToNat, Int.reducePow, IntKind.bits, Int.reduceEq, Int.reduceMul, Int.reduceNeg, ne_eq, reduceCtorEq, escT, BEq.rfl, beq_self_eq_true, Int.reduceAdd, Int.reduceSub, Int.reduceMod, Int.reduceDiv, Nat.reduceMod, Nat.reduceDiv, Nat.reduceLT, cond_true, cond_false, gt_iff_lt, ge_iff_le, g0, g1, g6, g7, g8, hi, k2, gl0, hr0, q5, lstI, D13, ty1, ty2, ty3, ty4, ty22, ty23]
    refine loopC_ind (fun m' fr H => ∃ (j cap2 : Nat), j + m' = l.length ∧ fr.get 0 = .lst (l.map lstI) l.length ∧ fr.get 1 = .lst (ch.map fun x => .int .i64 x) ch.length ∧ fr.get 6 = .sl S.length i 0 i cap 1 ∧ fr.get 7 = .bool (preO G i) ∧ fr.get 8 = .int .i64 (i : Int) ∧ fr.get 9 = .sl P.length j 0 j cap2 1 ∧ fr.get 10 = .int .i64 (j : Int) ∧
      H = P ++ [some ⟨(colI (l.take j) i).map fun x => .int .i64 x, j⟩]) ?_ (n := l.length) ⟨0, 0, by omega, by simp [Fr.get, g0], by simp [Fr.get, g1], by simp [Fr.get, g6], by simp [Fr.get, g7], by simp [Fr.get, g8], rfl, rfl, rfl⟩
    rintro m' fr H ⟨j, cap2, hjm, g0, g1, g6, g7, g8, g9, g10, rfl⟩ ih2
    by_cases hj : (j : Int) < l.length
    · have hjn : j < l.length := by omega
      have k1 : (0 : Int) ≤ j := by omega
      have hkr : i < l[j].length := by rw [hr _ (List.getElem_mem hjn)]; omega
      have k3 : (i : Int) < (l[j]).length := by omega
      have gl := get_lstL hjn
      have gk := get_lstI hkr
      have wj : IntKind.i64.wrap ((j : Int) + 1) = ((j + 1 : Nat) : Int) := wrapI (by omega)
      have cl2 : (colI (l.take j) i).length = j := by simp [colI]; omega
      have cs2 := colI_app hjn hkr
      have b1 : (j + 1) * 8 ≤ maxBytes := by unfold maxBytes; omega
      have b2 : j + 1 ≤ 9223372036854775807 := by omega
      simp (maxSteps := 2000000) only [wk0, wk1, wk2, wk3, keepA, frzT, flatT, arrayAtA, ownT, extT, Fr.ev, Fr.put, Fr.get, initFr, buildSliceA, zeros, pkB, pkT, pkF, ownDst, Env.kd, ofConst, isConst, binA, intI, cmpI, shiftI, convertA, buildA, fillA, fillS, splice, AV.cells?, storeA, readAt, fieldAddrA, fieldA, indexA, extractA, unA, builtinA, appendA, lenA, sliceCells, isSliceK, makeInterfaceA, nilCheckA, eqA, AV.one, AV.plain, if_false, if_true, Nat.reduceEqDiff, reduceIte, Nat.reduceAdd, List.replicate, Nat.reduceLeDiff, Nat.reduceMul, Nat.reduceSub, Nat.reducePow, Int.reduceLT, Int.reduceLE, Int.reduceToNat, Int.reducePow, IntKind.bits, Int.reduceEq, Int.reduceMul, Int.reduceNeg, ne_eq, reduceCtorEq, escT, BEq.rfl, beq_self_eq_true, Int.reduceAdd, Int.reduceSub, Int.reduceMod, Int.reduceDiv, Nat.reduceMod, Nat.reduceDiv, Nat.reduceLT, cond_true, cond_false, gt_iff_lt, ge_iff_le, lstI, lstL, g0, g1, g6, g7, g8, g9, g10, hj, k1, k2, k3, Int.toNat_natCast, Nat.mul_one, gl, gk, wj, List.length_map, cl2, cs2, b1, b2, ta, D13, ty1, ty2, ty3, ty4, ty22, ty23]
      exact ih2 (m' - 1) _ _ (by omega) ⟨j + 1, j + 1, by omega, by simp [Fr.get, g0], by simp [Fr.get, g1], by simp [Fr.get, g6], by simp [Fr.get, g7], by simp [Fr.get, g8], by simp [Fr.get], by simp [Fr.get], rfl⟩
    · obtain rfl : j = l.length := by omega
      rw [List.take_length]
      have cl2 : (colI l i).length = l.length := by simp [colI]
      have hv : SlI (P ++ [some ⟨(colI l i).map fun x => .int .i64 x, l.length⟩]) (.sl P.length l.length 0 l.length cap2 1) (colI l i) := by
        have hb : blkAt (P ++ [some ⟨(colI l i).map fun x => AV.int .i64 x, l.length⟩]) P.length l.length = some ⟨(colI l i).map fun x => .int .i64 x, l.length⟩ := by rw [blkAt_app0, blkAt_zero]
        have := SlI.sl (off := 0) (cap := cap2) (l := colI l i) hb (by rw [List.drop_zero, List.take_of_length_le (by simp)])
        rwa [cl2] at this
      simp (maxSteps := 2000000) only [wk0, wk1, wk2, wk3, keepA, frzT, flatT, arrayAtA, ownT, extT, Fr.ev, Fr.put, Fr.get, initFr, buildSliceA, zeros, pkB, pkT, pkF, ownDst, Env.kd, ofConst, isConst, binA, intI, cmpI, shiftI, convertA, buildA, fillA, fillS, splice, AV.cells?, storeA, readAt, fieldAddrA, fieldA, indexA, extractA, unA, builtinA, appendA, lenA, sliceCells, isSliceK, makeInterfaceA, nilCheckA, eqA, AV.one, AV.plain, if_false, if_true, Nat.reduceEqDiff, reduceIte, Nat.reduceAdd, List.replicate, Nat.reduceLeDiff, Nat.reduceMul, Nat.reduceSub, Nat.reducePow, Int.reduceLT, Int.reduceLE, Int.reduceToNat, Int.reducePow, IntKind.bits, Int.reduceEq, Int.reduceMul, Int.reduceNeg, ne_eq, reduceCtorEq, escT, BEq.rfl, beq_self_eq_true, Int.reduceAdd, Int.reduceSub, Int.reduceMod, Int.reduceDiv, Nat.reduceMod, Nat.reduceDiv, Nat.reduceLT, cond_true, cond_false, gt_iff_lt, ge_iff_le, gor, g0, g1, g6, g7, g8, g9, g10, hj, tb, tb0, ts, tm, cl, cs, a1, a2, wi, List.length_map, Nat.mul_one, D13, ty1, ty2, ty3, ty4, ty22, ty23]
      refine callThen_of (hdi _ _ hv) ?_
      simp (maxSteps := 2000000) only [wk0, wk1, wk2, wk3, keepA, frzT, flatT, arrayAtA, ownT, extT, Fr.ev, Fr.put, Fr.get, initFr, buildSliceA, zeros, pkB, pkT, pkF, ownDst, Env.kd, ofConst, isConst, binA, intI, cmpI, shiftI, convertA, buildA, fillA, fillS, splice, AV.cells?, storeA, readAt, fieldAddrA, fieldA, indexA, extractA, unA, builtinA, appendA, lenA, sliceCells, isSliceK, makeInterfaceA, nilCheckA, eqA, AV.one, AV.plain, if_false, if_true, Nat.reduceEqDiff, reduceIte, Nat.reduceAdd, List.replicate, Nat.reduceLeDiff, Nat.reduceMul, Nat.reduceSub, Nat.reducePow, Int.reduceLT, Int.reduceLE, Int.reduceToNat, Int.reducePow, IntKind.bits, Int.reduceEq, Int.reduceMul, Int.reduceNeg, ne_eq, reduceCtorEq, escT, BEq.rfl, beq_self_eq_true, Int.reduceAdd, Int.reduceSub, Int.reduceMod, Int.reduceDiv, Nat.reduceMod, Nat.reduceDiv, Nat.reduceLT, cond_true, cond_false, gt_iff_lt, ge_iff_le, gor, g0, g1, g6, g7, g8, g9, g10, hj, tb, tb0, ts, tm, cl, cs, a1, a2, wi, List.length_map, Nat.mul_one, D13, ty1, ty2, ty3, ty4, ty22, ty23]
      refine ih (m - 1) _ _ (by omega) ⟨i + 1, i + 1, _, by omega, ?_, ?_, ?_, ?_, ?_, tail_step hP⟩
      · simp [Fr.get, g0]
      · simp [Fr.get, g1]
      · simp [Fr.get]
      · simp [Fr.get, an]
      · simp [Fr.get]
  · obtain rfl : i = n := by omega
    simp (maxSteps := 2000000) only [wk0, wk1, wk2, wk3, keepA, frzT, flatT, arrayAtA, ownT, extT, Fr.ev, Fr.put, Fr.get, initFr, buildSliceA, zeros, pkB, pkT, pkF, ownDst, Env.kd, ofConst, isConst, binA, intI, cmpI, shiftI, convertA, buildA, fillA, fillS, splice, AV.cells?, storeA, readAt, fieldAddrA, fieldA, indexA, extractA, unA, builtinA, appendA, lenA, sliceCells, isSliceK, makeInterfaceA, nilCheckA, eqA, AV.one, AV.plain, if_false, if_true, Nat.reduceEqDiff, reduceIte, Nat.reduceAdd, List.replicate, Nat.reduceLeDiff, Nat.reduceMul, Nat.reduceSub, Nat.reducePow, Int.reduceLT, Int.reduceLE, Int.reduceToNat, Int.reducePow, IntKind.bits, Int.reduceEq, Int.reduceMul, Int.reduceNeg, ne_eq, reduceCtorEq, escT, BEq.rfl, beq_self_eq_true, Int.reduceAdd, Int.reduceSub, Int.reduceMod, Int.reduceDiv, Nat.reduceMod, Nat.reduceDiv, Nat.reduceLT, cond_true, cond_false, gt_iff_lt, ge_iff_le, g0, g1, g6, g7, g8, hi, gl0, hr0, q5, lstI, D13, ty1, ty2, ty3, ty4, ty22, ty23]
    refine retB_two ?_ (.same _ (.bool _)) (tail_take hP).symm
    have h := fin_sl (base := S.length) (id := S.length) (ver := i) (cap := cap) (u := i) (L := preL F i) (H := P) (Nat.le_refl _) tb0
    rw [cl] at h
    exact h
end Go.Proofs.YtimdnnlfkkkpbaaDoor
