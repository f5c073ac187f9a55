/- vec: joins, sizes, multiples. -/
import Derived.Test.YtimdnnlfkkkpbaaV1
set_option linter.unusedSimpArgs false
set_option linter.unusedVariables false
set_option maxRecDepth 100000
set_option maxHeartbeats 4000000
namespace Go.Proofs.Ytimdnnlfkkkpbaa
noncomputable def c13 : Code := Try.f13.body.getD .skip
theorem b13 : Try.f13.body = some c13 := rfl
theorem d13 : fnOk Try.f13 c13 = true := by kernel_rfl
def D13 : Nat → List Tag
  | 1 => [.seq, .pure, .pure, .pure, .seq, .pure, .pure, .pure, .pure, .quiet, .pure, .quiet, .pure, .pure, .pure, .pure, .quiet, .pure, .quiet, .quiet, .seq, .pure, .pure]
  | 5 => [.pure, .pure, .seq, .pure, .pure, .pure]
  | _ => []
theorem e13 : drawsOk D13 c13 = true := by kernel_rfl
noncomputable def c56 : Code := Try.f56.body.getD .skip
theorem b56 : Try.f56.body = some c56 := rfl
theorem d56 : fnOk Try.f56 c56 = true := by kernel_rfl
def D56 : Nat → List Tag := fun _ => []
theorem e56 : drawsOk D56 c56 = true := by kernel_rfl
noncomputable def c14 : Code := Try.f14.body.getD .skip
theorem b14 : Try.f14.body = some c14 := rfl
theorem d14 : fnOk Try.f14 c14 = true := by kernel_rfl
def D14 : Nat → List Tag := fun _ => []
theorem e14 : drawsOk D14 c14 = true := by kernel_rfl
noncomputable def c58 : Code := Try.f58.body.getD .skip
theorem b58 : Try.f58.body = some c58 := rfl
theorem d58 : fnOk Try.f58 c58 = true := by kernel_rfl
def D58 : Nat → List Tag
  | 5 => [.pure, .pure, .seq, .pure, .pure, .pure]
  | _ => []
theorem e58 : drawsOk D58 c58 = true := by kernel_rfl
noncomputable def c107 : Code := Try.f107.body.getD .skip
theorem b107 : Try.f107.body = some c107 := rfl
theorem d107 : fnOk Try.f107 c107 = true := by kernel_rfl
def D107 : Nat → List Tag
  | 1 => [.quiet, .pure, .pure, .quiet, .quiet, .seq, .pure, .pure, .pure, .pure, .pure, .pure, .pure]
  | _ => []
theorem e107 : drawsOk D107 c107 = true := by kernel_rfl
def lstL (l : List (List Int)) : AV := .lst (l.map lstI) l.length
theorem get_lstL {l : List (List Int)} {i : Nat} (h : i < l.length) : (l.map lstI)[i]? = some (lstI l[i]) := by rw [List.getElem?_map, List.getElem?_eq_getElem h]; rfl
theorem get_lstI {l : List Int} {i : Nat} (h : i < l.length) : (l.map fun x => AV.int .i64 x)[i]? = some (.int .i64 l[i]) := by rw [List.getElem?_map, List.getElem?_eq_getElem h]; rfl
theorem sizedL_ok (a : List Int) (l : List (List Int)) (S : Heap) (hl : l.length ≤ 1000000) : Call theE 52 [lstI a, lstL l] S (.bool (decide (a.length ≤ 6 ∧ ∀ r ∈ l, r.length = a.length))) S := by
  refine Call.ofC Try.func52 Ytimdnnlfkkkpbaa.b52 Ytimdnnlfkkkpbaa.d52 Ytimdnnlfkkkpbaa.e52 (by simp [Try.f52]) ?_
  dsimp only [Ytimdnnlfkkkpbaa.c52, Try.f52, Option.getD_some]
  by_cases h6 : (6 : Int) < a.length
  · rw [decide_eq_false (fun h => by omega)]
    simp (maxSteps := 2000000) only [wk0, wk1, wk2, wk3, keepA, keepT, Fr.keep, frzT, flatT, arrayAtA, ownT, extT, Fr.ev, Fr.put, Fr.get, initFr, buildSliceA, zeros, pkB, pkT, pkF, ownDst, Env.kd, ofConst, isConst, binA, intI, cmpI, shiftI, convertA, buildA, fillA, fillS, splice, AV.cells?, storeA, readAt, fieldAddrA, fieldA, indexA, extractA, unA, builtinA, appendA, lenA, sliceCells, isSliceK, makeInterfaceA, nilCheckA, eqA, AV.one, AV.plain, if_false, if_true, Nat.reduceEqDiff, reduceIte, Nat.reduceAdd, List.replicate, Nat.reduceLeDiff, Nat.reduceMul, Nat.reduceSub, Nat.reducePow, Int.reduceLT, Int.reduceLE, Int.reduceToNat, Int.reducePow, IntKind.bits, Int.reduceEq, Int.reduceMul, Int.reduceNeg, ne_eq, reduceCtorEq, escT, BEq.rfl, beq_self_eq_true, Int.reduceAdd, Int.reduceSub, Int.reduceMod, Int.reduceDiv, Nat.reduceMod, Nat.reduceDiv, Nat.reduceLT, cond_true, cond_false, gt_iff_lt, ge_iff_le, lstI, h6, Ytimdnnlfkkkpbaa.D52, ty3, ty4, ty22, ty29]
    exact retB_plain (by simp [nmd_bool]) rfl (by simp)
  simp (maxSteps := 2000000) only [wk0, wk1, wk2, wk3, keepA, keepT, Fr.keep, frzT, flatT, arrayAtA, ownT, extT, Fr.ev, Fr.put, Fr.get, initFr, buildSliceA, zeros, pkB, pkT, pkF, ownDst, Env.kd, ofConst, isConst, binA, intI, cmpI, shiftI, convertA, buildA, fillA, fillS, splice, AV.cells?, storeA, readAt, fieldAddrA, fieldA, indexA, extractA, unA, builtinA, appendA, lenA, sliceCells, isSliceK, makeInterfaceA, nilCheckA, eqA, AV.one, AV.plain, if_false, if_true, Nat.reduceEqDiff, reduceIte, Nat.reduceAdd, List.replicate, Nat.reduceLeDiff, Nat.reduceMul, Nat.reduceSub, Nat.reducePow, Int.reduceLT, Int.reduceLE, Int.reduceToNat, Int.reducePow, IntKind.bits, Int.reduceEq, Int.reduceMul, Int.reduceNeg, ne_eq, reduceCtorEq, escT, BEq.rfl, beq_self_eq_true, Int.reduceAdd, Int.reduceSub, Int.reduceMod, Int.reduceDiv, Nat.reduceMod, Nat.reduceDiv, Nat.reduceLT, cond_true, cond_false, gt_iff_lt, ge_iff_le, lstI, lstL, h6, Ytimdnnlfkkkpbaa.D52, ty3, ty4, ty22, ty29]
  refine loopC_ind (fun m fr H => ∃ i : Nat, i + m = l.length ∧ (∀ r ∈ l.take i, r.length = a.length) ∧ fr.get 12 = .int .i64 i ∧ fr.get 11 = .int .i64 l.length ∧ fr.get 10 = lstL l ∧ fr.get 0 = lstI a ∧ H = S) ?_ (n := l.length) ⟨0, by omega, by simp, rfl, rfl, rfl, rfl, rfl⟩
  rintro m fr H ⟨i, him, hall, g12, g11, g10, g0, rfl⟩ ih
  by_cases hi : (i : Int) < l.length
  · have hin : i < l.length := by omega
    have k1 : (0 : Int) ≤ i := by omega
    have wi : IntKind.i64.wrap ((i : Int) + 1) = ((i + 1 : Nat) : Int) := wrapI (by omega)
    have gl := get_lstL hin
    by_cases hr : ((l[i]).length : Int) = a.length
    · simp (maxSteps := 2000000) only [wk0, wk1, wk2, wk3, keepA, keepT, Fr.keep, frzT, flatT, arrayAtA, ownT, extT, Fr.ev, Fr.put, Fr.get, initFr, buildSliceA, zeros, pkB, pkT, pkF, ownDst, Env.kd, ofConst, isConst, binA, intI, cmpI, shiftI, convertA, buildA, fillA, fillS, splice, AV.cells?, storeA, readAt, fieldAddrA, fieldA, indexA, extractA, unA, builtinA, appendA, lenA, sliceCells, isSliceK, makeInterfaceA, nilCheckA, eqA, AV.one, AV.plain, if_false, if_true, Nat.reduceEqDiff, reduceIte, Nat.reduceAdd, List.replicate, Nat.reduceLeDiff, Nat.reduceMul, Nat.reduceSub, Nat.reducePow, Int.reduceLT, Int.reduceLE, Int.reduceToNat, Int.reducePow, IntKind.bits, Int.reduceEq, Int.reduceMul, Int.reduceNeg, ne_eq, reduceCtorEq, escT, BEq.rfl, beq_self_eq_true, Int.reduceAdd, Int.reduceSub, Int.reduceMod, Int.reduceDiv, Nat.reduceMod, Nat.reduceDiv, Nat.reduceLT, cond_true, cond_false, gt_iff_lt, ge_iff_le, lstI, lstL, g12, g11, g10, g0, hi, k1, Int.toNat_natCast, Nat.mul_one, gl, hr, wi, Ytimdnnlfkkkpbaa.D52, ty3, ty4, ty22, ty29]
      refine ih (m - 1) _ _ (by omega) ⟨i + 1, by omega, ?_, by simp [Fr.get], by simp [Fr.get, g11], by simp [Fr.get, g10, lstL], by simp [Fr.get, g0, lstI], rfl⟩
      intro r hr'
      rw [List.take_succ_eq_append_getElem hin] at hr'
      rcases List.mem_append.1 hr' with h | h
      · exact hall r h
      · rw [List.mem_singleton.1 h]; omega
    · rw [decide_eq_false (fun h => hr (by rw [h.2 _ (List.getElem_mem hin)]))]
      simp (maxSteps := 2000000) only [wk0, wk1, wk2, wk3, keepA, keepT, Fr.keep, frzT, flatT, arrayAtA, ownT, extT, Fr.ev, Fr.put, Fr.get, initFr, buildSliceA, zeros, pkB, pkT, pkF, ownDst, Env.kd, ofConst, isConst, binA, intI, cmpI, shiftI, convertA, buildA, fillA, fillS, splice, AV.cells?, storeA, readAt, fieldAddrA, fieldA, indexA, extractA, unA, builtinA, appendA, lenA, sliceCells, isSliceK, makeInterfaceA, nilCheckA, eqA, AV.one, AV.plain, if_false, if_true, Nat.reduceEqDiff, reduceIte, Nat.reduceAdd, List.replicate, Nat.reduceLeDiff, Nat.reduceMul, Nat.reduceSub, Nat.reducePow, Int.reduceLT, Int.reduceLE, Int.reduceToNat, Int.reducePow, IntKind.bits, Int.reduceEq, Int.reduceMul, Int.reduceNeg, ne_eq, reduceCtorEq, escT, BEq.rfl, beq_self_eq_true, Int.reduceAdd, Int.reduceSub, Int.reduceMod, Int.reduceDiv, Nat.reduceMod, Nat.reduceDiv, Nat.reduceLT, cond_true, cond_false, gt_iff_lt, ge_iff_le, lstI, lstL, g12, g11, g10, g0, hi, k1, Int.toNat_natCast, Nat.mul_one, gl, hr, wi, Ytimdnnlfkkkpbaa.D52, ty3, ty4, ty22, ty29]
      exact retB_plain (by simp [nmd_bool]) rfl (by simp)
  · obtain rfl : i = l.length := by omega
    rw [List.take_length] at hall
    rw [decide_eq_true ⟨by omega, hall⟩]
    simp (maxSteps := 2000000) only [wk0, wk1, wk2, wk3, keepA, keepT, Fr.keep, frzT, flatT, arrayAtA, ownT, extT, Fr.ev, Fr.put, Fr.get, initFr, buildSliceA, zeros, pkB, pkT, pkF, ownDst, Env.kd, ofConst, isConst, binA, intI, cmpI, shiftI, convertA, buildA, fillA, fillS, splice, AV.cells?, storeA, readAt, fieldAddrA, fieldA, indexA, extractA, unA, builtinA, appendA, lenA, sliceCells, isSliceK, makeInterfaceA, nilCheckA, eqA, AV.one, AV.plain, if_false, if_true, Nat.reduceEqDiff, reduceIte, Nat.reduceAdd, List.replicate, Nat.reduceLeDiff, Nat.reduceMul, Nat.reduceSub, Nat.reducePow, Int.reduceLT, Int.reduceLE, Int.reduceToNat, Int.reducePow, IntKind.bits, Int.reduceEq, Int.reduceMul, Int.reduceNeg, ne_eq, reduceCtorEq, escT, BEq.rfl, beq_self_eq_true, Int.reduceAdd, Int.reduceSub, Int.reduceMod, Int.reduceDiv, Nat.reduceMod, Nat.reduceDiv, Nat.reduceLT, cond_true, cond_false, gt_iff_lt, ge_iff_le, g12, g11, g10, g0, hi, Ytimdnnlfkkkpbaa.D52, ty3, ty4, ty22, ty29]
    exact retB_plain (by simp [nmd_bool]) rfl (by simp)
def colI (l : List (List Int)) (k : Nat) : List Int := l.map fun r => r.getD k 0
theorem colI_in {l : List (List Int)} {k : Nat} (h : ∀ r ∈ l, ∀ x ∈ r, inI x) : ∀ x ∈ colI l k, inI x := by
  intro x hx
  obtain ⟨r, hr, rfl⟩ := List.mem_map.1 hx
  rw [List.getD_eq_getElem?_getD]
  cases hk : r[k]? with
  | none => simp [inI]
  | some y => exact h r hr y (List.mem_of_getElem? hk)
theorem join1_ok (l : List (List Int)) (ch : List Int) (k j : Nat) (S : Heap) (h0 : l.length ≤ 4) (hlc : l.length = ch.length) (hk : ∀ r ∈ l, k < r.length) (h1 : ∀ r ∈ l, ∀ x ∈ r, inI x) (h2 : ∀ x ∈ ch, inI x)
    (b1 : blkAt S j 0 = some ⟨[lstL l], 0⟩) (b2 : blkAt S (j + 1) 0 = some ⟨[lstI ch], 0⟩) :
    Call theE 56 [.int .i64 k, .ptr j 0 0, .ptr (j + 1) 0 0, .ptr (j + 2) 0 0] S (.tup [.int .i64 (bndI (rnd (dotZ (colI l k) ch) (2 ^ 30))), .bool (ovrB (rnd (dotZ (colI l k) ch) (2 ^ 30)))]) S := by
  have bb : ∀ L, blkAt (S ++ L) j 0 = some ⟨[lstL l], 0⟩ := fun L => blk_app b1
  have bc : ∀ L, blkAt (S ++ L) (j + 1) 0 = some ⟨[lstI ch], 0⟩ := fun L => blk_app b2
  have mk : ∀ e, makeSliceA S (.slice e 1 8 [.int .i64 0]) (.int .i64 0) (.int .i64 l.length) = some (.sl S.length 0 0 0 l.length 1, S ++ [some ⟨[], 0⟩]) := by
    intro e
    unfold makeSliceA
    simp only
    rw [if_pos ⟨by omega, by omega, by unfold maxBytes; omega, by omega, rfl⟩]
    simp [zeros]
  refine Call.ofC Try.func56 Ytimdnnlfkkkpbaa.b56 Ytimdnnlfkkkpbaa.d56 Ytimdnnlfkkkpbaa.e56 (by simp [Try.f56]) ?_
  dsimp only [Ytimdnnlfkkkpbaa.c56, Try.f56, Option.getD_some]
  simp (maxSteps := 2000000) only [wk0, wk1, wk2, wk3, keepA, keepT, Fr.keep, frzT, flatT, arrayAtA, ownT, extT, Fr.ev, Fr.put, Fr.get, initFr, buildSliceA, zeros, pkB, pkT, pkF, ownDst, Env.kd, ofConst, isConst, binA, intI, cmpI, shiftI, convertA, buildA, fillA, fillS, splice, AV.cells?, storeA, readAt, fieldAddrA, fieldA, indexA, extractA, unA, builtinA, appendA, lenA, sliceCells, isSliceK, makeInterfaceA, nilCheckA, eqA, AV.one, AV.plain, if_false, if_true, Nat.reduceEqDiff, reduceIte, Nat.reduceAdd, List.replicate, Nat.reduceLeDiff, Nat.reduceMul, Nat.reduceSub, Nat.reducePow, Int.reduceLT, Int.reduceLE, Int.reduceToNat, Int.reducePow, IntKind.bits, Int.reduceEq, Int.reduceMul, Int.reduceNeg, ne_eq, reduceCtorEq, escT, BEq.rfl, beq_self_eq_true, Int.reduceAdd, Int.reduceSub, Int.reduceMod, Int.reduceDiv, Nat.reduceMod, Nat.reduceDiv, Nat.reduceLT, cond_true, cond_false, gt_iff_lt, ge_iff_le, lstI, lstL, b1, b2, mk, Ytimdnnlfkkkpbaa.D56, ty1, ty2, ty3, ty4, ty22, ty24, ty29]
  simp (maxSteps := 2000000) only [wk0, wk1, wk2, wk3, keepA, keepT, Fr.keep, frzT, flatT, arrayAtA, ownT, extT, Fr.ev, Fr.put, Fr.get, initFr, buildSliceA, zeros, pkB, pkT, pkF, ownDst, Env.kd, ofConst, isConst, binA, intI, cmpI, shiftI, convertA, buildA, fillA, fillS, splice, AV.cells?, storeA, readAt, fieldAddrA, fieldA, indexA, extractA, unA, builtinA, appendA, lenA, sliceCells, isSliceK, makeInterfaceA, nilCheckA, eqA, AV.one, AV.plain, if_false, if_true, Nat.reduceEqDiff, reduceIte, Nat.reduceAdd, List.replicate, Nat.reduceLeDiff, Nat.reduceMul, Nat.reduceSub, Nat.reducePow, Int.reduceLT, Int.reduceLE, Int.reduceToNat, Int.reducePow, IntKind.bits, Int.reduceEq, Int.reduceMul, Int.reduceNeg, ne_eq, reduceCtorEq, escT, BEq.rfl, beq_self_eq_true, Int.reduceAdd, Int.reduceSub, Int.reduceMod, Int.reduceDiv, Nat.reduceMod, Nat.reduceDiv, Nat.reduceLT, cond_true, cond_false, gt_iff_lt, ge_iff_le, lstI, lstL, bb, bc, Ytimdnnlfkkkpbaa.D56, ty1, ty2, ty3, ty4, ty22, ty24, ty29]
  refine loopC_ind (fun m fr H => ∃ i cap : Nat, i + m = l.length ∧ fr.get 18 = .int .i64 i ∧ fr.get 17 = .int .i64 l.length ∧ fr.get 16 = lstL l ∧ fr.get 7 = .sl S.length i 0 i cap 1 ∧ fr.get 0 = .int .i64 k ∧ fr.get 2 = .ptr (j + 1) 0 0 ∧
    H = S ++ [some ⟨(colI (l.take i) k).map fun x => .int .i64 x, i⟩]) ?_ (n := l.length) ⟨0, l.length, by omega, rfl, rfl, rfl, rfl, rfl, rfl, rfl⟩
  rintro m fr H ⟨i, cap, him, g18, g17, g16, g7, g0, g2, rfl⟩ ih
  by_cases hi : (i : Int) < l.length
  · have hin : i < l.length := by omega
    have k1 : (0 : Int) ≤ i := by omega
    have k2 : (0 : Int) ≤ k := by omega
    have hkr := hk _ (List.getElem_mem hin)
    have k3 : (k : Int) < (l[i]).length := by omega
    have wi : IntKind.i64.wrap ((i : Int) + 1) = ((i + 1 : Nat) : Int) := wrapI (by omega)
    have gl := get_lstL hin
    have gk := get_lstI hkr
    have cl : (colI (l.take i) k).length = i := by simp [colI]; omega
    have cs : (colI (l.take i) k).map (fun x => AV.int .i64 x) ++ [AV.int .i64 ((l[i])[k])] = (colI (l.take (i + 1)) k).map fun x => .int .i64 x := by
      unfold colI
      rw [List.take_succ_eq_append_getElem hin, List.map_append, List.map_append, List.map_cons, List.map_nil, List.map_cons, List.map_nil, List.getD_eq_getElem?_getD, List.getElem?_eq_getElem hkr]
      rfl
    have a1 : (i + 1) * 8 ≤ maxBytes := by unfold maxBytes; omega
    have a2 : i + 1 ≤ 9223372036854775807 := by omega
    simp (maxSteps := 2000000) only [wk0, wk1, wk2, wk3, keepA, keepT, Fr.keep, frzT, flatT, arrayAtA, ownT, extT, Fr.ev, Fr.put, Fr.get, initFr, buildSliceA, zeros, pkB, pkT, pkF, ownDst, Env.kd, ofConst, isConst, binA, intI, cmpI, shiftI, convertA, buildA, fillA, fillS, splice, AV.cells?, storeA, readAt, fieldAddrA, fieldA, indexA, extractA, unA, builtinA, appendA, lenA, sliceCells, isSliceK, makeInterfaceA, nilCheckA, eqA, AV.one, AV.plain, if_false, if_true, Nat.reduceEqDiff, reduceIte, Nat.reduceAdd, List.replicate, Nat.reduceLeDiff, Nat.reduceMul, Nat.reduceSub, Nat.reducePow, Int.reduceLT, Int.reduceLE, Int.reduceToNat, Int.reducePow, IntKind.bits, Int.reduceEq, Int.reduceMul, Int.reduceNeg, ne_eq, reduceCtorEq, escT, BEq.rfl, beq_self_eq_true, Int.reduceAdd, Int.reduceSub, Int.reduceMod, Int.reduceDiv, Nat.reduceMod, Nat.reduceDiv, Nat.reduceLT, cond_true, cond_false, gt_iff_lt, ge_iff_le, lstI, lstL, g18, g17, g16, g7, g0, g2, hi, k1, k2, k3, Int.toNat_natCast, Nat.mul_one, gl, gk, wi, List.length_map, cl, a1, a2, cs, Ytimdnnlfkkkpbaa.D56, ty1, ty2, ty3, ty4, ty22, ty24, ty29]
    exact ih (m - 1) _ _ (by omega) ⟨i + 1, i + 1, by omega, by simp [Fr.get], by simp [Fr.get, g17], by simp [Fr.get, g16, lstL], by simp [Fr.get], by simp [Fr.get, g0], by simp [Fr.get, g2], rfl⟩
  · obtain rfl : i = l.length := by omega
    have cl : (colI l k).length = l.length := by simp [colI]
    rw [List.take_length]
    have hv : SlI (S ++ [some ⟨(colI l k).map fun x => .int .i64 x, l.length⟩]) (.sl S.length l.length 0 l.length cap 1) (colI l k) := by
      have hb : blkAt (S ++ [some ⟨(colI l k).map fun x => AV.int .i64 x, l.length⟩]) S.length l.length = some ⟨(colI l k).map fun x => .int .i64 x, l.length⟩ := by rw [blkAt_app0, blkAt_zero]
      have := SlI.sl (off := 0) (cap := cap) (l := colI l k) hb (by rw [List.drop_zero, List.take_of_length_le (by simp)])
      rwa [cl] at this
    have hd := dot_ok _ _ (colI l k) ch 30 (S ++ [some ⟨(colI l k).map fun x => .int .i64 x, l.length⟩]) hv (SlI.lst ch) (by decide) (by rw [cl]; exact hlc) (by omega) (colI_in h1) h2
    simp (maxSteps := 2000000) only [wk0, wk1, wk2, wk3, keepA, keepT, Fr.keep, frzT, flatT, arrayAtA, ownT, extT, Fr.ev, Fr.put, Fr.get, initFr, buildSliceA, zeros, pkB, pkT, pkF, ownDst, Env.kd, ofConst, isConst, binA, intI, cmpI, shiftI, convertA, buildA, fillA, fillS, splice, AV.cells?, storeA, readAt, fieldAddrA, fieldA, indexA, extractA, unA, builtinA, appendA, lenA, sliceCells, isSliceK, makeInterfaceA, nilCheckA, eqA, AV.one, AV.plain, if_false, if_true, Nat.reduceEqDiff, reduceIte, Nat.reduceAdd, List.replicate, Nat.reduceLeDiff, Nat.reduceMul, Nat.reduceSub, Nat.reducePow, Int.reduceLT, Int.reduceLE, Int.reduceToNat, Int.reducePow, IntKind.bits, Int.reduceEq, Int.reduceMul, Int.reduceNeg, ne_eq, reduceCtorEq, escT, BEq.rfl, beq_self_eq_true, Int.reduceAdd, Int.reduceSub, Int.reduceMod, Int.reduceDiv, Nat.reduceMod, Nat.reduceDiv, Nat.reduceLT, cond_true, cond_false, gt_iff_lt, ge_iff_le, lstI, lstL, g18, g17, g16, g7, g0, g2, hi, bb, bc, Ytimdnnlfkkkpbaa.D56, ty1, ty2, ty3, ty4, ty22, ty24, ty29]
    refine callThen_of hd ?_
    simp (maxSteps := 2000000) only [wk0, wk1, wk2, wk3, keepA, keepT, Fr.keep, frzT, flatT, arrayAtA, ownT, extT, Fr.ev, Fr.put, Fr.get, initFr, buildSliceA, zeros, pkB, pkT, pkF, ownDst, Env.kd, ofConst, isConst, binA, intI, cmpI, shiftI, convertA, buildA, fillA, fillS, splice, AV.cells?, storeA, readAt, fieldAddrA, fieldA, indexA, extractA, unA, builtinA, appendA, lenA, sliceCells, isSliceK, makeInterfaceA, nilCheckA, eqA, AV.one, AV.plain, if_false, if_true, Nat.reduceEqDiff, reduceIte, Nat.reduceAdd, List.replicate, Nat.reduceLeDiff, Nat.reduceMul, Nat.reduceSub, Nat.reducePow, Int.reduceLT, Int.reduceLE, Int.reduceToNat, Int.reducePow, IntKind.bits, Int.reduceEq, Int.reduceMul, Int.reduceNeg, ne_eq, reduceCtorEq, escT, BEq.rfl, beq_self_eq_true, Int.reduceAdd, Int.reduceSub, Int.reduceMod, Int.reduceDiv, Nat.reduceMod, Nat.reduceDiv, Nat.reduceLT, cond_true, cond_false, gt_iff_lt, ge_iff_le, Ytimdnnlfkkkpbaa.D56, ty1, ty2, ty3, ty4, ty22, ty24, ty29]
    exact retB_plain (by simp [nmd_int, nmd_bool]) rfl (by simp)
def joinL (l : List (List Int)) (ch : List Int) (n : Nat) : List Int := (List.range n).map fun k => bndI (rnd (dotZ (colI l k) ch) (2 ^ 30))
def joinO (l : List (List Int)) (ch : List Int) (n : Nat) : Bool := (List.range n).any fun k => ovrB (rnd (dotZ (colI l k) ch) (2 ^ 30))
theorem join_ok (l : List (List Int)) (ch : List Int) (n : Nat) (S : Heap) (h0 : 1 ≤ l.length ∧ l.length ≤ 4) (hlc : l.length = ch.length) (hn : n ≤ 6) (hr : ∀ r ∈ l, r.length = n) (h1 : ∀ r ∈ l, ∀ x ∈ r, inI x) (h2 : ∀ x ∈ ch, inI x) :
    Call theE 13 [lstL l, lstI ch] S (.tup [lstI (joinL l ch n), .bool (joinO l ch n), .nili]) S := by
  have hl0 : 0 < l.length := by omega
  have hr0 := hr _ (List.getElem_mem hl0)
  have hz := fun S => sizedL_ok (l[0]) l S (by omega)
  rw [decide_eq_true ⟨by omega, fun r h => by rw [hr r h, hr0]⟩] at hz
  have q1 : ¬ (l.length : Int) < 1 := by omega
  have q2 : ¬ (4 : Int) < l.length := by omega
  have q3 : (l.length : Int) = ch.length := by omega
  have q3' : (l.length : Int) - ch.length = 0 := by omega
  have q4 : (0 : Int) < l.length := by omega
  have q5 : (0 : Int) < ch.length := by omega
  have q6 : ¬ (ch.length : Int) < 1 := by omega
  have q7 : ¬ (4 : Int) < ch.length := by omega
  have gl := get_lstL hl0
  have he := each_ok 56 [.ptr S.length 0 0, .ptr (S.length + 1) 0 0, .ptr (S.length + 2) 0 0] n (fun k => bndI (rnd (dotZ (colI l k) ch) (2 ^ 30))) (fun k => ovrB (rnd (dotZ (colI l k) ch) (2 ^ 30)))
    (S ++ [some ⟨[lstL l], 0⟩, some ⟨[lstI ch], 0⟩, some ⟨[.nili], 0⟩]) (by omega) (by decide) (fun k hk L =>
      join1_ok l ch k S.length _ (by omega) hlc (fun r h => by rw [hr r h]; exact hk) h1 h2 (by rw [List.append_assoc, blkAt_app0]; rfl) (by rw [List.append_assoc, blkAt_app]; rfl))
  rw [← hr0] at he
  simp only [lstI, lstL] at he hz
  refine Call.ofC Try.func13 Ytimdnnlfkkkpbaa.b13 Ytimdnnlfkkkpbaa.d13 Ytimdnnlfkkkpbaa.e13 (by simp [Try.f13]) ?_
  dsimp only [Ytimdnnlfkkkpbaa.c13, Try.f13, Option.getD_some]
  simp (maxSteps := 2000000) only [wk0, wk1, wk2, wk3, keepA, keepT, Fr.keep, frzT, flatT, arrayAtA, ownT, extT, Fr.ev, Fr.put, Fr.get, initFr, buildSliceA, zeros, pkB, pkT, pkF, ownDst, Env.kd, ofConst, isConst, binA, intI, cmpI, shiftI, convertA, buildA, fillA, fillS, splice, AV.cells?, storeA, readAt, fieldAddrA, fieldA, indexA, extractA, unA, builtinA, appendA, lenA, sliceCells, isSliceK, makeInterfaceA, nilCheckA, eqA, AV.one, AV.plain, if_false, if_true, Nat.reduceEqDiff, reduceIte, Nat.reduceAdd, List.replicate, Nat.reduceLeDiff, Nat.reduceMul, Nat.reduceSub, Nat.reducePow, Int.reduceLT, Int.reduceLE, Int.reduceToNat, Int.reducePow, IntKind.bits, Int.reduceEq, Int.reduceMul, Int.reduceNeg, ne_eq, reduceCtorEq, escT, BEq.rfl, beq_self_eq_true, Int.reduceAdd, Int.reduceSub, Int.reduceMod, Int.reduceDiv, Nat.reduceMod, Nat.reduceDiv, Nat.reduceLT, cond_true, cond_false, gt_iff_lt, ge_iff_le, lstI, lstL, q1, q2, q3, q4, q5, q6, q7, gl, Ytimdnnlfkkkpbaa.D13, ty3, ty4, ty22, ty24, ty29, ty95, ty98]
  refine callThen_of (hz _) ?_
  simp (maxSteps := 2000000) only [wk0, wk1, wk2, wk3, keepA, keepT, Fr.keep, frzT, flatT, arrayAtA, ownT, extT, Fr.ev, Fr.put, Fr.get, initFr, buildSliceA, zeros, pkB, pkT, pkF, ownDst, Env.kd, ofConst, isConst, binA, intI, cmpI, shiftI, convertA, buildA, fillA, fillS, splice, AV.cells?, storeA, readAt, fieldAddrA, fieldA, indexA, extractA, unA, builtinA, appendA, lenA, sliceCells, isSliceK, makeInterfaceA, nilCheckA, eqA, AV.one, AV.plain, if_false, if_true, Nat.reduceEqDiff, reduceIte, Nat.reduceAdd, List.replicate, Nat.reduceLeDiff, Nat.reduceMul, Nat.reduceSub, Nat.reducePow, Int.reduceLT, Int.reduceLE, Int.reduceToNat, Int.reducePow, IntKind.bits, Int.reduceEq, Int.reduceMul, Int.reduceNeg, ne_eq, reduceCtorEq, escT, BEq.rfl, beq_self_eq_true, Int.reduceAdd, Int.reduceSub, Int.reduceMod, Int.reduceDiv, Nat.reduceMod, Nat.reduceDiv, Nat.reduceLT, cond_true, cond_false, gt_iff_lt, ge_iff_le, lstI, lstL, q1, q2, q3, q4, q5, q6, q7, gl, Ytimdnnlfkkkpbaa.D13, ty3, ty4, ty22, ty24, ty29, ty95, ty98]
  refine callThen_of he ?_
  simp (maxSteps := 2000000) only [wk0, wk1, wk2, wk3, keepA, keepT, Fr.keep, frzT, flatT, arrayAtA, ownT, extT, Fr.ev, Fr.put, Fr.get, initFr, buildSliceA, zeros, pkB, pkT, pkF, ownDst, Env.kd, ofConst, isConst, binA, intI, cmpI, shiftI, convertA, buildA, fillA, fillS, splice, AV.cells?, storeA, readAt, fieldAddrA, fieldA, indexA, extractA, unA, builtinA, appendA, lenA, sliceCells, isSliceK, makeInterfaceA, nilCheckA, eqA, AV.one, AV.plain, if_false, if_true, Nat.reduceEqDiff, reduceIte, Nat.reduceAdd, List.replicate, Nat.reduceLeDiff, Nat.reduceMul, Nat.reduceSub, Nat.reducePow, Int.reduceLT, Int.reduceLE, Int.reduceToNat, Int.reducePow, IntKind.bits, Int.reduceEq, Int.reduceMul, Int.reduceNeg, ne_eq, reduceCtorEq, escT, BEq.rfl, beq_self_eq_true, Int.reduceAdd, Int.reduceSub, Int.reduceMod, Int.reduceDiv, Nat.reduceMod, Nat.reduceDiv, Nat.reduceLT, cond_true, cond_false, gt_iff_lt, ge_iff_le, lstI, lstL, Ytimdnnlfkkkpbaa.D13, ty3, ty4, ty22, ty24, ty29, ty95, ty98]
  exact retB_plain (by simp [nmd_lst, nmd_bool, nmd_nili]) (by rw [hr0]; rfl) (by simp)
def sizeL (l : List Int) : Int := l.foldl (fun n x => max (max n (bndI x)) (-(bndI x))) 0
theorem sizeL_step (l : List Int) (i : Nat) (h : i < l.length) : sizeL (l.take (i + 1)) = max (max (sizeL (l.take i)) (bndI l[i])) (-(bndI l[i])) := by
  unfold sizeL
  rw [List.take_succ_eq_append_getElem h, List.foldl_append]
  rfl
theorem sizeL_bound (l : List Int) (i : Nat) (h : i ≤ l.length) : 0 ≤ sizeL (l.take i) ∧ sizeL (l.take i) ≤ 4611686018427387903 := by
  induction i with
  | zero => simp [sizeL]
  | succ i ih =>
    have ih := ih (by omega)
    rw [sizeL_step l i (by omega)]
    have : -4611686018427387903 ≤ bndI l[i] ∧ bndI l[i] ≤ 4611686018427387903 := by unfold bndI; omega
    omega
theorem size_of (l : List Int) (S : Heap) (hl : l.length ≤ maxLen) (h1 : ∀ x ∈ l, inI x) : Call theE 14 [lstI l] S (.int .i64 (sizeL l)) S := by
  have hml : maxLen ≤ 9223372036854775807 := by decide
  refine Call.ofC Try.func14 Ytimdnnlfkkkpbaa.b14 Ytimdnnlfkkkpbaa.d14 Ytimdnnlfkkkpbaa.e14 (by simp [Try.f14]) ?_
  dsimp only [Ytimdnnlfkkkpbaa.c14, Try.f14, Option.getD_some]
  simp (maxSteps := 2000000) only [wk0, wk1, wk2, wk3, keepA, keepT, Fr.keep, frzT, flatT, arrayAtA, ownT, extT, Fr.ev, Fr.put, Fr.get, initFr, buildSliceA, zeros, pkB, pkT, pkF, ownDst, Env.kd, ofConst, isConst, binA, intI, cmpI, shiftI, convertA, buildA, fillA, fillS, splice, AV.cells?, storeA, readAt, fieldAddrA, fieldA, indexA, extractA, unA, builtinA, appendA, lenA, sliceCells, isSliceK, makeInterfaceA, nilCheckA, eqA, AV.one, AV.plain, if_false, if_true, Nat.reduceEqDiff, reduceIte, Nat.reduceAdd, List.replicate, Nat.reduceLeDiff, Nat.reduceMul, Nat.reduceSub, Nat.reducePow, Int.reduceLT, Int.reduceLE, Int.reduceToNat, Int.reducePow, IntKind.bits, Int.reduceEq, Int.reduceMul, Int.reduceNeg, ne_eq, reduceCtorEq, escT, BEq.rfl, beq_self_eq_true, Int.reduceAdd, Int.reduceSub, Int.reduceMod, Int.reduceDiv, Nat.reduceMod, Nat.reduceDiv, Nat.reduceLT, cond_true, cond_false, gt_iff_lt, ge_iff_le, lstI, Ytimdnnlfkkkpbaa.D14, ty2, ty3, ty4, ty22]
  refine loopC_ind (fun m fr H => ∃ i : Nat, i + m = l.length ∧ fr.get 10 = .int .i64 i ∧ fr.get 9 = .int .i64 l.length ∧ fr.get 8 = lstI l ∧ fr.get 3 = .int .i64 (sizeL (l.take i)) ∧ H = S) ?_ (n := l.length) ⟨0, by omega, rfl, rfl, rfl, rfl, rfl⟩
  rintro m fr H ⟨i, him, g10, g9, g8, g3, rfl⟩ ih
  by_cases hi : (i : Int) < l.length
  · have hin : i < l.length := by omega
    have k1 : (0 : Int) ≤ i := by omega
    have wi : IntKind.i64.wrap ((i : Int) + 1) = ((i + 1 : Nat) : Int) := wrapI (by omega)
    have gl := get_lstI hin
    have hb : -4611686018427387903 ≤ bndI l[i] ∧ bndI l[i] ≤ 4611686018427387903 := by unfold bndI; omega
    have wn : IntKind.i64.wrap (0 - bndI l[i]) = -(bndI l[i]) := by rw [wrapI (by omega)]; omega
    have st := (sizeL_step l i hin).symm
    simp (maxSteps := 2000000) only [wk0, wk1, wk2, wk3, keepA, keepT, Fr.keep, frzT, flatT, arrayAtA, ownT, extT, Fr.ev, Fr.put, Fr.get, initFr, buildSliceA, zeros, pkB, pkT, pkF, ownDst, Env.kd, ofConst, isConst, binA, intI, cmpI, shiftI, convertA, buildA, fillA, fillS, splice, AV.cells?, storeA, readAt, fieldAddrA, fieldA, indexA, extractA, unA, builtinA, appendA, lenA, sliceCells, isSliceK, makeInterfaceA, nilCheckA, eqA, AV.one, AV.plain, if_false, if_true, Nat.reduceEqDiff, reduceIte, Nat.reduceAdd, List.replicate, Nat.reduceLeDiff, Nat.reduceMul, Nat.reduceSub, Nat.reducePow, Int.reduceLT, Int.reduceLE, Int.reduceToNat, Int.reducePow, IntKind.bits, Int.reduceEq, Int.reduceMul, Int.reduceNeg, ne_eq, reduceCtorEq, escT, BEq.rfl, beq_self_eq_true, Int.reduceAdd, Int.reduceSub, Int.reduceMod, Int.reduceDiv, Nat.reduceMod, Nat.reduceDiv, Nat.reduceLT, cond_true, cond_false, gt_iff_lt, ge_iff_le, lstI, g10, g9, g8, g3, hi, k1, Int.toNat_natCast, Nat.mul_one, gl, Ytimdnnlfkkkpbaa.D14, ty2, ty3, ty4, ty22]
    refine callThen_of (clamp_ok _ _ (h1 _ (List.getElem_mem hin))) ?_
    simp (maxSteps := 2000000) only [wk0, wk1, wk2, wk3, keepA, keepT, Fr.keep, frzT, flatT, arrayAtA, ownT, extT, Fr.ev, Fr.put, Fr.get, initFr, buildSliceA, zeros, pkB, pkT, pkF, ownDst, Env.kd, ofConst, isConst, binA, intI, cmpI, shiftI, convertA, buildA, fillA, fillS, splice, AV.cells?, storeA, readAt, fieldAddrA, fieldA, indexA, extractA, unA, builtinA, appendA, lenA, sliceCells, isSliceK, makeInterfaceA, nilCheckA, eqA, AV.one, AV.plain, if_false, if_true, Nat.reduceEqDiff, reduceIte, Nat.reduceAdd, List.replicate, Nat.reduceLeDiff, Nat.reduceMul, Nat.reduceSub, Nat.reducePow, Int.reduceLT, Int.reduceLE, Int.reduceToNat, Int.reducePow, IntKind.bits, Int.reduceEq, Int.reduceMul, Int.reduceNeg, ne_eq, reduceCtorEq, escT, BEq.rfl, beq_self_eq_true, Int.reduceAdd, Int.reduceSub, Int.reduceMod, Int.reduceDiv, Nat.reduceMod, Nat.reduceDiv, Nat.reduceLT, cond_true, cond_false, gt_iff_lt, ge_iff_le, lstI, g10, g9, g8, g3, hi, k1, wn, wi, st, Ytimdnnlfkkkpbaa.D14, ty2, ty3, ty4, ty22]
    exact ih (m - 1) _ _ (by omega) ⟨i + 1, by omega, by simp [Fr.get], by simp [Fr.get, g9], by simp [Fr.get, g8, lstI], by simp [Fr.get], rfl⟩
  · obtain rfl : i = l.length := by omega
    rw [List.take_length] at g3
    simp (maxSteps := 2000000) only [wk0, wk1, wk2, wk3, keepA, keepT, Fr.keep, frzT, flatT, arrayAtA, ownT, extT, Fr.ev, Fr.put, Fr.get, initFr, buildSliceA, zeros, pkB, pkT, pkF, ownDst, Env.kd, ofConst, isConst, binA, intI, cmpI, shiftI, convertA, buildA, fillA, fillS, splice, AV.cells?, storeA, readAt, fieldAddrA, fieldA, indexA, extractA, unA, builtinA, appendA, lenA, sliceCells, isSliceK, makeInterfaceA, nilCheckA, eqA, AV.one, AV.plain, if_false, if_true, Nat.reduceEqDiff, reduceIte, Nat.reduceAdd, List.replicate, Nat.reduceLeDiff, Nat.reduceMul, Nat.reduceSub, Nat.reducePow, Int.reduceLT, Int.reduceLE, Int.reduceToNat, Int.reducePow, IntKind.bits, Int.reduceEq, Int.reduceMul, Int.reduceNeg, ne_eq, reduceCtorEq, escT, BEq.rfl, beq_self_eq_true, Int.reduceAdd, Int.reduceSub, Int.reduceMod, Int.reduceDiv, Nat.reduceMod, Nat.reduceDiv, Nat.reduceLT, cond_true, cond_false, gt_iff_lt, ge_iff_le, g10, g9, g8, g3, hi, Ytimdnnlfkkkpbaa.D14, ty2, ty3, ty4, ty22]
    exact retB_plain (by simp [nmd_int]) rfl (by simp)
def sclL (l : List Int) (k : Int) : List Int := (List.range l.length).map fun i => bndI (rnd (l.getD i 0 * k) (2 ^ 20))
def sclO (l : List Int) (k : Int) : Bool := (List.range l.length).any fun i => ovrB (rnd (l.getD i 0 * k) (2 ^ 20))
theorem scale1_ok (l : List Int) (k : Int) (i j : Nat) (S : Heap) (hi : i < l.length) (h1 : ∀ x ∈ l, inI x) (hk : inI k) (b1 : blkAt S j 0 = some ⟨[lstI l], 0⟩) (b2 : blkAt S (j + 1) 0 = some ⟨[.int .i64 k], 0⟩) :
    Call theE 107 [.int .i64 i, .ptr j 0 0, .ptr (j + 1) 0 0, .ptr (j + 2) 0 0] S (.tup [.int .i64 (bndI (rnd (l.getD i 0 * k) (2 ^ 20))), .bool (ovrB (rnd (l.getD i 0 * k) (2 ^ 20)))]) S := by
  have gl := get_lstI hi
  have k1 : (0 : Int) ≤ i := by omega
  have k2 : (i : Int) < l.length := by omega
  have hm := mul_ok l[i] k 20 S (by decide) (h1 _ (List.getElem_mem hi)) hk
  rw [List.getD_eq_getElem?_getD, List.getElem?_eq_getElem hi, Option.getD_some]
  refine Call.ofC Try.func107 Ytimdnnlfkkkpbaa.b107 Ytimdnnlfkkkpbaa.d107 Ytimdnnlfkkkpbaa.e107 (by simp [Try.f107]) ?_
  dsimp only [Ytimdnnlfkkkpbaa.c107, Try.f107, Option.getD_some]
  simp (maxSteps := 2000000) only [wk0, wk1, wk2, wk3, keepA, keepT, Fr.keep, frzT, flatT, arrayAtA, ownT, extT, Fr.ev, Fr.put, Fr.get, initFr, buildSliceA, zeros, pkB, pkT, pkF, ownDst, Env.kd, ofConst, isConst, binA, intI, cmpI, shiftI, convertA, buildA, fillA, fillS, splice, AV.cells?, storeA, readAt, fieldAddrA, fieldA, indexA, extractA, unA, builtinA, appendA, lenA, sliceCells, isSliceK, makeInterfaceA, nilCheckA, eqA, AV.one, AV.plain, if_false, if_true, Nat.reduceEqDiff, reduceIte, Nat.reduceAdd, List.replicate, Nat.reduceLeDiff, Nat.reduceMul, Nat.reduceSub, Nat.reducePow, Int.reduceLT, Int.reduceLE, Int.reduceToNat, Int.reducePow, IntKind.bits, Int.reduceEq, Int.reduceMul, Int.reduceNeg, ne_eq, reduceCtorEq, escT, BEq.rfl, beq_self_eq_true, Int.reduceAdd, Int.reduceSub, Int.reduceMod, Int.reduceDiv, Nat.reduceMod, Nat.reduceDiv, Nat.reduceLT, cond_true, cond_false, gt_iff_lt, ge_iff_le, lstI, b1, b2, k1, k2, Int.toNat_natCast, Nat.mul_one, gl, Ytimdnnlfkkkpbaa.D107, ty2, ty3, ty4, ty22, ty24]
  refine callThen_of hm ?_
  simp (maxSteps := 2000000) only [wk0, wk1, wk2, wk3, keepA, keepT, Fr.keep, frzT, flatT, arrayAtA, ownT, extT, Fr.ev, Fr.put, Fr.get, initFr, buildSliceA, zeros, pkB, pkT, pkF, ownDst, Env.kd, ofConst, isConst, binA, intI, cmpI, shiftI, convertA, buildA, fillA, fillS, splice, AV.cells?, storeA, readAt, fieldAddrA, fieldA, indexA, extractA, unA, builtinA, appendA, lenA, sliceCells, isSliceK, makeInterfaceA, nilCheckA, eqA, AV.one, AV.plain, if_false, if_true, Nat.reduceEqDiff, reduceIte, Nat.reduceAdd, List.replicate, Nat.reduceLeDiff, Nat.reduceMul, Nat.reduceSub, Nat.reducePow, Int.reduceLT, Int.reduceLE, Int.reduceToNat, Int.reducePow, IntKind.bits, Int.reduceEq, Int.reduceMul, Int.reduceNeg, ne_eq, reduceCtorEq, escT, BEq.rfl, beq_self_eq_true, Int.reduceAdd, Int.reduceSub, Int.reduceMod, Int.reduceDiv, Nat.reduceMod, Nat.reduceDiv, Nat.reduceLT, cond_true, cond_false, gt_iff_lt, ge_iff_le, Ytimdnnlfkkkpbaa.D107, ty2, ty3, ty4, ty22, ty24]
  exact retB_plain (by simp [nmd_int, nmd_bool]) rfl (by simp)
theorem scale_ok (l : List Int) (k : Int) (S : Heap) (h0 : l.length ≤ 6) (h1 : ∀ x ∈ l, inI x) (hk : inI k) :
    Call theE 58 [lstI l, .int .i64 k] S (.tup [lstI (sclL l k), .bool (sclO l k), .nili]) S := by
  have hz := fun S => sized0_ok l S
  rw [decide_eq_true h0] at hz
  have he := each_ok 107 [.ptr S.length 0 0, .ptr (S.length + 1) 0 0, .ptr (S.length + 2) 0 0] l.length (fun i => bndI (rnd (l.getD i 0 * k) (2 ^ 20))) (fun i => ovrB (rnd (l.getD i 0 * k) (2 ^ 20)))
    (S ++ [some ⟨[lstI l], 0⟩, some ⟨[.int .i64 k], 0⟩, some ⟨[.nili], 0⟩]) (by omega) (by decide) (fun i hi L =>
      scale1_ok l k i S.length _ hi h1 hk (by rw [List.append_assoc, blkAt_app0]; rfl) (by rw [List.append_assoc, blkAt_app]; rfl))
  simp only [lstI] at he hz
  refine Call.ofC Try.func58 Ytimdnnlfkkkpbaa.b58 Ytimdnnlfkkkpbaa.d58 Ytimdnnlfkkkpbaa.e58 (by simp [Try.f58]) ?_
  dsimp only [Ytimdnnlfkkkpbaa.c58, Try.f58, Option.getD_some]
  simp (maxSteps := 2000000) only [wk0, wk1, wk2, wk3, keepA, keepT, Fr.keep, frzT, flatT, arrayAtA, ownT, extT, Fr.ev, Fr.put, Fr.get, initFr, buildSliceA, zeros, pkB, pkT, pkF, ownDst, Env.kd, ofConst, isConst, binA, intI, cmpI, shiftI, convertA, buildA, fillA, fillS, splice, AV.cells?, storeA, readAt, fieldAddrA, fieldA, indexA, extractA, unA, builtinA, appendA, lenA, sliceCells, isSliceK, makeInterfaceA, nilCheckA, eqA, AV.one, AV.plain, if_false, if_true, Nat.reduceEqDiff, reduceIte, Nat.reduceAdd, List.replicate, Nat.reduceLeDiff, Nat.reduceMul, Nat.reduceSub, Nat.reducePow, Int.reduceLT, Int.reduceLE, Int.reduceToNat, Int.reducePow, IntKind.bits, Int.reduceEq, Int.reduceMul, Int.reduceNeg, ne_eq, reduceCtorEq, escT, BEq.rfl, beq_self_eq_true, Int.reduceAdd, Int.reduceSub, Int.reduceMod, Int.reduceDiv, Nat.reduceMod, Nat.reduceDiv, Nat.reduceLT, cond_true, cond_false, gt_iff_lt, ge_iff_le, lstI, Ytimdnnlfkkkpbaa.D58, ty2, ty3, ty4, ty22, ty24, ty29, ty95, ty98]
  refine callThen_of (hz _) ?_
  simp (maxSteps := 2000000) only [wk0, wk1, wk2, wk3, keepA, keepT, Fr.keep, frzT, flatT, arrayAtA, ownT, extT, Fr.ev, Fr.put, Fr.get, initFr, buildSliceA, zeros, pkB, pkT, pkF, ownDst, Env.kd, ofConst, isConst, binA, intI, cmpI, shiftI, convertA, buildA, fillA, fillS, splice, AV.cells?, storeA, readAt, fieldAddrA, fieldA, indexA, extractA, unA, builtinA, appendA, lenA, sliceCells, isSliceK, makeInterfaceA, nilCheckA, eqA, AV.one, AV.plain, if_false, if_true, Nat.reduceEqDiff, reduceIte, Nat.reduceAdd, List.replicate, Nat.reduceLeDiff, Nat.reduceMul, Nat.reduceSub, Nat.reducePow, Int.reduceLT, Int.reduceLE, Int.reduceToNat, Int.reducePow, IntKind.bits, Int.reduceEq, Int.reduceMul, Int.reduceNeg, ne_eq, reduceCtorEq, escT, BEq.rfl, beq_self_eq_true, Int.reduceAdd, Int.reduceSub, Int.reduceMod, Int.reduceDiv, Nat.reduceMod, Nat.reduceDiv, Nat.reduceLT, cond_true, cond_false, gt_iff_lt, ge_iff_le, lstI, Ytimdnnlfkkkpbaa.D58, ty2, ty3, ty4, ty22, ty24, ty29, ty95, ty98]
  refine callThen_of he ?_
  simp (maxSteps := 2000000) only [wk0, wk1, wk2, wk3, keepA, keepT, Fr.keep, frzT, flatT, arrayAtA, ownT, extT, Fr.ev, Fr.put, Fr.get, initFr, buildSliceA, zeros, pkB, pkT, pkF, ownDst, Env.kd, ofConst, isConst, binA, intI, cmpI, shiftI, convertA, buildA, fillA, fillS, splice, AV.cells?, storeA, readAt, fieldAddrA, fieldA, indexA, extractA, unA, builtinA, appendA, lenA, sliceCells, isSliceK, makeInterfaceA, nilCheckA, eqA, AV.one, AV.plain, if_false, if_true, Nat.reduceEqDiff, reduceIte, Nat.reduceAdd, List.replicate, Nat.reduceLeDiff, Nat.reduceMul, Nat.reduceSub, Nat.reducePow, Int.reduceLT, Int.reduceLE, Int.reduceToNat, Int.reducePow, IntKind.bits, Int.reduceEq, Int.reduceMul, Int.reduceNeg, ne_eq, reduceCtorEq, escT, BEq.rfl, beq_self_eq_true, Int.reduceAdd, Int.reduceSub, Int.reduceMod, Int.reduceDiv, Nat.reduceMod, Nat.reduceDiv, Nat.reduceLT, cond_true, cond_false, gt_iff_lt, ge_iff_le, lstI, Ytimdnnlfkkkpbaa.D58, ty2, ty3, ty4, ty22, ty24, ty29, ty95, ty98]
  exact retB_plain (by simp [nmd_lst, nmd_bool, nmd_nili]) rfl (by simp)
theorem scale_bad (l : List Int) (k : Int) (S : Heap) (h0 : ¬ l.length ≤ 6) : Call theE 58 [lstI l, .int .i64 k] S (.tup [.nils, .bool false, errA 1]) S := by
  have hz := fun S => sized0_ok l S
  rw [decide_eq_false h0] at hz
  simp only [lstI] at hz
  refine Call.ofC Try.func58 Ytimdnnlfkkkpbaa.b58 Ytimdnnlfkkkpbaa.d58 Ytimdnnlfkkkpbaa.e58 (by simp [Try.f58]) ?_
  dsimp only [Ytimdnnlfkkkpbaa.c58, Try.f58, Option.getD_some]
  simp (maxSteps := 2000000) only [wk0, wk1, wk2, wk3, keepA, keepT, Fr.keep, frzT, flatT, arrayAtA, ownT, extT, Fr.ev, Fr.put, Fr.get, initFr, buildSliceA, zeros, pkB, pkT, pkF, ownDst, Env.kd, ofConst, isConst, binA, intI, cmpI, shiftI, convertA, buildA, fillA, fillS, splice, AV.cells?, storeA, readAt, fieldAddrA, fieldA, indexA, extractA, unA, builtinA, appendA, lenA, sliceCells, isSliceK, makeInterfaceA, nilCheckA, eqA, AV.one, AV.plain, if_false, if_true, Nat.reduceEqDiff, reduceIte, Nat.reduceAdd, List.replicate, Nat.reduceLeDiff, Nat.reduceMul, Nat.reduceSub, Nat.reducePow, Int.reduceLT, Int.reduceLE, Int.reduceToNat, Int.reducePow, IntKind.bits, Int.reduceEq, Int.reduceMul, Int.reduceNeg, ne_eq, reduceCtorEq, escT, BEq.rfl, beq_self_eq_true, Int.reduceAdd, Int.reduceSub, Int.reduceMod, Int.reduceDiv, Nat.reduceMod, Nat.reduceDiv, Nat.reduceLT, cond_true, cond_false, gt_iff_lt, ge_iff_le, lstI, Ytimdnnlfkkkpbaa.D58, ty2, ty3, ty4, ty22, ty24, ty29, ty95, ty98]
  refine callThen_of (hz _) ?_
  simp (maxSteps := 2000000) only [wk0, wk1, wk2, wk3, keepA, keepT, Fr.keep, frzT, flatT, arrayAtA, ownT, extT, Fr.ev, Fr.put, Fr.get, initFr, buildSliceA, zeros, pkB, pkT, pkF, ownDst, Env.kd, ofConst, isConst, binA, intI, cmpI, shiftI, convertA, buildA, fillA, fillS, splice, AV.cells?, storeA, readAt, fieldAddrA, fieldA, indexA, extractA, unA, builtinA, appendA, lenA, sliceCells, isSliceK, makeInterfaceA, nilCheckA, eqA, AV.one, AV.plain, if_false, if_true, Nat.reduceEqDiff, reduceIte, Nat.reduceAdd, List.replicate, Nat.reduceLeDiff, Nat.reduceMul, Nat.reduceSub, Nat.reducePow, Int.reduceLT, Int.reduceLE, Int.reduceToNat, Int.reducePow, IntKind.bits, Int.reduceEq, Int.reduceMul, Int.reduceNeg, ne_eq, reduceCtorEq, escT, BEq.rfl, beq_self_eq_true, Int.reduceAdd, Int.reduceSub, Int.reduceMod, Int.reduceDiv, Nat.reduceMod, Nat.reduceDiv, Nat.reduceLT, cond_true, cond_false, gt_iff_lt, ge_iff_le, lstI, Ytimdnnlfkkkpbaa.D58, ty2, ty3, ty4, ty22, ty24, ty29, ty95, ty98]
  exact retB_plain (by simp [nmd_nils, nmd_bool, nmd_ifc, nmd_int]) rfl (by simp)
end Go.Proofs.Ytimdnnlfkkkpbaa
