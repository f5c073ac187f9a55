/- mat: what comes of any matrices, as one. -/
import Derived.Test.YtimdnnlfkkkpbaaDoorN4
import Derived.Test.YtimdnnlfkkkpbaaDoorEvV
set_option linter.unusedSimpArgs false
set_option linter.unusedVariables false
set_option maxRecDepth 100000
set_option maxHeartbeats 4000000
namespace Go.Proofs.YtimdnnlfkkkpbaaDoor
section
variable {E : Env} {C : CallRel} {f base : Nat} {D : Nat → List Tag} {a b c : Code} {fr : Fr} {H : Heap} {K : Ex → Fr → Heap → Prop}
theorem wpC_assoc : wpC E C f base D (.seq a (.seq b c)) fr H K = wpC E C f base D (.seq (.seq a b) c) fr H K := by
  have h : seqC E C f base D (.seq b c) K = seqC E C f base D b (seqC E C f base D c K) := by
    funext e fr H
    cases e <;> rfl
  rw [c_seq, c_seq, c_seq, h]
/-- Cut: behind the first part Q is known; what follows is looked at once. -/
theorem wpC_split (Q : Fr → Heap → Prop) (h1 : ∀ K' : Ex → Fr → Heap → Prop, (∀ fr H, Q fr H → K' .normal fr H) → wpC E C f base D a fr H K') (h2 : ∀ fr H, Q fr H → wpC E C f base D b fr H K) : wpC E C f base D (.seq a b) fr H K := by
  rw [c_seq]
  exact h1 _ fun fr H h => h2 fr H h
end
theorem mtx_cols {l : List (List Int)} (h : MayR l) : lstL l = mtx l.length (l.getD 0 []).length (rowsF l) := mtx_of h
def okE (e : AV) : Prop := ∀ own k H, moveA own k H e = some (e, H)
theorem okE_nili : okE .nili := fun _ _ _ => rfl
theorem okE_err (n : Int) : okE (errA n) := fun _ _ _ => rfl
def colsL (l : List (List Int)) : Nat := (l.getD 0 []).length
/-- A matrix of rows; of none that may be noughts. -/
structure MatX (l : List (List Int)) (r c : Int) (L : List Int) : Prop where
  len : L.length = 36
  yes : MayR l → r = l.length ∧ c = colsL l ∧ L = gridP (colsL l) (rowsF l) (l.length * colsL l)
  no : ¬ MayR l → r = 0 ∧ c = 0 ∧ L = List.replicate 36 0
theorem MatX.some (l : List (List Int)) : ∃ r c L, MatX l r c L := by
  by_cases h : MayR l
  · exact ⟨_, _, _, gridP_len _ _ _, fun _ => ⟨rfl, rfl, rfl⟩, fun h2 => absurd h h2⟩
  · exact ⟨0, 0, List.replicate 36 0, rfl, fun h2 => absurd h2 h, fun _ => ⟨rfl, rfl, rfl⟩⟩
noncomputable def c44 : Code := Tryd.f44.body.getD .skip
theorem b44 : Tryd.f44.body = some c44 := rfl
theorem d44 : fnOk Tryd.f44 c44 = true := by kernel_rfl
def D44 : Nat → List Tag
  | 1 => [.pure, .pure, .pure, .pure, .pure, .pure, .pure, .pure, .quiet, .pure, .pure, .pure, .quiet, .pure, .pure, .pure, .pure]
  | _ => []
theorem e44 : drawsOk D44 c44 = true := by kernel_rfl
theorem matOf_any (l : List (List Int)) {r c : Int} {L : List Int} (h : MatX l r c L) (S : Heap) : Call theE 39 [lstL l] S (matA r c L) S := by
  by_cases hm : MayR l
  · obtain ⟨rfl, rfl, rfl⟩ := h.yes hm
    have q := fun S => of_mat_ok l (colsL l) S hm.1 hm.2.1 hm.2.2
    have tk := take36g (colsL l) (rowsF l) (l.length * colsL l)
    have al := all36g (gridP (colsL l) (rowsF l) (l.length * colsL l))
    simp only [mk, matA, lstL] at q ⊢
    refine Call.ofC Tryd.func39 YtimdnnlfkkkpbaaDoor.b39 YtimdnnlfkkkpbaaDoor.d39 YtimdnnlfkkkpbaaDoor.e39 (by simp [Tryd.f39]) ?_
    dsimp only [YtimdnnlfkkkpbaaDoor.c39, Tryd.f39, Option.getD_some]
    simp (maxSteps := 2000000) only [wk0, wk1, wk2, wk3, keepA, keepT, Fr.keep, frzT, flatT, arrayAtA, ownT, extT, Fr.ev, Fr.put, Fr.get, initFr, buildSliceA, zeros, pkB, pkT, pkF, ownDst, Env.kd, ofConst, isConst, binA, intI, cmpI, shiftI, convertA, buildA, fillA, fillS, splice, AV.cells?, storeA, readAt, fieldAddrA, fieldA, indexA, extractA, unA, builtinA, appendA, lenA, sliceCells, isSliceK, makeInterfaceA, nilCheckA, eqA, AV.one, AV.plain, if_false, if_true, Nat.reduceEqDiff, reduceIte, Nat.reduceAdd, List.replicate, Nat.reduceLeDiff, Nat.reduceMul, Nat.reduceSub, Nat.reducePow, Int.reduceLT, Int.reduceLE, Int.reduceToNat, Int.reducePow, IntKind.bits, Int.reduceEq, Int.reduceMul, Int.reduceNeg, ne_eq, reduceCtorEq, escT, BEq.rfl, beq_self_eq_true, Int.reduceAdd, Int.reduceSub, Int.reduceMod, Int.reduceDiv, Nat.reduceMod, Nat.reduceDiv, Nat.reduceLT, cond_true, cond_false, gt_iff_lt, ge_iff_le, List.length_map, gridP_len, tk, al, YtimdnnlfkkkpbaaDoor.D39, ty4, ty22, ty25, ty49]
    refine callThen_of (q _) ?_
    simp (maxSteps := 2000000) only [wk0, wk1, wk2, wk3, keepA, keepT, Fr.keep, frzT, flatT, arrayAtA, ownT, extT, Fr.ev, Fr.put, Fr.get, initFr, buildSliceA, zeros, pkB, pkT, pkF, ownDst, Env.kd, ofConst, isConst, binA, intI, cmpI, shiftI, convertA, buildA, fillA, fillS, splice, AV.cells?, storeA, readAt, fieldAddrA, fieldA, indexA, extractA, unA, builtinA, appendA, lenA, sliceCells, isSliceK, makeInterfaceA, nilCheckA, eqA, AV.one, AV.plain, if_false, if_true, Nat.reduceEqDiff, reduceIte, Nat.reduceAdd, List.replicate, Nat.reduceLeDiff, Nat.reduceMul, Nat.reduceSub, Nat.reducePow, Int.reduceLT, Int.reduceLE, Int.reduceToNat, Int.reducePow, IntKind.bits, Int.reduceEq, Int.reduceMul, Int.reduceNeg, ne_eq, reduceCtorEq, escT, BEq.rfl, beq_self_eq_true, Int.reduceAdd, Int.reduceSub, Int.reduceMod, Int.reduceDiv, Nat.reduceMod, Nat.reduceDiv, Nat.reduceLT, cond_true, cond_false, gt_iff_lt, ge_iff_le, List.length_map, gridP_len, tk, al, YtimdnnlfkkkpbaaDoor.D39, ty4, ty22, ty25, ty49]
    exact retB_plain (by simp [nmd_agg, nmd_int]) rfl (by simp)
  · obtain ⟨rfl, rfl, rfl⟩ := h.no hm
    have q := fun S => of_mat_bad l S hm
    simp only [zeroM, matA, List.replicate, List.map_cons, List.map_nil, lstL, errA] at q ⊢
    refine Call.ofC Tryd.func39 YtimdnnlfkkkpbaaDoor.b39 YtimdnnlfkkkpbaaDoor.d39 YtimdnnlfkkkpbaaDoor.e39 (by simp [Tryd.f39]) ?_
    dsimp only [YtimdnnlfkkkpbaaDoor.c39, Tryd.f39, Option.getD_some]
    simp (maxSteps := 2000000) only [wk0, wk1, wk2, wk3, keepA, keepT, Fr.keep, frzT, flatT, arrayAtA, ownT, extT, Fr.ev, Fr.put, Fr.get, initFr, buildSliceA, zeros, pkB, pkT, pkF, ownDst, Env.kd, ofConst, isConst, binA, intI, cmpI, shiftI, convertA, buildA, fillA, fillS, splice, AV.cells?, storeA, readAt, fieldAddrA, fieldA, indexA, extractA, unA, builtinA, appendA, lenA, sliceCells, isSliceK, makeInterfaceA, nilCheckA, eqA, AV.one, AV.plain, if_false, if_true, Nat.reduceEqDiff, reduceIte, Nat.reduceAdd, List.replicate, Nat.reduceLeDiff, Nat.reduceMul, Nat.reduceSub, Nat.reducePow, Int.reduceLT, Int.reduceLE, Int.reduceToNat, Int.reducePow, IntKind.bits, Int.reduceEq, Int.reduceMul, Int.reduceNeg, ne_eq, reduceCtorEq, escT, BEq.rfl, beq_self_eq_true, Int.reduceAdd, Int.reduceSub, Int.reduceMod, Int.reduceDiv, Nat.reduceMod, Nat.reduceDiv, Nat.reduceLT, cond_true, cond_false, gt_iff_lt, ge_iff_le, YtimdnnlfkkkpbaaDoor.D39, ty4, ty22, ty25, ty49]
    refine callThen_of (q _) ?_
    simp (maxSteps := 2000000) only [wk0, wk1, wk2, wk3, keepA, keepT, Fr.keep, frzT, flatT, arrayAtA, ownT, extT, Fr.ev, Fr.put, Fr.get, initFr, buildSliceA, zeros, pkB, pkT, pkF, ownDst, Env.kd, ofConst, isConst, binA, intI, cmpI, shiftI, convertA, buildA, fillA, fillS, splice, AV.cells?, storeA, readAt, fieldAddrA, fieldA, indexA, extractA, unA, builtinA, appendA, lenA, sliceCells, isSliceK, makeInterfaceA, nilCheckA, eqA, AV.one, AV.plain, if_false, if_true, Nat.reduceEqDiff, reduceIte, Nat.reduceAdd, List.replicate, Nat.reduceLeDiff, Nat.reduceMul, Nat.reduceSub, Nat.reducePow, Int.reduceLT, Int.reduceLE, Int.reduceToNat, Int.reducePow, IntKind.bits, Int.reduceEq, Int.reduceMul, Int.reduceNeg, ne_eq, reduceCtorEq, escT, BEq.rfl, beq_self_eq_true, Int.reduceAdd, Int.reduceSub, Int.reduceMod, Int.reduceDiv, Nat.reduceMod, Nat.reduceDiv, Nat.reduceLT, cond_true, cond_false, gt_iff_lt, ge_iff_le, YtimdnnlfkkkpbaaDoor.D39, ty4, ty22, ty25, ty49]
    exact retB_plain (by simp [nmd_agg, nmd_int]) rfl (by simp)
theorem alike8_ok (r c r' c' : Nat) (f g : Nat → Nat → Int) (S : Heap) (hr : 1 ≤ r) (hr' : 1 ≤ r') : Call theE 44 [mtx r c f, mtx r' c' g] S (.bool (decide (r = r' ∧ c = c'))) S := by
  have g1 := rowsA_get (c := c) (f := f) (show 0 < r by omega)
  have g2 := rowsA_get (c := c') (f := g) (show 0 < r' by omega)
  have k1 : (0 : Int) < r := by omega
  have k2 : (0 : Int) < r' := by omega
  refine Call.ofC Tryd.func44 YtimdnnlfkkkpbaaDoor.b44 YtimdnnlfkkkpbaaDoor.d44 YtimdnnlfkkkpbaaDoor.e44 (by simp [Tryd.f44]) ?_
  dsimp only [YtimdnnlfkkkpbaaDoor.c44, Tryd.f44, Option.getD_some]
  by_cases h1 : r = r'
  · subst h1
    by_cases h2 : c = c'
    · subst h2
      simp (maxSteps := 2000000) only [wk0, wk1, wk2, wk3, keepA, keepT, Fr.keep, frzT, flatT, arrayAtA, ownT, extT, Fr.ev, Fr.put, Fr.get, initFr, buildSliceA, zeros, pkB, pkT, pkF, ownDst, Env.kd, ofConst, isConst, binA, intI, cmpI, shiftI, convertA, buildA, fillA, fillS, splice, AV.cells?, storeA, readAt, fieldAddrA, fieldA, indexA, extractA, unA, builtinA, appendA, lenA, sliceCells, isSliceK, makeInterfaceA, nilCheckA, eqA, AV.one, AV.plain, if_false, if_true, Nat.reduceEqDiff, reduceIte, Nat.reduceAdd, List.replicate, Nat.reduceLeDiff, Nat.reduceMul, Nat.reduceSub, Nat.reducePow, Int.reduceLT, Int.reduceLE, Int.reduceToNat, Int.reducePow, IntKind.bits, Int.reduceEq, Int.reduceMul, Int.reduceNeg, ne_eq, reduceCtorEq, escT, BEq.rfl, beq_self_eq_true, Int.reduceAdd, Int.reduceSub, Int.reduceMod, Int.reduceDiv, Nat.reduceMod, Nat.reduceDiv, Nat.reduceLT, cond_true, cond_false, gt_iff_lt, ge_iff_le, mtx, g1, g2, k1, k2, decide_true, YtimdnnlfkkkpbaaDoor.D44, ty3, ty4, ty22, ty23]
      exact retB_plain (by simp [nmd_bool]) (by simp [packA]) (by simp)
    · have h2' : ((c : Int) = c') = False := eq_false (by omega)
      simp (maxSteps := 2000000) only [wk0, wk1, wk2, wk3, keepA, keepT, Fr.keep, frzT, flatT, arrayAtA, ownT, extT, Fr.ev, Fr.put, Fr.get, initFr, buildSliceA, zeros, pkB, pkT, pkF, ownDst, Env.kd, ofConst, isConst, binA, intI, cmpI, shiftI, convertA, buildA, fillA, fillS, splice, AV.cells?, storeA, readAt, fieldAddrA, fieldA, indexA, extractA, unA, builtinA, appendA, lenA, sliceCells, isSliceK, makeInterfaceA, nilCheckA, eqA, AV.one, AV.plain, if_false, if_true, Nat.reduceEqDiff, reduceIte, Nat.reduceAdd, List.replicate, Nat.reduceLeDiff, Nat.reduceMul, Nat.reduceSub, Nat.reducePow, Int.reduceLT, Int.reduceLE, Int.reduceToNat, Int.reducePow, IntKind.bits, Int.reduceEq, Int.reduceMul, Int.reduceNeg, ne_eq, reduceCtorEq, escT, BEq.rfl, beq_self_eq_true, Int.reduceAdd, Int.reduceSub, Int.reduceMod, Int.reduceDiv, Nat.reduceMod, Nat.reduceDiv, Nat.reduceLT, cond_true, cond_false, gt_iff_lt, ge_iff_le, mtx, g1, g2, k1, k2, h2', decide_true, decide_false, YtimdnnlfkkkpbaaDoor.D44, ty3, ty4, ty22, ty23]
      exact retB_plain (by simp [nmd_bool]) (by simp [packA, h2]) (by simp)
  · have h1' : ((r : Int) = r') = False := eq_false (by omega)
    simp (maxSteps := 2000000) only [wk0, wk1, wk2, wk3, keepA, keepT, Fr.keep, frzT, flatT, arrayAtA, ownT, extT, Fr.ev, Fr.put, Fr.get, initFr, buildSliceA, zeros, pkB, pkT, pkF, ownDst, Env.kd, ofConst, isConst, binA, intI, cmpI, shiftI, convertA, buildA, fillA, fillS, splice, AV.cells?, storeA, readAt, fieldAddrA, fieldA, indexA, extractA, unA, builtinA, appendA, lenA, sliceCells, isSliceK, makeInterfaceA, nilCheckA, eqA, AV.one, AV.plain, if_false, if_true, Nat.reduceEqDiff, reduceIte, Nat.reduceAdd, List.replicate, Nat.reduceLeDiff, Nat.reduceMul, Nat.reduceSub, Nat.reducePow, Int.reduceLT, Int.reduceLE, Int.reduceToNat, Int.reducePow, IntKind.bits, Int.reduceEq, Int.reduceMul, Int.reduceNeg, ne_eq, reduceCtorEq, escT, BEq.rfl, beq_self_eq_true, Int.reduceAdd, Int.reduceSub, Int.reduceMod, Int.reduceDiv, Nat.reduceMod, Nat.reduceDiv, Nat.reduceLT, cond_true, cond_false, gt_iff_lt, ge_iff_le, mtx, g1, g2, k1, k2, h1', decide_false, YtimdnnlfkkkpbaaDoor.D44, ty3, ty4, ty22, ty23]
    exact retB_plain (by simp [nmd_bool]) (by simp [packA, h1]) (by simp)
def alikeL (a b : List (List Int)) : Prop := MayR a ∧ MayR b ∧ a.length = b.length ∧ colsL a = colsL b
def fitL (a b : List (List Int)) : Prop := MayR a ∧ MayR b ∧ colsL a = b.length
def appP (a : List (List Int)) (v : List Int) : Prop := MayR a ∧ v.length = colsL a
theorem rows_in {l : List (List Int)} (h : ∀ r ∈ l, ∀ x ∈ r, inI x) (i j : Nat) : inI (rowsF l i j) := by
  unfold rowsF
  rcases Nat.lt_or_ge i l.length with hi | hi
  · rw [getD_lst hi]; exact inI_getD (h _ (List.getElem_mem hi)) j
  · rw [show l.getD i [] = [] by rw [List.getD_eq_getElem?_getD, List.getElem?_eq_none hi]; rfl]; simp [inI]
section
variable {a b : List (List Int)} {rx cx ry cy : Int} {Lx Ly : List Int} (hx : MatX a rx cx Lx) (hy : MatX b ry cy Ly) (ha : ∀ r ∈ a, ∀ x ∈ r, inI x) (hb : ∀ r ∈ b, ∀ x ∈ r, inI x)
include hx hy ha hb
/-- What comes of it, in numbers; or the error. -/
theorem matAdd_any : ∃ r c L o e, okE e ∧ L.length = 36 ∧ (∀ S, Call theE 40 [matA rx cx Lx, matA ry cy Ly] S (.tup [matA r c L, .bool o, e]) S) ∧
    (alikeL a b → r = a.length ∧ c = colsL a ∧ L = gridP (colsL a) (fun i j => bndI (rowsF a i j + (rowsF b i j))) (a.length * colsL a) ∧ o = anyP (colsL a) (fun i j => ovrB (rowsF a i j + (rowsF b i j))) (a.length * colsL a) ∧ e = .nili) ∧
    (¬ alikeL a b → r = 0 ∧ c = 0 ∧ L = List.replicate 36 0 ∧ o = false ∧ e = errA 1) := by
  by_cases h : alikeL a b
  · refine ⟨_, _, _, _, _, okE_nili, gridP_len _ _ _, ?_, fun _ => ⟨rfl, rfl, rfl, rfl, rfl⟩, fun h2 => absurd h h2⟩
    obtain ⟨h1, h2, h3, h4⟩ := h
    obtain ⟨rfl, rfl, rfl⟩ := hx.yes h1
    obtain ⟨rfl, rfl, rfl⟩ := hy.yes h2
    intro S
    rw [← h3, ← h4]
    exact matAdd_ok a.length (colsL a) (rowsF a) (rowsF b) S h1.1 h1.2.1 (fun i j _ _ => rows_in ha i j) (fun i j _ _ => rows_in hb i j)
  · refine ⟨_, _, _, _, _, okE_err 1, rfl, ?_, fun h2 => absurd h2 h, fun _ => ⟨rfl, rfl, rfl, rfl, rfl⟩⟩
    intro S
    refine matAdd_bad _ _ rx cx ry cy Lx Ly S rfl rfl hx.len hy.len fun S => ?_
    by_cases h1 : MayR a
    · obtain ⟨rfl, rfl, rfl⟩ := hx.yes h1
      by_cases h2 : MayR b
      · obtain ⟨rfl, rfl, rfl⟩ := hy.yes h2
        exact alike_bad3 _ _ _ _ _ _ S h1.1 h1.2.1 h2.1 h2.2.1 fun h3 => h ⟨h1, h2, h3.1, h3.2⟩
      · obtain ⟨rfl, rfl, rfl⟩ := hy.no h2
        exact alike_bad2 _ _ _ S rfl zeroM_bad _ _ _ h1.1 h1.2.1
    · obtain ⟨rfl, rfl, rfl⟩ := hx.no h1
      exact alike_bad1 _ _ _ S rfl zeroM_bad _ _ _ hy.len
theorem matSub_any : ∃ r c L o e, okE e ∧ L.length = 36 ∧ (∀ S, Call theE 41 [matA rx cx Lx, matA ry cy Ly] S (.tup [matA r c L, .bool o, e]) S) ∧
    (alikeL a b → r = a.length ∧ c = colsL a ∧ L = gridP (colsL a) (fun i j => bndI (rowsF a i j + -(rowsF b i j))) (a.length * colsL a) ∧ o = anyP (colsL a) (fun i j => ovrB (rowsF a i j + -(rowsF b i j))) (a.length * colsL a) ∧ e = .nili) ∧
    (¬ alikeL a b → r = 0 ∧ c = 0 ∧ L = List.replicate 36 0 ∧ o = false ∧ e = errA 1) := by
  by_cases h : alikeL a b
  · refine ⟨_, _, _, _, _, okE_nili, gridP_len _ _ _, ?_, fun _ => ⟨rfl, rfl, rfl, rfl, rfl⟩, fun h2 => absurd h h2⟩
    obtain ⟨h1, h2, h3, h4⟩ := h
    obtain ⟨rfl, rfl, rfl⟩ := hx.yes h1
    obtain ⟨rfl, rfl, rfl⟩ := hy.yes h2
    intro S
    rw [← h3, ← h4]
    exact matSub_ok a.length (colsL a) (rowsF a) (rowsF b) S h1.1 h1.2.1 (fun i j _ _ => rows_in ha i j) (fun i j _ _ => rows_in hb i j)
  · refine ⟨_, _, _, _, _, okE_err 1, rfl, ?_, fun h2 => absurd h2 h, fun _ => ⟨rfl, rfl, rfl, rfl, rfl⟩⟩
    intro S
    refine matSub_bad _ _ rx cx ry cy Lx Ly S rfl rfl hx.len hy.len fun S => ?_
    by_cases h1 : MayR a
    · obtain ⟨rfl, rfl, rfl⟩ := hx.yes h1
      by_cases h2 : MayR b
      · obtain ⟨rfl, rfl, rfl⟩ := hy.yes h2
        exact alike_bad3 _ _ _ _ _ _ S h1.1 h1.2.1 h2.1 h2.2.1 fun h3 => h ⟨h1, h2, h3.1, h3.2⟩
      · obtain ⟨rfl, rfl, rfl⟩ := hy.no h2
        exact alike_bad2 _ _ _ S rfl zeroM_bad _ _ _ h1.1 h1.2.1
    · obtain ⟨rfl, rfl, rfl⟩ := hx.no h1
      exact alike_bad1 _ _ _ S rfl zeroM_bad _ _ _ hy.len
theorem matMul_any : ∃ r c L o e, okE e ∧ L.length = 36 ∧ (∀ S, Call theE 42 [matA rx cx Lx, matA ry cy Ly] S (.tup [matA r c L, .bool o, e]) S) ∧
    (fitL a b → r = a.length ∧ c = colsL b ∧ L = gridP (colsL b) (fun i j => bndI (mulF (rowsF a) (rowsF b) (colsL a) i j)) (a.length * colsL b) ∧ o = anyP (colsL b) (fun i j => ovrB (mulF (rowsF a) (rowsF b) (colsL a) i j)) (a.length * colsL b) ∧ e = .nili) ∧
    (¬ fitL a b → r = 0 ∧ c = 0 ∧ L = List.replicate 36 0 ∧ o = false ∧ e = errA 1) := by
  by_cases h : fitL a b
  · refine ⟨_, _, _, _, _, okE_nili, gridP_len _ _ _, ?_, fun _ => ⟨rfl, rfl, rfl, rfl, rfl⟩, fun h2 => absurd h h2⟩
    obtain ⟨h1, h2, h3⟩ := h
    obtain ⟨rfl, rfl, rfl⟩ := hx.yes h1
    obtain ⟨rfl, rfl, rfl⟩ := hy.yes h2
    intro S
    rw [← h3]
    exact mul_mat_ok a.length (colsL a) (colsL b) (rowsF a) (rowsF b) S h1.1 h1.2.1 h2.2.1 (fun i j _ _ => rows_in ha i j) (fun i j _ _ => rows_in hb i j)
  · refine ⟨_, _, _, _, _, okE_err 1, rfl, ?_, fun h2 => absurd h2 h, fun _ => ⟨rfl, rfl, rfl, rfl, rfl⟩⟩
    intro S
    by_cases h1 : MayR a
    · obtain ⟨rfl, rfl, rfl⟩ := hx.yes h1
      by_cases h2 : MayR b
      · obtain ⟨rfl, rfl, rfl⟩ := hy.yes h2
        exact mul_bad3 _ _ _ _ _ _ S h1.1 h1.2.1 h2.1 h2.2.1 fun h3 => h ⟨h1, h2, h3⟩
      · obtain ⟨rfl, rfl, rfl⟩ := hy.no h2
        exact mul_bad2 _ _ _ S rfl zeroM_bad _ _ _ h1.1 h1.2.1
    · obtain ⟨rfl, rfl, rfl⟩ := hx.no h1
      exact mul_bad1 _ _ _ S rfl zeroM_bad _ _ _ hy.len
end
theorem apply_any {a : List (List Int)} {rx cx : Int} {Lx : List Int} (hx : MatX a rx cx Lx) (ha : ∀ r ∈ a, ∀ x ∈ r, inI x) (v : List Int) (hv : ∀ x ∈ v, inI x) :
    ∃ w o e, okE e ∧ (∀ k H, moveA false k H w = some (w, H)) ∧ (∀ S, Call theE 43 [matA rx cx Lx, lstI v] S (.tup [w, .bool o, e]) S) ∧
    (appP a v → w = lstI (appL (rowsF a) (colsL a) v a.length) ∧ o = appO (rowsF a) (colsL a) v a.length ∧ e = .nili) ∧
    (¬ appP a v → w = .nils ∧ o = false ∧ e = errA 1) := by
  by_cases h : appP a v
  · refine ⟨_, _, _, okE_nili, fun _ _ => rfl, ?_, fun _ => ⟨rfl, rfl, rfl⟩, fun h2 => absurd h h2⟩
    obtain ⟨h1, h2⟩ := h
    obtain ⟨rfl, rfl, rfl⟩ := hx.yes h1
    intro S
    exact apply_ok a.length (colsL a) (rowsF a) v S h1.1 h1.2.1 h2 (fun i j _ _ => rows_in ha i j) hv
  · by_cases h1 : MayR a
    · refine ⟨.nils, _, _, okE_err 1, fun _ _ => rfl, ?_, fun h2 => absurd h2 h, fun _ => ⟨rfl, rfl, rfl⟩⟩
      · obtain ⟨rfl, rfl, rfl⟩ := hx.yes h1
        intro S
        exact apply_bad3 _ _ _ v S h1.1 h1.2.1 fun h2 => h ⟨h1, h2⟩
    · refine ⟨.nils, _, _, okE_err 1, fun _ _ => rfl, ?_, fun h2 => absurd h2 h, fun _ => ⟨rfl, rfl, rfl⟩⟩
      · obtain ⟨rfl, rfl, rfl⟩ := hx.no h1
        intro S
        exact apply_bad _ _ _ S rfl zeroM_bad _
theorem outer_any (v : List Int) (hv : ∀ x ∈ v, inI x) : ∃ r c L o e, okE e ∧ L.length = 36 ∧ (∀ S, Call theE 48 [lstI v, lstI v] S (.tup [matA r c L, .bool o, e]) S) ∧
    (1 ≤ v.length ∧ v.length ≤ 6 → r = v.length ∧ c = v.length ∧ L = gridP v.length (fun i j => bndI (outF v v i j)) (v.length * v.length) ∧ o = anyP v.length (fun i j => ovrB (outF v v i j)) (v.length * v.length) ∧ e = .nili) ∧
    (¬ (1 ≤ v.length ∧ v.length ≤ 6) → r = 0 ∧ c = 0 ∧ L = List.replicate 36 0 ∧ o = false ∧ e = errA 1) := by
  by_cases h : 1 ≤ v.length ∧ v.length ≤ 6
  · exact ⟨_, _, _, _, _, okE_nili, gridP_len _ _ _, fun S => outer_ok v v S h h hv hv, fun _ => ⟨rfl, rfl, rfl, rfl, rfl⟩, fun h2 => absurd h h2⟩
  · exact ⟨_, _, _, _, _, okE_err 1, rfl, fun S => outer_bad v v S (fun h2 => h h2.1), fun h2 => absurd h2 h, fun _ => ⟨rfl, rfl, rfl, rfl, rfl⟩⟩
theorem all38z : allInts (List.replicate 38 (.int .i64 0)) (List.replicate 38 (.int .i64 0)) = some true := rfl
end Go.Proofs.YtimdnnlfkkkpbaaDoor
