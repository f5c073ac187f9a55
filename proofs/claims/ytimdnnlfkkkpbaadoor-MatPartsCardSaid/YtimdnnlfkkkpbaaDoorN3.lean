/- The document's answer (chapter 8): sums, products, middles. -/
import Derived.Test.YtimdnnlfkkkpbaaDoorN2
set_option linter.unusedSimpArgs false
set_option linter.unusedVariables false
set_option maxRecDepth 100000
set_option maxHeartbeats 4000000
namespace Go.Proofs.YtimdnnlfkkkpbaaDoor
theorem preL_congr {f g : Nat → Int} {n : Nat} (h : ∀ j, j < n → f j = g j) : preL f n = preL g n := List.map_congr_left fun j hj => h j (List.mem_range.1 hj)
theorem preO_congr {f g : Nat → Bool} {n : Nat} (h : ∀ j, j < n → f j = g j) : preO f n = preO g n := by
  induction n with
  | zero => rfl
  | succ n ih => rw [preO_succ, preO_succ, ih fun j hj => h j (by omega), h n (by omega)]
theorem rowsA_congr {r c : Nat} {f g : Nat → Nat → Int} (h : ∀ i j, i < r → j < c → f i j = g i j) : rowsA r c f = rowsA r c g :=
  List.map_congr_left fun i hi => by rw [rowF_pre, rowF_pre, preL_congr fun j hj => h i j (List.mem_range.1 hi) hj]
theorem rowF_getD {f : Nat → Nat → Int} {c i j : Nat} (h : j < c) : (rowF f c i).getD j 0 = f i j := by
  rw [List.getD_eq_getElem?_getD]; simp [rowF, h]
theorem dotZ_comm (l r : List Int) : dotZ l r = dotZ r l := by
  induction l generalizing r with
  | nil => cases r <;> rfl
  | cons x l ih =>
    cases r with
    | nil => rfl
    | cons y r => simp only [dotZ]; rw [ih r, Int.mul_comm]
noncomputable def c45 : Code := Tryd.f45.body.getD .skip
theorem b45 : Tryd.f45.body = some c45 := rfl
theorem d45 : fnOk Tryd.f45 c45 = true := by kernel_rfl
def D45 : Nat → List Tag
  | 6 => [.pure, .pure, .pure, .quiet, .pure, .pure, .pure, .quiet, .pure, .seq, .pure, .pure, .pure, .pure, .pure]
  | _ => []
theorem e45 : drawsOk D45 c45 = true := by kernel_rfl
noncomputable def c47 : Code := Tryd.f47.body.getD .skip
theorem b47 : Tryd.f47.body = some c47 := rfl
theorem d47 : fnOk Tryd.f47 c47 = true := by kernel_rfl
def D47 : Nat → List Tag := fun _ => []
theorem e47 : drawsOk D47 c47 = true := by kernel_rfl
noncomputable def c46 : Code := Tryd.f46.body.getD .skip
theorem b46 : Tryd.f46.body = some c46 := rfl
theorem d46 : fnOk Tryd.f46 c46 = true := by kernel_rfl
def D46 : Nat → List Tag := fun _ => []
theorem e46 : drawsOk D46 c46 = true := by kernel_rfl
noncomputable def c49 : Code := Tryd.f49.body.getD .skip
theorem b49 : Tryd.f49.body = some c49 := rfl
theorem d49 : fnOk Tryd.f49 c49 = true := by kernel_rfl
def D49 : Nat → List Tag
  | 10 => [.pure, .pure, .pure, .pure, .quiet, .pure, .pure, .pure, .pure, .quiet, .seq, .pure, .pure, .pure, .pure, .pure]
  | _ => []
theorem e49 : drawsOk D49 c49 = true := by kernel_rfl
noncomputable def c38 : Code := Tryd.f38.body.getD .skip
theorem b38 : Tryd.f38.body = some c38 := rfl
theorem d38 : fnOk Tryd.f38 c38 = true := by kernel_rfl
def D38 : Nat → List Tag
  | 10 => [.pure, .pure, .pure, .quiet, .pure, .pure, .quiet, .pure, .pure, .pure, .quiet, .pure, .pure, .quiet, .pure, .pure, .seq, .pure, .pure, .pure, .pure, .pure]
  | _ => []
theorem e38 : drawsOk D38 c38 = true := by kernel_rfl
/-- A loop that lays rows. -/
theorem refAdd8_ok (r c : Nat) (f g : Nat → Nat → Int) (less : Bool) (S : Heap) (hr : r ≤ 1000) (hc : c ≤ 100) (hf : ∀ i j, i < r → j < c → inI (f i j)) (hg : ∀ i j, i < r → j < c → inI (g i j)) :
    Call theE 45 [mtx r c f, mtx r c g, .bool less] S (.tup [mtx r c (fun i j => bndI (f i j + sgn less (g i j))), .bool (anyP c (fun i j => ovrB (f i j + sgn less (g i j))) (r * c))]) S := by
  have hd : ∀ i S, i < r → Call theE 22 [.lst ((rowF f c i).map fun x => .int .i64 x) c, .lst ((rowF g c i).map fun x => .int .i64 x) c, .bool less] S (.tup [.lst ((rowF (fun i j => bndI (f i j + sgn less (g i j))) c i).map fun x => .int .i64 x) c, .bool (preO ((fun i j => ovrB (f i j + sgn less (g i j))) i) c)]) S := fun i S hi => by
    have h := refAdd_ok (rowF f c i) (rowF g c i) less S (by rw [rowF_len]; exact hc) (by rw [rowF_len, rowF_len]) (rowF_in fun j hj => hf i j hi hj) (rowF_in fun j hj => hg i j hi hj)
    simp only [rowF_len, lstI, preL_len] at h
    rw [preL_congr (g := fun j => bndI (f i j + sgn less (g i j))) (fun j hj => by rw [rowF_getD hj, rowF_getD hj]), preO_congr (g := fun j => ovrB (f i j + sgn less (g i j))) (fun j hj => by rw [rowF_getD hj, rowF_getD hj])] at h
    exact h
  generalize (fun i j => bndI (f i j + sgn less (g i j))) = F at *
  generalize (fun i j => ovrB (f i j + sgn less (g i j))) = G at *
  refine Call.ofC Tryd.func45 YtimdnnlfkkkpbaaDoor.b45 YtimdnnlfkkkpbaaDoor.d45 YtimdnnlfkkkpbaaDoor.e45 (by simp [Tryd.f45]) ?_
  dsimp only [YtimdnnlfkkkpbaaDoor.c45, Tryd.f45, Option.getD_some]
  simp (maxSteps := 2000000) only [wk0, wk1, wk2, wk3, keepA, keepT, Fr.keep, frzT, flatT, arrayAtA, ownT, extT, Fr.ev, Fr.put, Fr.get, initFr, buildSliceA, zeros, pkB, pkT, pkF, ownDst, Env.kd, ofConst, isConst, binA, intI, cmpI, shiftI, convertA, buildA, fillA, fillS, splice, AV.cells?, storeA, readAt, fieldAddrA, fieldA, indexA, extractA, unA, builtinA, appendA, lenA, sliceCells, isSliceK, makeInterfaceA, nilCheckA, eqA, AV.one, AV.plain, if_false, if_true, Nat.reduceEqDiff, reduceIte, Nat.reduceAdd, List.replicate, Nat.reduceLeDiff, Nat.reduceMul, Nat.reduceSub, Nat.reducePow, Int.reduceLT, Int.reduceLE, Int.reduceToNat, Int.reducePow, IntKind.bits, Int.reduceEq, Int.reduceMul, Int.reduceNeg, ne_eq, reduceCtorEq, escT, BEq.rfl, beq_self_eq_true, Int.reduceAdd, Int.reduceSub, Int.reduceMod, Int.reduceDiv, Nat.reduceMod, Nat.reduceDiv, Nat.reduceLT, cond_true, cond_false, gt_iff_lt, ge_iff_le, mtx, YtimdnnlfkkkpbaaDoor.D45, ty1, ty3, ty4, ty22, ty23]
  refine loopC_ind (fun m fr H => ∃ (i cap : Nat), i + m = r ∧ (fr.get 0 = .lst (rowsA r c f) r ∧ fr.get 1 = .lst (rowsA r c g) r ∧ fr.get 2 = .bool less) ∧ fr.get 8 = .sl S.length i 0 i cap 1 ∧ fr.get 9 = .bool (anyP c G (i * c)) ∧ fr.get 10 = .int .i64 (i : Int) ∧
    H = S ++ [some ⟨rowsA i c F, i⟩]) ?_ (n := r) ⟨0, 0, by omega, by simp [Fr.get], rfl, by simp [Fr.get, anyP], rfl, rfl⟩
  rintro m fr H ⟨i, cap, him, ga, g3, g4, g5, rfl⟩ ih
  by_cases hi : (i : Int) < r
  · have hin : i < r := by omega
    have k2 : (0 : Int) ≤ i := by omega
    have cs := rowsA_app i c F
    have cl := rowsA_len i c F
    have a1 : (i + 1) * 24 ≤ maxBytes := by unfold maxBytes; omega
    have a2 : i + 1 ≤ 9223372036854775807 := by omega
    have wi : IntKind.i64.wrap ((i : Int) + 1) = ((i + 1 : Nat) : Int) := wrapI (by omega)
    have an := anyP_row c G i
    have fx := And.intro (rowsA_get (c := c) (f := f) hin) (rowsA_get (c := c) (f := g) hin)
    simp (maxSteps := 2000000) only [wk0, wk1, wk2, wk3, keepA, keepT, Fr.keep, frzT, flatT, arrayAtA, ownT, extT, Fr.ev, Fr.put, Fr.get, initFr, buildSliceA, zeros, pkB, pkT, pkF, ownDst, Env.kd, ofConst, isConst, binA, intI, cmpI, shiftI, convertA, buildA, fillA, fillS, splice, AV.cells?, storeA, readAt, fieldAddrA, fieldA, indexA, extractA, unA, builtinA, appendA, lenA, sliceCells, isSliceK, makeInterfaceA, nilCheckA, eqA, AV.one, AV.plain, if_false, if_true, Nat.reduceEqDiff, reduceIte, Nat.reduceAdd, List.replicate, Nat.reduceLeDiff, Nat.reduceMul, Nat.reduceSub, Nat.reducePow, Int.reduceLT, Int.reduceLE, Int.reduceToNat, Int.reducePow, IntKind.bits, Int.reduceEq, Int.reduceMul, Int.reduceNeg, ne_eq, reduceCtorEq, escT, BEq.rfl, beq_self_eq_true, Int.reduceAdd, Int.reduceSub, Int.reduceMod, Int.reduceDiv, Nat.reduceMod, Nat.reduceDiv, Nat.reduceLT, cond_true, cond_false, gt_iff_lt, ge_iff_le, gor, ga, g3, g4, g5, hi, k2, cs, cl, a1, a2, wi, fx, List.length_map, Int.toNat_natCast, Nat.mul_one, YtimdnnlfkkkpbaaDoor.D45, ty1, ty3, ty4, ty22, ty23]
    refine callThen_of (hd i _ hin) ?_
    simp (maxSteps := 2000000) only [wk0, wk1, wk2, wk3, keepA, keepT, Fr.keep, frzT, flatT, arrayAtA, ownT, extT, Fr.ev, Fr.put, Fr.get, initFr, buildSliceA, zeros, pkB, pkT, pkF, ownDst, Env.kd, ofConst, isConst, binA, intI, cmpI, shiftI, convertA, buildA, fillA, fillS, splice, AV.cells?, storeA, readAt, fieldAddrA, fieldA, indexA, extractA, unA, builtinA, appendA, lenA, sliceCells, isSliceK, makeInterfaceA, nilCheckA, eqA, AV.one, AV.plain, if_false, if_true, Nat.reduceEqDiff, reduceIte, Nat.reduceAdd, List.replicate, Nat.reduceLeDiff, Nat.reduceMul, Nat.reduceSub, Nat.reducePow, Int.reduceLT, Int.reduceLE, Int.reduceToNat, Int.reducePow, IntKind.bits, Int.reduceEq, Int.reduceMul, Int.reduceNeg, ne_eq, reduceCtorEq, escT, BEq.rfl, beq_self_eq_true, Int.reduceAdd, Int.reduceSub, Int.reduceMod, Int.reduceDiv, Nat.reduceMod, Nat.reduceDiv, Nat.reduceLT, cond_true, cond_false, gt_iff_lt, ge_iff_le, gor, ga, g3, g4, g5, hi, k2, cs, cl, a1, a2, wi, fx, List.length_map, Int.toNat_natCast, Nat.mul_one, YtimdnnlfkkkpbaaDoor.D45, ty1, ty3, ty4, ty22, ty23]
    exact ih (m - 1) _ _ (by omega) ⟨i + 1, i + 1, by omega, by simpa [Fr.get] using ga, by simp [Fr.get], by simp [Fr.get, an], by simp [Fr.get], rfl⟩
  · obtain rfl : i = r := by omega
    simp (maxSteps := 2000000) only [wk0, wk1, wk2, wk3, keepA, keepT, Fr.keep, frzT, flatT, arrayAtA, ownT, extT, Fr.ev, Fr.put, Fr.get, initFr, buildSliceA, zeros, pkB, pkT, pkF, ownDst, Env.kd, ofConst, isConst, binA, intI, cmpI, shiftI, convertA, buildA, fillA, fillS, splice, AV.cells?, storeA, readAt, fieldAddrA, fieldA, indexA, extractA, unA, builtinA, appendA, lenA, sliceCells, isSliceK, makeInterfaceA, nilCheckA, eqA, AV.one, AV.plain, if_false, if_true, Nat.reduceEqDiff, reduceIte, Nat.reduceAdd, List.replicate, Nat.reduceLeDiff, Nat.reduceMul, Nat.reduceSub, Nat.reducePow, Int.reduceLT, Int.reduceLE, Int.reduceToNat, Int.reducePow, IntKind.bits, Int.reduceEq, Int.reduceMul, Int.reduceNeg, ne_eq, reduceCtorEq, escT, BEq.rfl, beq_self_eq_true, Int.reduceAdd, Int.reduceSub, Int.reduceMod, Int.reduceDiv, Nat.reduceMod, Nat.reduceDiv, Nat.reduceLT, cond_true, cond_false, gt_iff_lt, ge_iff_le, ga, g3, g4, g5, hi, YtimdnnlfkkkpbaaDoor.D45, ty1, ty3, ty4, ty22, ty23]
    exact retB_two (fin_rows (Nat.le_refl _) (by rw [blkAt_app0, blkAt_zero])) (.same _ (.bool _)) (by simp)
theorem refApply8_ok (r c : Nat) (f : Nat → Nat → Int) (v : List Int) (S : Heap) (hr : r ≤ 1000) (hc : c ≤ 64) (hv : v.length = c) (hf : ∀ i j, i < r → j < c → inI (f i j)) (hv' : ∀ x ∈ v, inI x) :
    Call theE 47 [mtx r c f, lstI v] S (.tup [lstI (appL f c v r), .bool (appO f c v r)]) S := by
  have hd : ∀ i S, i < r → Call theE 54 [.lst ((rowF f c i).map fun x => .int .i64 x) c, .lst (v.map fun x => .int .i64 x) v.length, .int .i64 20] S (.tup [.int .i64 ((fun i => bndI (appF f c v i)) i), .bool ((fun i => ovrB (appF f c v i)) i)]) S := fun i S hi => by
    have h := refDot_ok _ _ (rowF f c i) v 20 S (SlI.lst _) (SlI.lst _) (by decide) (by rw [rowF_len, hv]) (by rw [rowF_len]; exact hc) (rowF_in fun j hj => hf i j hi hj) hv'
    simp only [rowF_len] at h
    exact h
  have hF : appL f c v r = preL (fun i => bndI (appF f c v i)) r := rfl
  have hG : appO f c v r = preO (fun i => ovrB (appF f c v i)) r := rfl
  rw [hF, hG]
  generalize (fun i => bndI (appF f c v i)) = F at *
  generalize (fun i => ovrB (appF f c v i)) = G at *
  clear hF hG
  refine Call.ofC Tryd.func47 YtimdnnlfkkkpbaaDoor.b47 YtimdnnlfkkkpbaaDoor.d47 YtimdnnlfkkkpbaaDoor.e47 (by simp [Tryd.f47]) ?_
  dsimp only [YtimdnnlfkkkpbaaDoor.c47, Tryd.f47, Option.getD_some]
  simp (maxSteps := 2000000) only [wk0, wk1, wk2, wk3, keepA, keepT, Fr.keep, frzT, flatT, arrayAtA, ownT, extT, Fr.ev, Fr.put, Fr.get, initFr, buildSliceA, zeros, pkB, pkT, pkF, ownDst, Env.kd, ofConst, isConst, binA, intI, cmpI, shiftI, convertA, buildA, fillA, fillS, splice, AV.cells?, storeA, readAt, fieldAddrA, fieldA, indexA, extractA, unA, builtinA, appendA, lenA, sliceCells, isSliceK, makeInterfaceA, nilCheckA, eqA, AV.one, AV.plain, if_false, if_true, Nat.reduceEqDiff, reduceIte, Nat.reduceAdd, List.replicate, Nat.reduceLeDiff, Nat.reduceMul, Nat.reduceSub, Nat.reducePow, Int.reduceLT, Int.reduceLE, Int.reduceToNat, Int.reducePow, IntKind.bits, Int.reduceEq, Int.reduceMul, Int.reduceNeg, ne_eq, reduceCtorEq, escT, BEq.rfl, beq_self_eq_true, Int.reduceAdd, Int.reduceSub, Int.reduceMod, Int.reduceDiv, Nat.reduceMod, Nat.reduceDiv, Nat.reduceLT, cond_true, cond_false, gt_iff_lt, ge_iff_le, mtx, lstI, YtimdnnlfkkkpbaaDoor.D47, ty1, ty2, ty3, ty4, ty22, ty23]
  refine loopC_ind (fun m fr H => ∃ (i cap : Nat), i + m = r ∧ fr.get 0 = .lst (rowsA r c f) r ∧ fr.get 1 = .lst (v.map fun x => .int .i64 x) v.length ∧ fr.get 6 = .sl S.length i 0 i cap 1 ∧ fr.get 7 = .bool (preO G i) ∧ fr.get 8 = .int .i64 (i : Int) ∧
    H = S ++ [some ⟨(preL F i).map fun x => .int .i64 x, i⟩]) ?_ (n := r) ⟨0, 0, by omega, rfl, rfl, rfl, rfl, rfl, rfl⟩
  rintro m fr H ⟨i, cap, him, g0, g1, g6, g7, g8, rfl⟩ ih
  have cl := preL_len F i
  by_cases hi : (i : Int) < r
  · have hin : i < r := by omega
    have k2 : (0 : Int) ≤ i := by omega
    have cs := preL_app F i
    have a1 : (i + 1) * 8 ≤ maxBytes := by unfold maxBytes; omega
    have a2 : i + 1 ≤ 9223372036854775807 := by omega
    have wi : IntKind.i64.wrap ((i : Int) + 1) = ((i + 1 : Nat) : Int) := wrapI (by omega)
    have an := preO_succ G i
    have gl := rowsA_get (c := c) (f := f) hin
    simp (maxSteps := 2000000) only [wk0, wk1, wk2, wk3, keepA, keepT, Fr.keep, frzT, flatT, arrayAtA, ownT, extT, Fr.ev, Fr.put, Fr.get, initFr, buildSliceA, zeros, pkB, pkT, pkF, ownDst, Env.kd, ofConst, isConst, binA, intI, cmpI, shiftI, convertA, buildA, fillA, fillS, splice, AV.cells?, storeA, readAt, fieldAddrA, fieldA, indexA, extractA, unA, builtinA, appendA, lenA, sliceCells, isSliceK, makeInterfaceA, nilCheckA, eqA, AV.one, AV.plain, if_false, if_true, Nat.reduceEqDiff, reduceIte, Nat.reduceAdd, List.replicate, Nat.reduceLeDiff, Nat.reduceMul, Nat.reduceSub, Nat.reducePow, Int.reduceLT, Int.reduceLE, Int.reduceToNat, Int.reducePow, IntKind.bits, Int.reduceEq, Int.reduceMul, Int.reduceNeg, ne_eq, reduceCtorEq, escT, BEq.rfl, beq_self_eq_true, Int.reduceAdd, Int.reduceSub, Int.reduceMod, Int.reduceDiv, Nat.reduceMod, Nat.reduceDiv, Nat.reduceLT, cond_true, cond_false, gt_iff_lt, ge_iff_le, gor, g0, g1, g6, g7, g8, hi, k2, cs, cl, a1, a2, wi, gl, List.length_map, Int.toNat_natCast, Nat.mul_one, YtimdnnlfkkkpbaaDoor.D47, ty1, ty2, ty3, ty4, ty22, ty23]
    refine callThen_of (hd i _ hin) ?_
    simp (maxSteps := 2000000) only [wk0, wk1, wk2, wk3, keepA, keepT, Fr.keep, frzT, flatT, arrayAtA, ownT, extT, Fr.ev, Fr.put, Fr.get, initFr, buildSliceA, zeros, pkB, pkT, pkF, ownDst, Env.kd, ofConst, isConst, binA, intI, cmpI, shiftI, convertA, buildA, fillA, fillS, splice, AV.cells?, storeA, readAt, fieldAddrA, fieldA, indexA, extractA, unA, builtinA, appendA, lenA, sliceCells, isSliceK, makeInterfaceA, nilCheckA, eqA, AV.one, AV.plain, if_false, if_true, Nat.reduceEqDiff, reduceIte, Nat.reduceAdd, List.replicate, Nat.reduceLeDiff, Nat.reduceMul, Nat.reduceSub, Nat.reducePow, Int.reduceLT, Int.reduceLE, Int.reduceToNat, Int.reducePow, IntKind.bits, Int.reduceEq, Int.reduceMul, Int.reduceNeg, ne_eq, reduceCtorEq, escT, BEq.rfl, beq_self_eq_true, Int.reduceAdd, Int.reduceSub, Int.reduceMod, Int.reduceDiv, Nat.reduceMod, Nat.reduceDiv, Nat.reduceLT, cond_true, cond_false, gt_iff_lt, ge_iff_le, gor, g0, g1, g6, g7, g8, hi, k2, cs, cl, a1, a2, wi, gl, List.length_map, Int.toNat_natCast, Nat.mul_one, YtimdnnlfkkkpbaaDoor.D47, ty1, ty2, ty3, ty4, ty22, ty23]
    exact ih (m - 1) _ _ (by omega) ⟨i + 1, i + 1, by omega, by simp [Fr.get, g0], by simp [Fr.get, g1], by simp [Fr.get], by simp [Fr.get, an], by simp [Fr.get], rfl⟩
  · obtain rfl : i = r := by omega
    simp (maxSteps := 2000000) only [wk0, wk1, wk2, wk3, keepA, keepT, Fr.keep, frzT, flatT, arrayAtA, ownT, extT, Fr.ev, Fr.put, Fr.get, initFr, buildSliceA, zeros, pkB, pkT, pkF, ownDst, Env.kd, ofConst, isConst, binA, intI, cmpI, shiftI, convertA, buildA, fillA, fillS, splice, AV.cells?, storeA, readAt, fieldAddrA, fieldA, indexA, extractA, unA, builtinA, appendA, lenA, sliceCells, isSliceK, makeInterfaceA, nilCheckA, eqA, AV.one, AV.plain, if_false, if_true, Nat.reduceEqDiff, reduceIte, Nat.reduceAdd, List.replicate, Nat.reduceLeDiff, Nat.reduceMul, Nat.reduceSub, Nat.reducePow, Int.reduceLT, Int.reduceLE, Int.reduceToNat, Int.reducePow, IntKind.bits, Int.reduceEq, Int.reduceMul, Int.reduceNeg, ne_eq, reduceCtorEq, escT, BEq.rfl, beq_self_eq_true, Int.reduceAdd, Int.reduceSub, Int.reduceMod, Int.reduceDiv, Nat.reduceMod, Nat.reduceDiv, Nat.reduceLT, cond_true, cond_false, gt_iff_lt, ge_iff_le, g0, g1, g6, g7, g8, hi, YtimdnnlfkkkpbaaDoor.D47, ty1, ty2, ty3, ty4, ty22, ty23]
    refine retB_two ?_ (.same _ (.bool _)) (by simp)
    have h := fin_sl (base := S.length) (id := S.length) (ver := i) (cap := cap) (u := i) (L := preL F i) (H := S ++ [some ⟨(preL F i).map fun x => .int .i64 x, i⟩]) (Nat.le_refl _) (by rw [blkAt_app0, blkAt_zero])
    rw [cl] at h
    exact h
theorem refMul8_ok (r n c : Nat) (f g : Nat → Nat → Int) (S : Heap) (hr : r ≤ 1000) (hn : 1 ≤ n ∧ n ≤ 64) (hc : c ≤ 64) (hf : ∀ i j, i < r → j < n → inI (f i j)) (hg : ∀ i j, i < n → j < c → inI (g i j)) :
    Call theE 46 [mtx r n f, mtx n c g] S (.tup [mtx r c (fun i j => bndI (mulF f g n i j)), .bool (anyP c (fun i j => ovrB (mulF f g n i j)) (r * c))]) S := by
  have ht := fun S => refTurn8_ok n c g S (by omega) (by omega)
  have hd : ∀ i S, i < r → Call theE 47 [.lst (rowsA c n fun i j => g j i) c, .lst ((rowF f n i).map fun x => .int .i64 x) n] S (.tup [.lst ((rowF (fun i j => bndI (mulF f g n i j)) c i).map fun x => .int .i64 x) c, .bool (preO ((fun i j => ovrB (mulF f g n i j)) i) c)]) S := fun i S hi => by
    have h := refApply8_ok c n (fun i j => g j i) (rowF f n i) S (by omega) (by omega) (rowF_len _ _ _) (fun i j hi hj => hg j i hj hi) (rowF_in fun j hj => hf i j hi hj)
    have e : ∀ j, appF (fun i j => g j i) n (rowF f n i) j = mulF f g n i j := fun j => by unfold appF mulF; rw [dotZ_comm]; rfl
    have e1 : appL (fun i j => g j i) n (rowF f n i) c = rowF (fun i j => bndI (mulF f g n i j)) c i := by
      show List.map (fun k => bndI (appF (fun i j => g j i) n (rowF f n i) k)) (List.range c) = List.map (fun j => bndI (mulF f g n i j)) (List.range c)
      exact List.map_congr_left fun j _ => by rw [e j]
    have e2 : appO (fun i j => g j i) n (rowF f n i) c = preO ((fun i j => ovrB (mulF f g n i j)) i) c := by unfold appO preO; simp only [e]
    rw [e1, e2] at h
    simp only [mtx, lstI, rowF_len] at h
    exact h
  generalize (fun i j => bndI (mulF f g n i j)) = F at *
  generalize (fun i j => ovrB (mulF f g n i j)) = G at *
  simp only [mtx] at ht
  refine Call.ofC Tryd.func46 YtimdnnlfkkkpbaaDoor.b46 YtimdnnlfkkkpbaaDoor.d46 YtimdnnlfkkkpbaaDoor.e46 (by simp [Tryd.f46]) ?_
  dsimp only [YtimdnnlfkkkpbaaDoor.c46, Tryd.f46, Option.getD_some]
  simp (maxSteps := 2000000) only [wk0, wk1, wk2, wk3, keepA, keepT, Fr.keep, frzT, flatT, arrayAtA, ownT, extT, Fr.ev, Fr.put, Fr.get, initFr, buildSliceA, zeros, pkB, pkT, pkF, ownDst, Env.kd, ofConst, isConst, binA, intI, cmpI, shiftI, convertA, buildA, fillA, fillS, splice, AV.cells?, storeA, readAt, fieldAddrA, fieldA, indexA, extractA, unA, builtinA, appendA, lenA, sliceCells, isSliceK, makeInterfaceA, nilCheckA, eqA, AV.one, AV.plain, if_false, if_true, Nat.reduceEqDiff, reduceIte, Nat.reduceAdd, List.replicate, Nat.reduceLeDiff, Nat.reduceMul, Nat.reduceSub, Nat.reducePow, Int.reduceLT, Int.reduceLE, Int.reduceToNat, Int.reducePow, IntKind.bits, Int.reduceEq, Int.reduceMul, Int.reduceNeg, ne_eq, reduceCtorEq, escT, BEq.rfl, beq_self_eq_true, Int.reduceAdd, Int.reduceSub, Int.reduceMod, Int.reduceDiv, Nat.reduceMod, Nat.reduceDiv, Nat.reduceLT, cond_true, cond_false, gt_iff_lt, ge_iff_le, mtx, YtimdnnlfkkkpbaaDoor.D46, ty1, ty3, ty4, ty22, ty23]
  refine callThen_of (ht _) ?_
  simp (maxSteps := 2000000) only [wk0, wk1, wk2, wk3, keepA, keepT, Fr.keep, frzT, flatT, arrayAtA, ownT, extT, Fr.ev, Fr.put, Fr.get, initFr, buildSliceA, zeros, pkB, pkT, pkF, ownDst, Env.kd, ofConst, isConst, binA, intI, cmpI, shiftI, convertA, buildA, fillA, fillS, splice, AV.cells?, storeA, readAt, fieldAddrA, fieldA, indexA, extractA, unA, builtinA, appendA, lenA, sliceCells, isSliceK, makeInterfaceA, nilCheckA, eqA, AV.one, AV.plain, if_false, if_true, Nat.reduceEqDiff, reduceIte, Nat.reduceAdd, List.replicate, Nat.reduceLeDiff, Nat.reduceMul, Nat.reduceSub, Nat.reducePow, Int.reduceLT, Int.reduceLE, Int.reduceToNat, Int.reducePow, IntKind.bits, Int.reduceEq, Int.reduceMul, Int.reduceNeg, ne_eq, reduceCtorEq, escT, BEq.rfl, beq_self_eq_true, Int.reduceAdd, Int.reduceSub, Int.reduceMod, Int.reduceDiv, Nat.reduceMod, Nat.reduceDiv, Nat.reduceLT, cond_true, cond_false, gt_iff_lt, ge_iff_le, mtx, YtimdnnlfkkkpbaaDoor.D46, ty1, ty3, ty4, ty22, ty23]
  refine loopC_ind (fun m fr H => ∃ (i cap : Nat), i + m = r ∧ (fr.get 0 = .lst (rowsA r n f) r ∧ fr.get 6 = .lst (rowsA c n fun i j => g j i) c) ∧ fr.get 7 = .sl S.length i 0 i cap 1 ∧ fr.get 8 = .bool (anyP c G (i * c)) ∧ fr.get 9 = .int .i64 (i : Int) ∧
    H = S ++ [some ⟨rowsA i c F, i⟩]) ?_ (n := r) ⟨0, 0, by omega, by simp [Fr.get], rfl, by simp [Fr.get, anyP], rfl, rfl⟩
  rintro m fr H ⟨i, cap, him, ga, g3, g4, g5, rfl⟩ ih
  by_cases hi : (i : Int) < r
  · have hin : i < r := by omega
    have k2 : (0 : Int) ≤ i := by omega
    have cs := rowsA_app i c F
    have cl := rowsA_len i c F
    have a1 : (i + 1) * 24 ≤ maxBytes := by unfold maxBytes; omega
    have a2 : i + 1 ≤ 9223372036854775807 := by omega
    have wi : IntKind.i64.wrap ((i : Int) + 1) = ((i + 1 : Nat) : Int) := wrapI (by omega)
    have an := anyP_row c G i
    have fx := rowsA_get (c := n) (f := f) hin
    simp (maxSteps := 2000000) only [wk0, wk1, wk2, wk3, keepA, keepT, Fr.keep, frzT, flatT, arrayAtA, ownT, extT, Fr.ev, Fr.put, Fr.get, initFr, buildSliceA, zeros, pkB, pkT, pkF, ownDst, Env.kd, ofConst, isConst, binA, intI, cmpI, shiftI, convertA, buildA, fillA, fillS, splice, AV.cells?, storeA, readAt, fieldAddrA, fieldA, indexA, extractA, unA, builtinA, appendA, lenA, sliceCells, isSliceK, makeInterfaceA, nilCheckA, eqA, AV.one, AV.plain, if_false, if_true, Nat.reduceEqDiff, reduceIte, Nat.reduceAdd, List.replicate, Nat.reduceLeDiff, Nat.reduceMul, Nat.reduceSub, Nat.reducePow, Int.reduceLT, Int.reduceLE, Int.reduceToNat, Int.reducePow, IntKind.bits, Int.reduceEq, Int.reduceMul, Int.reduceNeg, ne_eq, reduceCtorEq, escT, BEq.rfl, beq_self_eq_true, Int.reduceAdd, Int.reduceSub, Int.reduceMod, Int.reduceDiv, Nat.reduceMod, Nat.reduceDiv, Nat.reduceLT, cond_true, cond_false, gt_iff_lt, ge_iff_le, gor, ga, g3, g4, g5, hi, k2, cs, cl, a1, a2, wi, fx, List.length_map, Int.toNat_natCast, Nat.mul_one, YtimdnnlfkkkpbaaDoor.D46, ty1, ty3, ty4, ty22, ty23]
    refine callThen_of (hd i _ hin) ?_
    simp (maxSteps := 2000000) only [wk0, wk1, wk2, wk3, keepA, keepT, Fr.keep, frzT, flatT, arrayAtA, ownT, extT, Fr.ev, Fr.put, Fr.get, initFr, buildSliceA, zeros, pkB, pkT, pkF, ownDst, Env.kd, ofConst, isConst, binA, intI, cmpI, shiftI, convertA, buildA, fillA, fillS, splice, AV.cells?, storeA, readAt, fieldAddrA, fieldA, indexA, extractA, unA, builtinA, appendA, lenA, sliceCells, isSliceK, makeInterfaceA, nilCheckA, eqA, AV.one, AV.plain, if_false, if_true, Nat.reduceEqDiff, reduceIte, Nat.reduceAdd, List.replicate, Nat.reduceLeDiff, Nat.reduceMul, Nat.reduceSub, Nat.reducePow, Int.reduceLT, Int.reduceLE, Int.reduceToNat, Int.reducePow, IntKind.bits, Int.reduceEq, Int.reduceMul, Int.reduceNeg, ne_eq, reduceCtorEq, escT, BEq.rfl, beq_self_eq_true, Int.reduceAdd, Int.reduceSub, Int.reduceMod, Int.reduceDiv, Nat.reduceMod, Nat.reduceDiv, Nat.reduceLT, cond_true, cond_false, gt_iff_lt, ge_iff_le, gor, ga, g3, g4, g5, hi, k2, cs, cl, a1, a2, wi, fx, List.length_map, Int.toNat_natCast, Nat.mul_one, YtimdnnlfkkkpbaaDoor.D46, ty1, ty3, ty4, ty22, ty23]
    exact ih (m - 1) _ _ (by omega) ⟨i + 1, i + 1, by omega, by simpa [Fr.get] using ga, by simp [Fr.get], by simp [Fr.get, an], by simp [Fr.get], rfl⟩
  · obtain rfl : i = r := by omega
    simp (maxSteps := 2000000) only [wk0, wk1, wk2, wk3, keepA, keepT, Fr.keep, frzT, flatT, arrayAtA, ownT, extT, Fr.ev, Fr.put, Fr.get, initFr, buildSliceA, zeros, pkB, pkT, pkF, ownDst, Env.kd, ofConst, isConst, binA, intI, cmpI, shiftI, convertA, buildA, fillA, fillS, splice, AV.cells?, storeA, readAt, fieldAddrA, fieldA, indexA, extractA, unA, builtinA, appendA, lenA, sliceCells, isSliceK, makeInterfaceA, nilCheckA, eqA, AV.one, AV.plain, if_false, if_true, Nat.reduceEqDiff, reduceIte, Nat.reduceAdd, List.replicate, Nat.reduceLeDiff, Nat.reduceMul, Nat.reduceSub, Nat.reducePow, Int.reduceLT, Int.reduceLE, Int.reduceToNat, Int.reducePow, IntKind.bits, Int.reduceEq, Int.reduceMul, Int.reduceNeg, ne_eq, reduceCtorEq, escT, BEq.rfl, beq_self_eq_true, Int.reduceAdd, Int.reduceSub, Int.reduceMod, Int.reduceDiv, Nat.reduceMod, Nat.reduceDiv, Nat.reduceLT, cond_true, cond_false, gt_iff_lt, ge_iff_le, ga, g3, g4, g5, hi, YtimdnnlfkkkpbaaDoor.D46, ty1, ty3, ty4, ty22, ty23]
    exact retB_two (fin_rows (Nat.le_refl _) (by rw [blkAt_app0, blkAt_zero])) (.same _ (.bool _)) (by simp)
/-- Rows of their own, number by number. -/
theorem refOuter8_ok (a b : List Int) (S : Heap) (ha : a.length ≤ 1000) (hb : b.length ≤ 1000) (h1 : ∀ x ∈ a, inI x) (h2 : ∀ x ∈ b, inI x) :
    Call theE 49 [lstI a, lstI b] S (.tup [mtx a.length b.length (fun i j => bndI (outF a b i j)), .bool (anyP b.length (fun i j => ovrB (outF a b i j)) (a.length * b.length))]) S := by
  have hd : ∀ i j S, i < a.length → j < b.length → Call theE 54 [.lst [.int .i64 (a.getD i 0)] 1, .lst [.int .i64 (b.getD j 0)] 1, .int .i64 20] S (.tup [.int .i64 ((fun i j => bndI (outF a b i j)) i j), .bool ((fun i j => ovrB (outF a b i j)) i j)]) S := fun i j S hi hj => by
    have h := refDot_ok _ _ [a.getD i 0] [b.getD j 0] 20 S (SlI.lst _) (SlI.lst _) (by decide) rfl (by simp) (by simpa using inI_getD h1 i) (by simpa using inI_getD h2 j)
    rw [show dotZ [a.getD i 0] [b.getD j 0] = a.getD i 0 * b.getD j 0 by simp [dotZ]] at h
    exact h
  generalize (fun i j => bndI (outF a b i j)) = F at *
  generalize (fun i j => ovrB (outF a b i j)) = G at *
  obtain ⟨r, hr⟩ : ∃ r, a.length = r := ⟨_, rfl⟩
  obtain ⟨c, hc⟩ : ∃ c, b.length = c := ⟨_, rfl⟩
  rw [hr] at ha
  rw [hc] at hb
  simp only [hr, hc] at hd ⊢
  refine Call.ofC Tryd.func49 YtimdnnlfkkkpbaaDoor.b49 YtimdnnlfkkkpbaaDoor.d49 YtimdnnlfkkkpbaaDoor.e49 (by simp [Tryd.f49]) ?_
  dsimp only [YtimdnnlfkkkpbaaDoor.c49, Tryd.f49, Option.getD_some]
  simp (maxSteps := 2000000) only [wk0, wk1, wk2, wk3, keepA, keepT, Fr.keep, frzT, flatT, arrayAtA, ownT, extT, Fr.ev, Fr.put, Fr.get, initFr, buildSliceA, zeros, pkB, pkT, pkF, ownDst, Env.kd, ofConst, isConst, binA, intI, cmpI, shiftI, convertA, buildA, fillA, fillS, splice, AV.cells?, storeA, readAt, fieldAddrA, fieldA, indexA, extractA, unA, builtinA, appendA, lenA, sliceCells, isSliceK, makeInterfaceA, nilCheckA, eqA, AV.one, AV.plain, if_false, if_true, Nat.reduceEqDiff, reduceIte, Nat.reduceAdd, List.replicate, Nat.reduceLeDiff, Nat.reduceMul, Nat.reduceSub, Nat.reducePow, Int.reduceLT, Int.reduceLE, Int.reduceToNat, Int.reducePow, IntKind.bits, Int.reduceEq, Int.reduceMul, Int.reduceNeg, ne_eq, reduceCtorEq, escT, BEq.rfl, beq_self_eq_true, Int.reduceAdd, Int.reduceSub, Int.reduceMod, Int.reduceDiv, Nat.reduceMod, Nat.reduceDiv, Nat.reduceLT, cond_true, cond_false, gt_iff_lt, ge_iff_le, lstI, hr, hc, YtimdnnlfkkkpbaaDoor.D49, ty1, ty2, ty3, ty4, ty22, ty23]
  refine loopC_ind (fun m fr H => ∃ (i cap : Nat) (T : Heap), i + m = r ∧ (fr.get 0 = .lst (a.map fun x => .int .i64 x) r ∧ fr.get 1 = .lst (b.map fun x => .int .i64 x) c) ∧ fr.get 6 = .sl S.length i 0 i cap 1 ∧ fr.get 7 = .bool (anyP c G (i * c)) ∧ fr.get 8 = .int .i64 (i : Int) ∧
    S ++ some ⟨rowsA i c F, i⟩ :: T = H) ?_ (n := r) ⟨0, 0, [], by omega, by simp [Fr.get], rfl, by simp [Fr.get, anyP], rfl, rfl⟩
  rintro m fr P ⟨i, cap, T, him, ga, g3, g4, g5, hP⟩ ih
  have tb := fun L => tail_blk hP L rfl
  have tb0 := tail_blk0 hP rfl
  have ts := fun L b => tail_set hP L b
  have ta := fun a b c d e x H => show mayAppend S.length .append [.sl P.length a b c d e, x] H = True by simp only [mayAppend, eq_iff_iff, iff_true]; left; rw [← hP]; simp
  have lP : S.length ≤ P.length := by rw [← hP]; simp
  by_cases hi : (i : Int) < r
  · have hin : i < r := by omega
    have k2 : (0 : Int) ≤ i := by omega
    have cs := rowsA_app i c F
    have cl := rowsA_len i c F
    have a1 : (i + 1) * 24 ≤ maxBytes := by unfold maxBytes; omega
    have a2 : i + 1 ≤ 9223372036854775807 := by omega
    have wi : IntKind.i64.wrap ((i : Int) + 1) = ((i + 1 : Nat) : Int) := wrapI (by omega)
    simp (maxSteps := 2000000) only [wk0, wk1, wk2, wk3, keepA, keepT, Fr.keep, frzT, flatT, arrayAtA, ownT, extT, Fr.ev, Fr.put, Fr.get, initFr, buildSliceA, zeros, pkB, pkT, pkF, ownDst, Env.kd, ofConst, isConst, binA, intI, cmpI, shiftI, convertA, buildA, fillA, fillS, splice, AV.cells?, storeA, readAt, fieldAddrA, fieldA, indexA, extractA, unA, builtinA, appendA, lenA, sliceCells, isSliceK, makeInterfaceA, nilCheckA, eqA, AV.one, AV.plain, if_false, if_true, Nat.reduceEqDiff, reduceIte, Nat.reduceAdd, List.replicate, Nat.reduceLeDiff, Nat.reduceMul, Nat.reduceSub, Nat.reducePow, Int.reduceLT, Int.reduceLE, Int.reduceToNat, Int.reducePow, IntKind.bits, Int.reduceEq, Int.reduceMul, Int.reduceNeg, ne_eq, reduceCtorEq, escT, BEq.rfl, beq_self_eq_true, Int.reduceAdd, Int.reduceSub, Int.reduceMod, Int.reduceDiv, Nat.reduceMod, Nat.reduceDiv, Nat.reduceLT, cond_true, cond_false, gt_iff_lt, ge_iff_le, ga, g3, g4, g5, hi, k2, YtimdnnlfkkkpbaaDoor.D49, ty1, ty2, ty3, ty4, ty22, ty23]
    refine loopC_ind (fun m' fr H => ∃ (j cap2 : Nat), j + m' = c ∧ (fr.get 0 = .lst (a.map fun x => .int .i64 x) r ∧ fr.get 1 = .lst (b.map fun x => .int .i64 x) c) ∧ fr.get 6 = .sl S.length i 0 i cap 1 ∧ fr.get 7 = .bool (anyP c G (i * c + j)) ∧ fr.get 8 = .int .i64 (i : Int) ∧ fr.get 9 = .sl P.length j 0 j cap2 1 ∧ fr.get 10 = .int .i64 (j : Int) ∧
      H = P ++ [some ⟨(preL (F i) j).map fun x => .int .i64 x, j⟩]) ?_ (n := c) ⟨0, 0, by omega, by simpa [Fr.get] using ga, by simp [Fr.get, g3], by simp [Fr.get, g4], by simp [Fr.get, g5], rfl, rfl, rfl⟩
    clear ga g3 g4 g5
    rintro m' fr H ⟨j, cap2, hjm, ga, g3, g4, g5, g6, g7, rfl⟩ ih2
    have cl2 := preL_len (F i) j
    by_cases hj : (j : Int) < c
    · have hjn : j < c := by omega
      have k1 : (0 : Int) ≤ j := by omega
      have wj : IntKind.i64.wrap ((j : Int) + 1) = ((j + 1 : Nat) : Int) := wrapI (by omega)
      have cs2 := preL_app (F i) j
      have b1 : (j + 1) * 8 ≤ maxBytes := by unfold maxBytes; omega
      have b2 : j + 1 ≤ 9223372036854775807 := by omega
      have an := anyP_succ c G i j hjn
      have pa := part_lst (show i < a.length by omega)
      have pb := part_lst (show j < b.length by omega)
      have k3 : (i : Int) ≤ ((i + 1 : Nat) : Int) := by omega
      have k4 : (j : Int) ≤ ((j + 1 : Nat) : Int) := by omega
      have k5 : ((i + 1 : Nat) : Int) ≤ r := by omega
      have k6 : ((j + 1 : Nat) : Int) ≤ c := by omega
      have k7 : i + 1 ≤ r := by omega
      have k8 : j + 1 ≤ c := by omega
      have k9 : ¬ (i : Int) = ((i + 1 : Nat) : Int) := by omega
      have k10 : ¬ (j : Int) = ((j + 1 : Nat) : Int) := by omega
      have k11 : i + 1 - i = 1 := by omega
      have k12 : j + 1 - j = 1 := by omega
      have fx := And.intro pa <| And.intro pb <| And.intro k3 <| And.intro k4 <| And.intro k5 <| And.intro k6 <| And.intro k7 <| And.intro k8 <| And.intro k9 <| And.intro k10 <| And.intro k11 <| And.intro k12 <| And.intro hr <| And.intro hc <| And.intro @sa_lst <| And.intro @bd_none <| And.intro @bd_some @bv_int
      simp (maxSteps := 2000000) only [wk0, wk1, wk2, wk3, keepA, keepT, Fr.keep, frzT, flatT, arrayAtA, ownT, extT, Fr.ev, Fr.put, Fr.get, initFr, buildSliceA, zeros, pkB, pkT, pkF, ownDst, Env.kd, ofConst, isConst, binA, intI, cmpI, shiftI, convertA, buildA, fillA, fillS, splice, AV.cells?, storeA, readAt, fieldAddrA, fieldA, indexA, extractA, unA, builtinA, appendA, lenA, sliceCells, isSliceK, makeInterfaceA, nilCheckA, eqA, AV.one, AV.plain, if_false, if_true, Nat.reduceEqDiff, reduceIte, Nat.reduceAdd, List.replicate, Nat.reduceLeDiff, Nat.reduceMul, Nat.reduceSub, Nat.reducePow, Int.reduceLT, Int.reduceLE, Int.reduceToNat, Int.reducePow, IntKind.bits, Int.reduceEq, Int.reduceMul, Int.reduceNeg, ne_eq, reduceCtorEq, escT, BEq.rfl, beq_self_eq_true, Int.reduceAdd, Int.reduceSub, Int.reduceMod, Int.reduceDiv, Nat.reduceMod, Nat.reduceDiv, Nat.reduceLT, cond_true, cond_false, gt_iff_lt, ge_iff_le, gor, ga, g3, g4, g5, g6, g7, hi, hj, k1, k2, fx, wi, wj, Int.toNat_natCast, Nat.mul_one, List.length_map, cl2, cs2, b1, b2, ta, YtimdnnlfkkkpbaaDoor.D49, ty1, ty2, ty3, ty4, ty22, ty23]
      refine callThen_of (hd i j _ hin (by omega)) ?_
      simp (maxSteps := 2000000) only [wk0, wk1, wk2, wk3, keepA, keepT, Fr.keep, frzT, flatT, arrayAtA, ownT, extT, Fr.ev, Fr.put, Fr.get, initFr, buildSliceA, zeros, pkB, pkT, pkF, ownDst, Env.kd, ofConst, isConst, binA, intI, cmpI, shiftI, convertA, buildA, fillA, fillS, splice, AV.cells?, storeA, readAt, fieldAddrA, fieldA, indexA, extractA, unA, builtinA, appendA, lenA, sliceCells, isSliceK, makeInterfaceA, nilCheckA, eqA, AV.one, AV.plain, if_false, if_true, Nat.reduceEqDiff, reduceIte, Nat.reduceAdd, List.replicate, Nat.reduceLeDiff, Nat.reduceMul, Nat.reduceSub, Nat.reducePow, Int.reduceLT, Int.reduceLE, Int.reduceToNat, Int.reducePow, IntKind.bits, Int.reduceEq, Int.reduceMul, Int.reduceNeg, ne_eq, reduceCtorEq, escT, BEq.rfl, beq_self_eq_true, Int.reduceAdd, Int.reduceSub, Int.reduceMod, Int.reduceDiv, Nat.reduceMod, Nat.reduceDiv, Nat.reduceLT, cond_true, cond_false, gt_iff_lt, ge_iff_le, gor, ga, g3, g4, g5, g6, g7, hi, hj, k1, k2, fx, wi, wj, Int.toNat_natCast, Nat.mul_one, List.length_map, cl2, cs2, b1, b2, ta, YtimdnnlfkkkpbaaDoor.D49, ty1, ty2, ty3, ty4, ty22, ty23]
      exact ih2 (m' - 1) _ _ (by omega) ⟨j + 1, j + 1, by omega, by simpa [Fr.get] using ga, by simp [Fr.get, g3], by simp [Fr.get, ← Nat.add_assoc, an], by simp [Fr.get, g5], by simp [Fr.get], by simp [Fr.get], rfl⟩
    · obtain rfl : j = c := by omega
      have px := pl_nmd 0 (preL (F i) j)
      have tk : List.take j ((preL (F i) j).map fun x => AV.int .i64 x) = (rowF F j i).map fun x => .int .i64 x := List.take_of_length_le (by simp [cl2])
      have ea : (i + 1) * j = i * j + j := by rw [Nat.add_mul, Nat.one_mul]
      simp (maxSteps := 2000000) only [wk0, wk1, wk2, wk3, keepA, keepT, Fr.keep, frzT, flatT, arrayAtA, ownT, extT, Fr.ev, Fr.put, Fr.get, initFr, buildSliceA, zeros, pkB, pkT, pkF, ownDst, Env.kd, ofConst, isConst, binA, intI, cmpI, shiftI, convertA, buildA, fillA, fillS, splice, AV.cells?, storeA, readAt, fieldAddrA, fieldA, indexA, extractA, unA, builtinA, appendA, lenA, sliceCells, isSliceK, makeInterfaceA, nilCheckA, eqA, AV.one, AV.plain, if_false, if_true, Nat.reduceEqDiff, reduceIte, Nat.reduceAdd, List.replicate, Nat.reduceLeDiff, Nat.reduceMul, Nat.reduceSub, Nat.reducePow, Int.reduceLT, Int.reduceLE, Int.reduceToNat, Int.reducePow, IntKind.bits, Int.reduceEq, Int.reduceMul, Int.reduceNeg, ne_eq, reduceCtorEq, escT, BEq.rfl, beq_self_eq_true, Int.reduceAdd, Int.reduceSub, Int.reduceMod, Int.reduceDiv, Nat.reduceMod, Nat.reduceDiv, Nat.reduceLT, cond_true, cond_false, gt_iff_lt, ge_iff_le, ga, g3, g4, g5, g6, g7, hj, hi, lP, tb, tb0, ts, cl, cs, a1, a2, wi, List.length_map, Nat.mul_one, Nat.zero_add, Nat.le_refl, cl2, tk, eq_true px, YtimdnnlfkkkpbaaDoor.D49, ty1, ty2, ty3, ty4, ty22, ty23]
      exact ih (m - 1) _ _ (by omega) ⟨i + 1, i + 1, _, by omega, by simpa [Fr.get] using ga, by simp [Fr.get], by simp [Fr.get, g4, ea], by simp [Fr.get], tail_step hP⟩
  · obtain rfl : i = r := by omega
    simp (maxSteps := 2000000) only [wk0, wk1, wk2, wk3, keepA, keepT, Fr.keep, frzT, flatT, arrayAtA, ownT, extT, Fr.ev, Fr.put, Fr.get, initFr, buildSliceA, zeros, pkB, pkT, pkF, ownDst, Env.kd, ofConst, isConst, binA, intI, cmpI, shiftI, convertA, buildA, fillA, fillS, splice, AV.cells?, storeA, readAt, fieldAddrA, fieldA, indexA, extractA, unA, builtinA, appendA, lenA, sliceCells, isSliceK, makeInterfaceA, nilCheckA, eqA, AV.one, AV.plain, if_false, if_true, Nat.reduceEqDiff, reduceIte, Nat.reduceAdd, List.replicate, Nat.reduceLeDiff, Nat.reduceMul, Nat.reduceSub, Nat.reducePow, Int.reduceLT, Int.reduceLE, Int.reduceToNat, Int.reducePow, IntKind.bits, Int.reduceEq, Int.reduceMul, Int.reduceNeg, ne_eq, reduceCtorEq, escT, BEq.rfl, beq_self_eq_true, Int.reduceAdd, Int.reduceSub, Int.reduceMod, Int.reduceDiv, Nat.reduceMod, Nat.reduceDiv, Nat.reduceLT, cond_true, cond_false, gt_iff_lt, ge_iff_le, ga, g3, g4, g5, hi, YtimdnnlfkkkpbaaDoor.D49, ty1, ty2, ty3, ty4, ty22, ty23]
    exact retB_two (fin_rows (Nat.le_refl _) tb0) (.same _ (.bool _)) (tail_take hP).symm
theorem rnd_scale {z k p : Int} (hk : 0 < k) (hp : 0 < p) : rnd (k * z) (k * p) = rnd z p := by
  unfold rnd
  have e1 : k * z / (k * p) = z / p := Int.mul_ediv_mul_of_pos _ _ hk
  have e2 : k * z % (k * p) = k * (z % p) := Int.mul_emod_mul_of_pos _ _ hk
  rw [e1, e2]
  have e3 : (k * p < 2 * (k * (z % p))) ↔ (p < 2 * (z % p)) := by
    rw [show 2 * (k * (z % p)) = k * (2 * (z % p)) by rw [Int.mul_left_comm]]
    exact Int.mul_lt_mul_left hk
  have e4 : (k * p = 2 * (k * (z % p))) ↔ (p = 2 * (z % p)) := by
    rw [show 2 * (k * (z % p)) = k * (2 * (z % p)) by rw [Int.mul_left_comm]]
    exact Int.mul_eq_mul_left_iff (by omega)
  simp only [e3, e4]
theorem refEven8_ok (r : Nat) (f : Nat → Nat → Int) (S : Heap) (hr : r ≤ 1000) (hf : ∀ i j, i < r → j < r → inI (f i j)) :
    Call theE 38 [mtx r r f] S (.tup [mtx r r (fun i j => bndI (evenF f i j)), .bool (anyP r (fun i j => ovrB (evenF f i j)) (r * r))]) S := by
  have hd : ∀ i j S, i < r → j < r → Call theE 54 [.lst [.int .i64 (f i j), .int .i64 (f j i)] 2, .lst [.int .i64 1, .int .i64 1] 2, .int .i64 1] S (.tup [.int .i64 ((fun i j => bndI (evenF f i j)) i j), .bool ((fun i j => ovrB (evenF f i j)) i j)]) S := fun i j S hi hj => by
    have h := refDot_ok _ _ [f i j, f j i] [1, 1] 1 S (SlI.lst _) (SlI.lst _) (by decide) rfl (by simp) (by simp; exact ⟨hf _ _ hi hj, hf _ _ hj hi⟩) (by simp [inI])
    have e : rnd (dotZ [f i j, f j i] [1, 1]) (2 ^ 1) = evenF f i j := by
      have h := rnd_scale (z := f i j + f j i) (k := 524288) (p := 2) (by decide) (by decide)
      unfold evenF
      simp only [dotZ]
      rw [show f i j * 524288 + f j i * 524288 = 524288 * (f i j + f j i) by omega, show (2 : Int) ^ 20 = 524288 * 2 by decide, h]
      simp
    rw [e] at h
    exact h
  generalize (fun i j => bndI (evenF f i j)) = F at *
  generalize (fun i j => ovrB (evenF f i j)) = G at *
  obtain ⟨c, hc⟩ : ∃ c, r = c := ⟨_, rfl⟩
  refine Call.ofC Tryd.func38 YtimdnnlfkkkpbaaDoor.b38 YtimdnnlfkkkpbaaDoor.d38 YtimdnnlfkkkpbaaDoor.e38 (by simp [Tryd.f38]) ?_
  dsimp only [YtimdnnlfkkkpbaaDoor.c38, Tryd.f38, Option.getD_some]
  simp (maxSteps := 2000000) only [wk0, wk1, wk2, wk3, keepA, keepT, Fr.keep, frzT, flatT, arrayAtA, ownT, extT, Fr.ev, Fr.put, Fr.get, initFr, buildSliceA, zeros, pkB, pkT, pkF, ownDst, Env.kd, ofConst, isConst, binA, intI, cmpI, shiftI, convertA, buildA, fillA, fillS, splice, AV.cells?, storeA, readAt, fieldAddrA, fieldA, indexA, extractA, unA, builtinA, appendA, lenA, sliceCells, isSliceK, makeInterfaceA, nilCheckA, eqA, AV.one, AV.plain, if_false, if_true, Nat.reduceEqDiff, reduceIte, Nat.reduceAdd, List.replicate, Nat.reduceLeDiff, Nat.reduceMul, Nat.reduceSub, Nat.reducePow, Int.reduceLT, Int.reduceLE, Int.reduceToNat, Int.reducePow, IntKind.bits, Int.reduceEq, Int.reduceMul, Int.reduceNeg, ne_eq, reduceCtorEq, escT, BEq.rfl, beq_self_eq_true, Int.reduceAdd, Int.reduceSub, Int.reduceMod, Int.reduceDiv, Nat.reduceMod, Nat.reduceDiv, Nat.reduceLT, cond_true, cond_false, gt_iff_lt, ge_iff_le, mtx, YtimdnnlfkkkpbaaDoor.D38, ty1, ty2, ty3, ty4, ty22, ty23]
  have hcr := hc
  rw [show anyP r G (r * r) = anyP c G (r * c) by rw [hc], show rowsA r r F = rowsA r c F by rw [hc]]
  refine loopC_ind (fun m fr H => ∃ (i cap : Nat) (T : Heap), i + m = r ∧ fr.get 0 = .lst (rowsA r r f) r ∧ fr.get 4 = .sl S.length i 0 i cap 1 ∧ fr.get 5 = .bool (anyP c G (i * c)) ∧ fr.get 6 = .int .i64 (i : Int) ∧
    S ++ some ⟨rowsA i c F, i⟩ :: T = H) ?_ (n := r) ⟨0, 0, [], by omega, by simp [Fr.get], rfl, by simp [Fr.get, anyP], rfl, rfl⟩
  rintro m fr P ⟨i, cap, T, him, ga, g3, g4, g5, hP⟩ ih
  have tb := fun L => tail_blk hP L rfl
  have tb0 := tail_blk0 hP rfl
  have ts := fun L b => tail_set hP L b
  have ta := fun a b c d e x H => show mayAppend S.length .append [.sl P.length a b c d e, x] H = True by simp only [mayAppend, eq_iff_iff, iff_true]; left; rw [← hP]; simp
  have lP : S.length ≤ P.length := by rw [← hP]; simp
  by_cases hi : (i : Int) < r
  · have hin : i < r := by omega
    have k2 : (0 : Int) ≤ i := by omega
    have cs := rowsA_app i c F
    have cl := rowsA_len i c F
    have a1 : (i + 1) * 24 ≤ maxBytes := by unfold maxBytes; omega
    have a2 : i + 1 ≤ 9223372036854775807 := by omega
    have wi : IntKind.i64.wrap ((i : Int) + 1) = ((i + 1 : Nat) : Int) := wrapI (by omega)
    simp (maxSteps := 2000000) only [wk0, wk1, wk2, wk3, keepA, keepT, Fr.keep, frzT, flatT, arrayAtA, ownT, extT, Fr.ev, Fr.put, Fr.get, initFr, buildSliceA, zeros, pkB, pkT, pkF, ownDst, Env.kd, ofConst, isConst, binA, intI, cmpI, shiftI, convertA, buildA, fillA, fillS, splice, AV.cells?, storeA, readAt, fieldAddrA, fieldA, indexA, extractA, unA, builtinA, appendA, lenA, sliceCells, isSliceK, makeInterfaceA, nilCheckA, eqA, AV.one, AV.plain, if_false, if_true, Nat.reduceEqDiff, reduceIte, Nat.reduceAdd, List.replicate, Nat.reduceLeDiff, Nat.reduceMul, Nat.reduceSub, Nat.reducePow, Int.reduceLT, Int.reduceLE, Int.reduceToNat, Int.reducePow, IntKind.bits, Int.reduceEq, Int.reduceMul, Int.reduceNeg, ne_eq, reduceCtorEq, escT, BEq.rfl, beq_self_eq_true, Int.reduceAdd, Int.reduceSub, Int.reduceMod, Int.reduceDiv, Nat.reduceMod, Nat.reduceDiv, Nat.reduceLT, cond_true, cond_false, gt_iff_lt, ge_iff_le, ga, g3, g4, g5, hi, k2, YtimdnnlfkkkpbaaDoor.D38, ty1, ty2, ty3, ty4, ty22, ty23]
    refine loopC_ind (fun m' fr H => ∃ (j cap2 : Nat), j + m' = c ∧ fr.get 0 = .lst (rowsA r r f) r ∧ fr.get 4 = .sl S.length i 0 i cap 1 ∧ fr.get 5 = .bool (anyP c G (i * c + j)) ∧ fr.get 6 = .int .i64 (i : Int) ∧ fr.get 7 = .sl P.length j 0 j cap2 1 ∧ fr.get 8 = .int .i64 (j : Int) ∧
      H = P ++ [some ⟨(preL (F i) j).map fun x => .int .i64 x, j⟩]) ?_ (n := c) ⟨0, 0, by omega, by simpa [Fr.get] using ga, by simp [Fr.get, g3], by simp [Fr.get, g4], by simp [Fr.get, g5], rfl, rfl, rfl⟩
    clear ga g3 g4 g5
    rintro m' fr H ⟨j, cap2, hjm, ga, g3, g4, g5, g6, g7, rfl⟩ ih2
    have cl2 := preL_len (F i) j
    by_cases hj : (j : Int) < c
    · have hjn : j < c := by omega
      have k1 : (0 : Int) ≤ j := by omega
      have wj : IntKind.i64.wrap ((j : Int) + 1) = ((j + 1 : Nat) : Int) := wrapI (by omega)
      have cs2 := preL_app (F i) j
      have b1 : (j + 1) * 8 ≤ maxBytes := by unfold maxBytes; omega
      have b2 : j + 1 ≤ 9223372036854775807 := by omega
      have an := anyP_succ c G i j hjn
      have k3 : (i : Int) < c := by omega
      have k4 : (j : Int) < r := by omega
      have pa := rowsA_get (c := r) (f := f) hin
      have pb := rowsA_get (c := r) (f := f) (show j < r by omega)
      have pc := rowF_get (f := f) (i := i) (show j < r by omega)
      have pd := rowF_get (f := f) (i := j) hin
      have hjr : (j : Int) < r := by omega
      have fx := And.intro pa <| And.intro pb <| And.intro pc <| And.intro pd <| And.intro hjr k3
      simp (maxSteps := 2000000) only [wk0, wk1, wk2, wk3, keepA, keepT, Fr.keep, frzT, flatT, arrayAtA, ownT, extT, Fr.ev, Fr.put, Fr.get, initFr, buildSliceA, zeros, pkB, pkT, pkF, ownDst, Env.kd, ofConst, isConst, binA, intI, cmpI, shiftI, convertA, buildA, fillA, fillS, splice, AV.cells?, storeA, readAt, fieldAddrA, fieldA, indexA, extractA, unA, builtinA, appendA, lenA, sliceCells, isSliceK, makeInterfaceA, nilCheckA, eqA, AV.one, AV.plain, if_false, if_true, Nat.reduceEqDiff, reduceIte, Nat.reduceAdd, List.replicate, Nat.reduceLeDiff, Nat.reduceMul, Nat.reduceSub, Nat.reducePow, Int.reduceLT, Int.reduceLE, Int.reduceToNat, Int.reducePow, IntKind.bits, Int.reduceEq, Int.reduceMul, Int.reduceNeg, ne_eq, reduceCtorEq, escT, BEq.rfl, beq_self_eq_true, Int.reduceAdd, Int.reduceSub, Int.reduceMod, Int.reduceDiv, Nat.reduceMod, Nat.reduceDiv, Nat.reduceLT, cond_true, cond_false, gt_iff_lt, ge_iff_le, gor, ga, g3, g4, g5, g6, g7, hi, hj, k1, k2, fx, wi, wj, Int.toNat_natCast, Nat.mul_one, List.length_map, cl2, cs2, b1, b2, ta, YtimdnnlfkkkpbaaDoor.D38, ty1, ty2, ty3, ty4, ty22, ty23]
      refine callThen_of (hd i j _ hin (by omega)) ?_
      simp (maxSteps := 2000000) only [wk0, wk1, wk2, wk3, keepA, keepT, Fr.keep, frzT, flatT, arrayAtA, ownT, extT, Fr.ev, Fr.put, Fr.get, initFr, buildSliceA, zeros, pkB, pkT, pkF, ownDst, Env.kd, ofConst, isConst, binA, intI, cmpI, shiftI, convertA, buildA, fillA, fillS, splice, AV.cells?, storeA, readAt, fieldAddrA, fieldA, indexA, extractA, unA, builtinA, appendA, lenA, sliceCells, isSliceK, makeInterfaceA, nilCheckA, eqA, AV.one, AV.plain, if_false, if_true, Nat.reduceEqDiff, reduceIte, Nat.reduceAdd, List.replicate, Nat.reduceLeDiff, Nat.reduceMul, Nat.reduceSub, Nat.reducePow, Int.reduceLT, Int.reduceLE, Int.reduceToNat, Int.reducePow, IntKind.bits, Int.reduceEq, Int.reduceMul, Int.reduceNeg, ne_eq, reduceCtorEq, escT, BEq.rfl, beq_self_eq_true, Int.reduceAdd, Int.reduceSub, Int.reduceMod, Int.reduceDiv, Nat.reduceMod, Nat.reduceDiv, Nat.reduceLT, cond_true, cond_false, gt_iff_lt, ge_iff_le, gor, ga, g3, g4, g5, g6, g7, hi, hj, k1, k2, fx, wi, wj, Int.toNat_natCast, Nat.mul_one, List.length_map, cl2, cs2, b1, b2, ta, YtimdnnlfkkkpbaaDoor.D38, ty1, ty2, ty3, ty4, ty22, ty23]
      exact ih2 (m' - 1) _ _ (by omega) ⟨j + 1, j + 1, by omega, by simpa [Fr.get] using ga, by simp [Fr.get, g3], by simp [Fr.get, ← Nat.add_assoc, an], by simp [Fr.get, g5], by simp [Fr.get], by simp [Fr.get], rfl⟩
    · obtain rfl : j = c := by omega
      have px := pl_nmd 0 (preL (F i) j)
      have tk : List.take j ((preL (F i) j).map fun x => AV.int .i64 x) = (rowF F j i).map fun x => .int .i64 x := List.take_of_length_le (by simp [cl2])
      have ea : (i + 1) * j = i * j + j := by rw [Nat.add_mul, Nat.one_mul]
      simp (maxSteps := 2000000) only [wk0, wk1, wk2, wk3, keepA, keepT, Fr.keep, frzT, flatT, arrayAtA, ownT, extT, Fr.ev, Fr.put, Fr.get, initFr, buildSliceA, zeros, pkB, pkT, pkF, ownDst, Env.kd, ofConst, isConst, binA, intI, cmpI, shiftI, convertA, buildA, fillA, fillS, splice, AV.cells?, storeA, readAt, fieldAddrA, fieldA, indexA, extractA, unA, builtinA, appendA, lenA, sliceCells, isSliceK, makeInterfaceA, nilCheckA, eqA, AV.one, AV.plain, if_false, if_true, Nat.reduceEqDiff, reduceIte, Nat.reduceAdd, List.replicate, Nat.reduceLeDiff, Nat.reduceMul, Nat.reduceSub, Nat.reducePow, Int.reduceLT, Int.reduceLE, Int.reduceToNat, Int.reducePow, IntKind.bits, Int.reduceEq, Int.reduceMul, Int.reduceNeg, ne_eq, reduceCtorEq, escT, BEq.rfl, beq_self_eq_true, Int.reduceAdd, Int.reduceSub, Int.reduceMod, Int.reduceDiv, Nat.reduceMod, Nat.reduceDiv, Nat.reduceLT, cond_true, cond_false, gt_iff_lt, ge_iff_le, ga, g3, g4, g5, g6, g7, hj, (show ¬ (j : Int) < r by omega), lP, tb, tb0, ts, cl, cs, a1, a2, wi, List.length_map, Nat.mul_one, Nat.zero_add, Nat.le_refl, cl2, tk, eq_true px, YtimdnnlfkkkpbaaDoor.D38, ty1, ty2, ty3, ty4, ty22, ty23]
      exact ih (m - 1) _ _ (by omega) ⟨i + 1, i + 1, _, by omega, by simpa [Fr.get] using ga, by simp [Fr.get], by simp [Fr.get, g4, ea], by simp [Fr.get], tail_step hP⟩
  · obtain rfl : i = r := by omega
    simp (maxSteps := 2000000) only [wk0, wk1, wk2, wk3, keepA, keepT, Fr.keep, frzT, flatT, arrayAtA, ownT, extT, Fr.ev, Fr.put, Fr.get, initFr, buildSliceA, zeros, pkB, pkT, pkF, ownDst, Env.kd, ofConst, isConst, binA, intI, cmpI, shiftI, convertA, buildA, fillA, fillS, splice, AV.cells?, storeA, readAt, fieldAddrA, fieldA, indexA, extractA, unA, builtinA, appendA, lenA, sliceCells, isSliceK, makeInterfaceA, nilCheckA, eqA, AV.one, AV.plain, if_false, if_true, Nat.reduceEqDiff, reduceIte, Nat.reduceAdd, List.replicate, Nat.reduceLeDiff, Nat.reduceMul, Nat.reduceSub, Nat.reducePow, Int.reduceLT, Int.reduceLE, Int.reduceToNat, Int.reducePow, IntKind.bits, Int.reduceEq, Int.reduceMul, Int.reduceNeg, ne_eq, reduceCtorEq, escT, BEq.rfl, beq_self_eq_true, Int.reduceAdd, Int.reduceSub, Int.reduceMod, Int.reduceDiv, Nat.reduceMod, Nat.reduceDiv, Nat.reduceLT, cond_true, cond_false, gt_iff_lt, ge_iff_le, ga, g3, g4, g5, hi, YtimdnnlfkkkpbaaDoor.D38, ty1, ty2, ty3, ty4, ty22, ty23]
    exact retB_two (fin_rows (Nat.le_refl _) tb0) (.same _ (.bool _)) (tail_take hP).symm
end Go.Proofs.YtimdnnlfkkkpbaaDoor
