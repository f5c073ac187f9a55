/- polar: a plot as a place; the reference's; the statement PolarOf. -/
import Derived.Test.YtjdnmejohadlbaaDoorW0
import Derived.Test.YtjdnmejohadlbaaDoorEvO
set_option linter.unusedSimpArgs false
set_option linter.unusedVariables false
set_option maxRecDepth 100000
set_option maxHeartbeats 4000000
namespace Go.Proofs.YtjdnmejohadlbaaDoor
def po3 (a b x y : Int) : Int := bndI (rnd (dotZ [a, b] [x, y]) (2 ^ 30))
def po3o (a b x y : Int) : Bool := ovrB (rnd (dotZ [a, b] [x, y]) (2 ^ 30))
def poSS (t : Int) : Int := bndI (rnd (sinT t * sinT t) (2 ^ 30))
def poCC (t : Int) : Int := bndI (rnd (cosT t * cosT t) (2 ^ 30))
def poSC (t : Int) : Int := bndI (rnd (sinT t * cosT t) (2 ^ 30))
def poXX (R T far t : Int) : Int := po3 (poA R) (poB far T) (poSS t) (poCC t)
def poYY (R T far t : Int) : Int := po3 (poA R) (poB far T) (poCC t) (poSS t)
def poXY (R T far t : Int) : Int := po3 (poA R) (poB far T) (poSC t) (-poSC t)
def poOv (R T far t : Int) : Bool := ((poO R far T || po3o (poA R) (poB far T) (poSS t) (poCC t)) || po3o (poA R) (poB far T) (poCC t) (poSS t)) || po3o (poA R) (poB far T) (poSC t) (-poSC t)
theorem allI_cons {k : IntKind} {a b : Int} {r r' : List AV} : allInts (.int k a :: r) (.int k b :: r') = (allInts r r').map fun t => (a == b) && t := by simp [allInts]
theorem allI_nil : allInts [] [] = some true := rfl
theorem inB (n : Int) : inI (bndI n) := by have := bndI_in n; unfold inI; omega
theorem inNB (n : Int) : inI (-bndI n) := by have := bndI_in n; unfold inI; omega
theorem polarOf_ok (R T far z tm : Int) (S : Heap) (h : mayS R T) (hf : 0 ≤ far ∧ far ≤ 1099511627776) (hz : 0 ≤ z ∧ z < 65536) :
    Call theE 11 [.agg [.int .i64 R, .int .i64 T], .agg [.int .i64 far, .int .u16 z, .int .i64 tm]] S
      (.tup [.agg [.int .i64 (plX (65536 * z) far), .int .i64 (plY (65536 * z) far), .int .i64 (poXX R T far (65536 * z)), .int .i64 (poYY R T far (65536 * z)), .int .i64 (poXY R T far (65536 * z))], .bool (poOv R T far (65536 * z)), .nili]) S := by
  have c := fun S => polarCheck_ok R T S h
  unfold mayS at h
  have tu := fun S => turnOf_ok z S hz
  obtain ⟨t, ht⟩ : ∃ t, 65536 * z = t := ⟨_, rfl⟩
  rw [ht] at tu ⊢
  have ht' : 0 ≤ t ∧ t < 4294967296 := by omega
  have pl := fun S => place_ok t far S ht' (by omega)
  have bo := fun S => both_ok t S ht'
  have s1 := sin_small t
  have s2 := cos_small t
  have is : inI (sinT t) := by unfold inI; omega
  have ic : inI (cosT t) := by unfold inI; omega
  have e : ∀ (x y z w v : Option Blk), (S ++ [x, y, z, w]).set (S.length + 3) v = S ++ [x, y, z, v] := fun x y z w v => by rw [set_app]; rfl
  have sp := fun (x y w : Option Blk) => polarSpread1_ok R T far (S.length + 3) (S ++ [x, y, w, tlA false]) (by unfold inI; omega) (by unfold inI; omega) (by unfold inI; omega) (by rw [blkAt_app]; rfl)
  have one := fun (a b : Int) (ha : inI a) (hb : inI b) (o : Bool) (x y w : Option Blk) => polarDot_ok _ _ [a] [b] 30 (S.length + 3) o (S ++ [x, y, w, tlA o]) (SlI.lst _) (SlI.lst _) (by omega) rfl (by simp) (by simpa using ha) (by simpa using hb) (by rw [blkAt_app]; rfl)
  have two := fun (a b p q : Int) (ha : inI a) (hb : inI b) (hp : inI p) (hq : inI q) (o : Bool) (x y w : Option Blk) => polarDot_ok _ _ [a, b] [p, q] 30 (S.length + 3) o (S ++ [x, y, w, tlA o]) (SlI.lst _) (SlI.lst _) (by omega) rfl (by simp) (by simp [ha, hb]) (by simp [hp, hq]) (by rw [blkAt_app]; rfl)
  have dz : ∀ a b : Int, dotZ [a] [b] = a * b := fun a b => by simp [dotZ]
  simp only [e, dz, List.map_cons, List.map_nil, List.length_cons, List.length_nil, Nat.zero_add, Nat.reduceAdd] at sp one two
  have d1 := one (sinT t) (sinT t) is is
  have d2 := one (cosT t) (cosT t) ic ic
  have d3 := one (sinT t) (cosT t) is ic
  rw [ovr_prod s1 s1] at d1
  rw [ovr_prod s2 s2] at d2
  rw [ovr_prod s1 s2] at d3
  change ∀ (o : Bool) (x y w : Option Blk), Call theE _ [_, _, _, .int .i64 30] _ (.int .i64 (poSS t)) _ at d1
  change ∀ (o : Bool) (x y w : Option Blk), Call theE _ [_, _, _, .int .i64 30] _ (.int .i64 (poCC t)) _ at d2
  change ∀ (o : Bool) (x y w : Option Blk), Call theE _ [_, _, _, .int .i64 30] _ (.int .i64 (poSC t)) _ at d3
  have e1 := two (poA R) (poB far T) (poSS t) (poCC t) (inB _) (inB _) (inB _) (inB _)
  have e2 := two (poA R) (poB far T) (poCC t) (poSS t) (inB _) (inB _) (inB _) (inB _)
  have e3 := two (poA R) (poB far T) (poSC t) (-poSC t) (inB _) (inB _) (inB _) (inNB _)
  change ∀ (o : Bool) (x y w : Option Blk), Call theE _ [_, _, _, .int .i64 30] _ (.int .i64 (poXX R T far t)) (S ++ [x, y, w, tlA (o || po3o (poA R) (poB far T) (poSS t) (poCC t))]) at e1
  change ∀ (o : Bool) (x y w : Option Blk), Call theE _ [_, _, _, .int .i64 30] _ (.int .i64 (poYY R T far t)) (S ++ [x, y, w, tlA (o || po3o (poA R) (poB far T) (poCC t) (poSS t))]) at e2
  change ∀ (o : Bool) (x y w : Option Blk), Call theE _ [_, _, _, .int .i64 30] _ (.int .i64 (poXY R T far t)) (S ++ [x, y, w, tlA (o || po3o (poA R) (poB far T) (poSC t) (-poSC t))]) at e3
  have wn : IntKind.i64.wrap (0 - poSC t) = -poSC t := by have := bndI_in (rnd (sinT t * cosT t) (2 ^ 30)); rw [wrapI (by unfold poSC; omega)]; omega
  have oi := fun (x y c u w : Option Blk) => show onlyIn (S ++ [x, y, some ⟨[.int .i64 0, .int .i64 0, .int .i64 0, .int .i64 0, .int .i64 0], 0⟩, u, w]) (S ++ [x, y, c, u, w]) = True from eq_true (by
    have := onlyIn_set (H := S ++ [x, y, some ⟨[.int .i64 0, .int .i64 0, .int .i64 0, .int .i64 0, .int .i64 0], 0⟩, u, w]) (q := S.length + 2) (v := 0) (x := c) (by rw [blkAt_app]; rfl) rfl
    rw [set_app] at this
    exact this)
  have p1 : ¬ far < 0 := by omega
  have p2 : ¬ 1099511627776 < far := by omega
  unfold poOv
  unfold tlA at sp d1 d2 d3 e1 e2 e3
  simp only [Bool.or_false] at d1 d2 d3
  generalize poXX R T far t = xx at *
  generalize poYY R T far t = yy at *
  generalize poXY R T far t = xy at *
  generalize po3o (poA R) (poB far T) (poSS t) (poCC t) = o1 at *
  generalize po3o (poA R) (poB far T) (poCC t) (poSS t) = o2 at *
  generalize po3o (poA R) (poB far T) (poSC t) (-poSC t) = o3 at *
  generalize poO R far T = o0 at *
  generalize poSS t = ss at *
  generalize poCC t = cc at *
  generalize poSC t = sc at *
  generalize poA R = A at *
  generalize poB far T = B at *
  generalize sinT t = s at *
  generalize cosT t = co at *
  generalize plX t far = X at *
  generalize plY t far = Y at *
  refine Call.ofC Tryd.func11 YtjdnmejohadlbaaDoor.b11 YtjdnmejohadlbaaDoor.d11 YtjdnmejohadlbaaDoor.e11 (by simp [Tryd.f11]) ?_
  dsimp only [YtjdnmejohadlbaaDoor.c11, Tryd.f11, Option.getD_some]
  simp (maxSteps := 2000000) only [wk0, wk1, wk2, wk3, wk4, keepA, keepT, Fr.keep, frzT, flatT, arrayAtA, ownT, extT, Fr.ev, Fr.put, Fr.get, initFr, buildSliceA, zeros, pkB, pkT, pkF, ownDst, Env.kd, ofConst, isConst, binA, intI, cmpI, shiftI, convertA, buildA, fillA, fillS, splice, AV.cells?, storeA, readAt, fieldAddrA, fieldA, indexA, extractA, unA, builtinA, appendA, lenA, sliceCells, isSliceK, makeInterfaceA, nilCheckA, eqA, AV.one, AV.plain, if_false, if_true, Nat.reduceEqDiff, reduceIte, Nat.reduceAdd, List.replicate, Nat.reduceLeDiff, Nat.reduceMul, Nat.reduceSub, Nat.reducePow, Int.reduceLT, Int.reduceLE, Int.reduceToNat, Int.reducePow, IntKind.bits, Int.reduceEq, Int.reduceMul, Int.reduceNeg, ne_eq, reduceCtorEq, escT, BEq.rfl, beq_self_eq_true, Int.reduceAdd, Int.reduceSub, Int.reduceMod, Int.reduceDiv, Nat.reduceMod, Nat.reduceDiv, Nat.reduceLT, cond_true, cond_false, gt_iff_lt, ge_iff_le, p1, p2, wn, oi, YtjdnmejohadlbaaDoor.D11, ty1, ty2, ty3, ty4, ty24, ty28, ty30, ty33, ty34, ty51, ty95, ty133, ty135, ty137]
  repeat
    first
    | refine callThen_of (c _) ?_
    | refine callThen_of (tu _) ?_
    | refine callThen_of (pl _) ?_
    | refine callThen_of (sp _ _ _) ?_
    | refine callThen_of (bo _) ?_
    | refine callThen_of (d1 _ _ _ _) ?_
    | refine callThen_of (d2 _ _ _ _) ?_
    | refine callThen_of (d3 _ _ _ _) ?_
    | refine callThen_of (e1 _ _ _ _) ?_
    | refine callThen_of (e2 _ _ _ _) ?_
    | refine callThen_of (e3 _ _ _ _) ?_
    simp (maxSteps := 2000000) only [wk0, wk1, wk2, wk3, wk4, keepA, keepT, Fr.keep, frzT, flatT, arrayAtA, ownT, extT, Fr.ev, Fr.put, Fr.get, initFr, buildSliceA, zeros, pkB, pkT, pkF, ownDst, Env.kd, ofConst, isConst, binA, intI, cmpI, shiftI, convertA, buildA, fillA, fillS, splice, AV.cells?, storeA, readAt, fieldAddrA, fieldA, indexA, extractA, unA, builtinA, appendA, lenA, sliceCells, isSliceK, makeInterfaceA, nilCheckA, eqA, AV.one, AV.plain, if_false, if_true, Nat.reduceEqDiff, reduceIte, Nat.reduceAdd, List.replicate, Nat.reduceLeDiff, Nat.reduceMul, Nat.reduceSub, Nat.reducePow, Int.reduceLT, Int.reduceLE, Int.reduceToNat, Int.reducePow, IntKind.bits, Int.reduceEq, Int.reduceMul, Int.reduceNeg, ne_eq, reduceCtorEq, escT, BEq.rfl, beq_self_eq_true, Int.reduceAdd, Int.reduceSub, Int.reduceMod, Int.reduceDiv, Nat.reduceMod, Nat.reduceDiv, Nat.reduceLT, cond_true, cond_false, gt_iff_lt, ge_iff_le, p1, p2, wn, oi, YtjdnmejohadlbaaDoor.D11, ty1, ty2, ty3, ty4, ty24, ty28, ty30, ty33, ty34, ty51, ty95, ty133, ty135, ty137]
  exact retB_plain (by simp [nmd_int, nmd_nili, nmd_agg, nmd_bool]) rfl (by simp)
theorem polarOf_bad (R T far z tm : Int) (S : Heap) (h : ¬ (mayS R T ∧ 0 ≤ far ∧ far ≤ 1099511627776)) :
    Call theE 11 [.agg [.int .i64 R, .int .i64 T], .agg [.int .i64 far, .int .u16 z, .int .i64 tm]] S
      (.tup [.agg [.int .i64 0, .int .i64 0, .int .i64 0, .int .i64 0, .int .i64 0], .bool false, errA 1]) S := by
  refine Call.ofC Tryd.func11 YtjdnmejohadlbaaDoor.b11 YtjdnmejohadlbaaDoor.d11 YtjdnmejohadlbaaDoor.e11 (by simp [Tryd.f11]) ?_
  dsimp only [YtjdnmejohadlbaaDoor.c11, Tryd.f11, Option.getD_some]
  by_cases hm : mayS R T
  · have c := fun S => polarCheck_ok R T S hm
    by_cases p1 : far < 0
    · simp (maxSteps := 2000000) only [wk0, wk1, wk2, wk3, wk4, keepA, keepT, Fr.keep, frzT, flatT, arrayAtA, ownT, extT, Fr.ev, Fr.put, Fr.get, initFr, buildSliceA, zeros, pkB, pkT, pkF, ownDst, Env.kd, ofConst, isConst, binA, intI, cmpI, shiftI, convertA, buildA, fillA, fillS, splice, AV.cells?, storeA, readAt, fieldAddrA, fieldA, indexA, extractA, unA, builtinA, appendA, lenA, sliceCells, isSliceK, makeInterfaceA, nilCheckA, eqA, AV.one, AV.plain, if_false, if_true, Nat.reduceEqDiff, reduceIte, Nat.reduceAdd, List.replicate, Nat.reduceLeDiff, Nat.reduceMul, Nat.reduceSub, Nat.reducePow, Int.reduceLT, Int.reduceLE, Int.reduceToNat, Int.reducePow, IntKind.bits, Int.reduceEq, Int.reduceMul, Int.reduceNeg, ne_eq, reduceCtorEq, escT, BEq.rfl, beq_self_eq_true, Int.reduceAdd, Int.reduceSub, Int.reduceMod, Int.reduceDiv, Nat.reduceMod, Nat.reduceDiv, Nat.reduceLT, cond_true, cond_false, gt_iff_lt, ge_iff_le, p1, YtjdnmejohadlbaaDoor.D11, ty1, ty2, ty3, ty4, ty24, ty28, ty30, ty33, ty34, ty51, ty95, ty133, ty135, ty137]
      refine callThen_of (c _) ?_
      simp (maxSteps := 2000000) only [wk0, wk1, wk2, wk3, wk4, keepA, keepT, Fr.keep, frzT, flatT, arrayAtA, ownT, extT, Fr.ev, Fr.put, Fr.get, initFr, buildSliceA, zeros, pkB, pkT, pkF, ownDst, Env.kd, ofConst, isConst, binA, intI, cmpI, shiftI, convertA, buildA, fillA, fillS, splice, AV.cells?, storeA, readAt, fieldAddrA, fieldA, indexA, extractA, unA, builtinA, appendA, lenA, sliceCells, isSliceK, makeInterfaceA, nilCheckA, eqA, AV.one, AV.plain, if_false, if_true, Nat.reduceEqDiff, reduceIte, Nat.reduceAdd, List.replicate, Nat.reduceLeDiff, Nat.reduceMul, Nat.reduceSub, Nat.reducePow, Int.reduceLT, Int.reduceLE, Int.reduceToNat, Int.reducePow, IntKind.bits, Int.reduceEq, Int.reduceMul, Int.reduceNeg, ne_eq, reduceCtorEq, escT, BEq.rfl, beq_self_eq_true, Int.reduceAdd, Int.reduceSub, Int.reduceMod, Int.reduceDiv, Nat.reduceMod, Nat.reduceDiv, Nat.reduceLT, cond_true, cond_false, gt_iff_lt, ge_iff_le, p1, YtjdnmejohadlbaaDoor.D11, ty1, ty2, ty3, ty4, ty24, ty28, ty30, ty33, ty34, ty51, ty95, ty133, ty135, ty137]
      exact retB_plain (by simp [nmd_int, nmd_ifc, nmd_agg, nmd_bool]) rfl (by simp)
    · have p2 : 1099511627776 < far := by
        rcases Int.lt_or_le 1099511627776 far with h1 | h1
        · exact h1
        · exact absurd ⟨hm, by omega, h1⟩ h
      simp (maxSteps := 2000000) only [wk0, wk1, wk2, wk3, wk4, keepA, keepT, Fr.keep, frzT, flatT, arrayAtA, ownT, extT, Fr.ev, Fr.put, Fr.get, initFr, buildSliceA, zeros, pkB, pkT, pkF, ownDst, Env.kd, ofConst, isConst, binA, intI, cmpI, shiftI, convertA, buildA, fillA, fillS, splice, AV.cells?, storeA, readAt, fieldAddrA, fieldA, indexA, extractA, unA, builtinA, appendA, lenA, sliceCells, isSliceK, makeInterfaceA, nilCheckA, eqA, AV.one, AV.plain, if_false, if_true, Nat.reduceEqDiff, reduceIte, Nat.reduceAdd, List.replicate, Nat.reduceLeDiff, Nat.reduceMul, Nat.reduceSub, Nat.reducePow, Int.reduceLT, Int.reduceLE, Int.reduceToNat, Int.reducePow, IntKind.bits, Int.reduceEq, Int.reduceMul, Int.reduceNeg, ne_eq, reduceCtorEq, escT, BEq.rfl, beq_self_eq_true, Int.reduceAdd, Int.reduceSub, Int.reduceMod, Int.reduceDiv, Nat.reduceMod, Nat.reduceDiv, Nat.reduceLT, cond_true, cond_false, gt_iff_lt, ge_iff_le, p1, p2, YtjdnmejohadlbaaDoor.D11, ty1, ty2, ty3, ty4, ty24, ty28, ty30, ty33, ty34, ty51, ty95, ty133, ty135, ty137]
      refine callThen_of (c _) ?_
      simp (maxSteps := 2000000) only [wk0, wk1, wk2, wk3, wk4, keepA, keepT, Fr.keep, frzT, flatT, arrayAtA, ownT, extT, Fr.ev, Fr.put, Fr.get, initFr, buildSliceA, zeros, pkB, pkT, pkF, ownDst, Env.kd, ofConst, isConst, binA, intI, cmpI, shiftI, convertA, buildA, fillA, fillS, splice, AV.cells?, storeA, readAt, fieldAddrA, fieldA, indexA, extractA, unA, builtinA, appendA, lenA, sliceCells, isSliceK, makeInterfaceA, nilCheckA, eqA, AV.one, AV.plain, if_false, if_true, Nat.reduceEqDiff, reduceIte, Nat.reduceAdd, List.replicate, Nat.reduceLeDiff, Nat.reduceMul, Nat.reduceSub, Nat.reducePow, Int.reduceLT, Int.reduceLE, Int.reduceToNat, Int.reducePow, IntKind.bits, Int.reduceEq, Int.reduceMul, Int.reduceNeg, ne_eq, reduceCtorEq, escT, BEq.rfl, beq_self_eq_true, Int.reduceAdd, Int.reduceSub, Int.reduceMod, Int.reduceDiv, Nat.reduceMod, Nat.reduceDiv, Nat.reduceLT, cond_true, cond_false, gt_iff_lt, ge_iff_le, p1, p2, YtjdnmejohadlbaaDoor.D11, ty1, ty2, ty3, ty4, ty24, ty28, ty30, ty33, ty34, ty51, ty95, ty133, ty135, ty137]
      exact retB_plain (by simp [nmd_int, nmd_ifc, nmd_agg, nmd_bool]) rfl (by simp)
  · have c := fun S => polarCheck_bad R T S hm
    simp only [errA] at c
    simp (maxSteps := 2000000) only [wk0, wk1, wk2, wk3, wk4, keepA, keepT, Fr.keep, frzT, flatT, arrayAtA, ownT, extT, Fr.ev, Fr.put, Fr.get, initFr, buildSliceA, zeros, pkB, pkT, pkF, ownDst, Env.kd, ofConst, isConst, binA, intI, cmpI, shiftI, convertA, buildA, fillA, fillS, splice, AV.cells?, storeA, readAt, fieldAddrA, fieldA, indexA, extractA, unA, builtinA, appendA, lenA, sliceCells, isSliceK, makeInterfaceA, nilCheckA, eqA, AV.one, AV.plain, if_false, if_true, Nat.reduceEqDiff, reduceIte, Nat.reduceAdd, List.replicate, Nat.reduceLeDiff, Nat.reduceMul, Nat.reduceSub, Nat.reducePow, Int.reduceLT, Int.reduceLE, Int.reduceToNat, Int.reducePow, IntKind.bits, Int.reduceEq, Int.reduceMul, Int.reduceNeg, ne_eq, reduceCtorEq, escT, BEq.rfl, beq_self_eq_true, Int.reduceAdd, Int.reduceSub, Int.reduceMod, Int.reduceDiv, Nat.reduceMod, Nat.reduceDiv, Nat.reduceLT, cond_true, cond_false, gt_iff_lt, ge_iff_le, YtjdnmejohadlbaaDoor.D11, ty1, ty2, ty3, ty4, ty24, ty28, ty30, ty33, ty34, ty51, ty95, ty133, ty135, ty137]
    refine callThen_of (c _) ?_
    simp (maxSteps := 2000000) only [wk0, wk1, wk2, wk3, wk4, keepA, keepT, Fr.keep, frzT, flatT, arrayAtA, ownT, extT, Fr.ev, Fr.put, Fr.get, initFr, buildSliceA, zeros, pkB, pkT, pkF, ownDst, Env.kd, ofConst, isConst, binA, intI, cmpI, shiftI, convertA, buildA, fillA, fillS, splice, AV.cells?, storeA, readAt, fieldAddrA, fieldA, indexA, extractA, unA, builtinA, appendA, lenA, sliceCells, isSliceK, makeInterfaceA, nilCheckA, eqA, AV.one, AV.plain, if_false, if_true, Nat.reduceEqDiff, reduceIte, Nat.reduceAdd, List.replicate, Nat.reduceLeDiff, Nat.reduceMul, Nat.reduceSub, Nat.reducePow, Int.reduceLT, Int.reduceLE, Int.reduceToNat, Int.reducePow, IntKind.bits, Int.reduceEq, Int.reduceMul, Int.reduceNeg, ne_eq, reduceCtorEq, escT, BEq.rfl, beq_self_eq_true, Int.reduceAdd, Int.reduceSub, Int.reduceMod, Int.reduceDiv, Nat.reduceMod, Nat.reduceDiv, Nat.reduceLT, cond_true, cond_false, gt_iff_lt, ge_iff_le, YtjdnmejohadlbaaDoor.D11, ty1, ty2, ty3, ty4, ty24, ty28, ty30, ty33, ty34, ty51, ty95, ty133, ty135, ty137]
    exact retB_plain (by simp [nmd_int, nmd_ifc, nmd_agg, nmd_bool]) rfl (by simp)
noncomputable def c78 : Code := Tryd.f78.body.getD .skip
theorem b78 : Tryd.f78.body = some c78 := rfl
theorem d78 : fnOk Tryd.f78 c78 = true := by kernel_rfl
def D78 : Nat → List Tag := fun _ => []
theorem e78 : drawsOk D78 c78 = true := by kernel_rfl
noncomputable def c13 : Code := Tryd.f13.body.getD .skip
theorem b13 : Tryd.f13.body = some c13 := rfl
theorem d13 : fnOk Tryd.f13 c13 = true := by kernel_rfl
def D13 : Nat → List Tag := fun _ => []
theorem e13 : drawsOk D13 c13 = true := by kernel_rfl
noncomputable def c16 : Code := Tryd.f16.body.getD .skip
theorem b16 : Tryd.f16.body = some c16 := rfl
theorem d16 : fnOk Tryd.f16 c16 = true := by kernel_rfl
def D16 : Nat → List Tag := fun _ => []
theorem e16 : drawsOk D16 c16 = true := by kernel_rfl
noncomputable def c19 : Code := Tryd.f19.body.getD .skip
theorem b19 : Tryd.f19.body = some c19 := rfl
theorem d19 : fnOk Tryd.f19 c19 = true := by kernel_rfl
def D19 : Nat → List Tag := fun _ => []
theorem e19 : drawsOk D19 c19 = true := by kernel_rfl
noncomputable def c18 : Code := Tryd.f18.body.getD .skip
theorem b18 : Tryd.f18.body = some c18 := rfl
theorem d18 : fnOk Tryd.f18 c18 = true := by kernel_rfl
def D18 : Nat → List Tag := fun _ => []
theorem e18 : drawsOk D18 c18 = true := by kernel_rfl
noncomputable def c17 : Code := Tryd.f17.body.getD .skip
theorem b17 : Tryd.f17.body = some c17 := rfl
theorem d17 : fnOk Tryd.f17 c17 = true := by kernel_rfl
def D17 : Nat → List Tag := fun _ => []
theorem e17 : drawsOk D17 c17 = true := by kernel_rfl
noncomputable def c3 : Code := Tryd.f3.body.getD .skip
theorem b3 : Tryd.f3.body = some c3 := rfl
theorem d3 : fnOk Tryd.f3 c3 = true := by kernel_rfl
def D3 : Nat → List Tag := fun _ => []
theorem e3 : drawsOk D3 c3 = true := by kernel_rfl
theorem refOne_ok (a b : Int) (n : Nat) (S : Heap) (ha : inI a) (hb : inI b) (hn : n ≤ 62) : Call theE 78 [.int .i64 a, .int .i64 b, .int .i64 n] S (.tup [.int .i64 (bndI (rnd (a * b) (2 ^ n))), .bool (ovrB (rnd (a * b) (2 ^ n)))]) S := by
  have d := fun S => refDot_ok _ _ [a] [b] n S (SlI.lst _) (SlI.lst _) hn rfl (by simp) (by simpa using ha) (by simpa using hb)
  rw [show dotZ [a] [b] = a * b by simp [dotZ]] at d
  simp only [List.map_cons, List.map_nil, List.length_cons, List.length_nil, Nat.zero_add] at d
  refine Call.ofC Tryd.func78 YtjdnmejohadlbaaDoor.b78 YtjdnmejohadlbaaDoor.d78 YtjdnmejohadlbaaDoor.e78 (by simp [Tryd.f78]) ?_
  dsimp only [YtjdnmejohadlbaaDoor.c78, Tryd.f78, Option.getD_some]
  simp (maxSteps := 2000000) only [wk0, wk1, wk2, wk3, wk4, keepA, keepT, Fr.keep, frzT, flatT, arrayAtA, ownT, extT, Fr.ev, Fr.put, Fr.get, initFr, buildSliceA, zeros, pkB, pkT, pkF, ownDst, Env.kd, ofConst, isConst, binA, intI, cmpI, shiftI, convertA, buildA, fillA, fillS, splice, AV.cells?, storeA, readAt, fieldAddrA, fieldA, indexA, extractA, unA, builtinA, appendA, lenA, sliceCells, isSliceK, makeInterfaceA, nilCheckA, eqA, AV.one, AV.plain, if_false, if_true, Nat.reduceEqDiff, reduceIte, Nat.reduceAdd, List.replicate, Nat.reduceLeDiff, Nat.reduceMul, Nat.reduceSub, Nat.reducePow, Int.reduceLT, Int.reduceLE, Int.reduceToNat, Int.reducePow, IntKind.bits, Int.reduceEq, Int.reduceMul, Int.reduceNeg, ne_eq, reduceCtorEq, escT, BEq.rfl, beq_self_eq_true, Int.reduceAdd, Int.reduceSub, Int.reduceMod, Int.reduceDiv, Nat.reduceMod, Nat.reduceDiv, Nat.reduceLT, cond_true, cond_false, gt_iff_lt, ge_iff_le, YtjdnmejohadlbaaDoor.D78, ty1, ty2, ty3, ty4, ty95]
  refine callThen_of (d _) ?_
  simp (maxSteps := 2000000) only [wk0, wk1, wk2, wk3, wk4, keepA, keepT, Fr.keep, frzT, flatT, arrayAtA, ownT, extT, Fr.ev, Fr.put, Fr.get, initFr, buildSliceA, zeros, pkB, pkT, pkF, ownDst, Env.kd, ofConst, isConst, binA, intI, cmpI, shiftI, convertA, buildA, fillA, fillS, splice, AV.cells?, storeA, readAt, fieldAddrA, fieldA, indexA, extractA, unA, builtinA, appendA, lenA, sliceCells, isSliceK, makeInterfaceA, nilCheckA, eqA, AV.one, AV.plain, if_false, if_true, Nat.reduceEqDiff, reduceIte, Nat.reduceAdd, List.replicate, Nat.reduceLeDiff, Nat.reduceMul, Nat.reduceSub, Nat.reducePow, Int.reduceLT, Int.reduceLE, Int.reduceToNat, Int.reducePow, IntKind.bits, Int.reduceEq, Int.reduceMul, Int.reduceNeg, ne_eq, reduceCtorEq, escT, BEq.rfl, beq_self_eq_true, Int.reduceAdd, Int.reduceSub, Int.reduceMod, Int.reduceDiv, Nat.reduceMod, Nat.reduceDiv, Nat.reduceLT, cond_true, cond_false, gt_iff_lt, ge_iff_le, YtjdnmejohadlbaaDoor.D78, ty1, ty2, ty3, ty4, ty95]
  exact retB_plain (by simp [nmd_int, nmd_bool]) rfl (by simp)
theorem refMay10_ok (R T : Int) (S : Heap) : Call theE 13 [.agg [.int .i64 R, .int .i64 T]] S (.bool (decide (mayS R T))) S := by
  unfold mayS
  refine Call.ofC Tryd.func13 YtjdnmejohadlbaaDoor.b13 YtjdnmejohadlbaaDoor.d13 YtjdnmejohadlbaaDoor.e13 (by simp [Tryd.f13]) ?_
  dsimp only [YtjdnmejohadlbaaDoor.c13, Tryd.f13, Option.getD_some]
  by_cases h1 : 1 ≤ R <;> by_cases h2 : R ≤ 17179869184 <;> by_cases h3 : 1 ≤ T <;> by_cases h4 : T ≤ 268435456
  all_goals
    simp (maxSteps := 2000000) only [wk0, wk1, wk2, wk3, wk4, keepA, keepT, Fr.keep, frzT, flatT, arrayAtA, ownT, extT, Fr.ev, Fr.put, Fr.get, initFr, buildSliceA, zeros, pkB, pkT, pkF, ownDst, Env.kd, ofConst, isConst, binA, intI, cmpI, shiftI, convertA, buildA, fillA, fillS, splice, AV.cells?, storeA, readAt, fieldAddrA, fieldA, indexA, extractA, unA, builtinA, appendA, lenA, sliceCells, isSliceK, makeInterfaceA, nilCheckA, eqA, AV.one, AV.plain, if_false, if_true, Nat.reduceEqDiff, reduceIte, Nat.reduceAdd, List.replicate, Nat.reduceLeDiff, Nat.reduceMul, Nat.reduceSub, Nat.reducePow, Int.reduceLT, Int.reduceLE, Int.reduceToNat, Int.reducePow, IntKind.bits, Int.reduceEq, Int.reduceMul, Int.reduceNeg, ne_eq, reduceCtorEq, escT, BEq.rfl, beq_self_eq_true, Int.reduceAdd, Int.reduceSub, Int.reduceMod, Int.reduceDiv, Nat.reduceMod, Nat.reduceDiv, Nat.reduceLT, cond_true, cond_false, gt_iff_lt, ge_iff_le, h1, h2, h3, h4, decide_true, decide_false, YtjdnmejohadlbaaDoor.D13, ty1, ty2, ty4, ty23]
    exact retB_plain (by simp [nmd_bool]) (by simp [packA, h1, h2, h3, h4]) (by simp)
theorem refIn10_ok (far : Int) (S : Heap) : Call theE 16 [.int .i64 far] S (.bool (decide (0 ≤ far ∧ far ≤ 1099511627776))) S := by
  refine Call.ofC Tryd.func16 YtjdnmejohadlbaaDoor.b16 YtjdnmejohadlbaaDoor.d16 YtjdnmejohadlbaaDoor.e16 (by simp [Tryd.f16]) ?_
  dsimp only [YtjdnmejohadlbaaDoor.c16, Tryd.f16, Option.getD_some]
  by_cases h1 : 0 ≤ far <;> by_cases h2 : far ≤ 1099511627776
  all_goals
    simp (maxSteps := 2000000) only [wk0, wk1, wk2, wk3, wk4, keepA, keepT, Fr.keep, frzT, flatT, arrayAtA, ownT, extT, Fr.ev, Fr.put, Fr.get, initFr, buildSliceA, zeros, pkB, pkT, pkF, ownDst, Env.kd, ofConst, isConst, binA, intI, cmpI, shiftI, convertA, buildA, fillA, fillS, splice, AV.cells?, storeA, readAt, fieldAddrA, fieldA, indexA, extractA, unA, builtinA, appendA, lenA, sliceCells, isSliceK, makeInterfaceA, nilCheckA, eqA, AV.one, AV.plain, if_false, if_true, Nat.reduceEqDiff, reduceIte, Nat.reduceAdd, List.replicate, Nat.reduceLeDiff, Nat.reduceMul, Nat.reduceSub, Nat.reducePow, Int.reduceLT, Int.reduceLE, Int.reduceToNat, Int.reducePow, IntKind.bits, Int.reduceEq, Int.reduceMul, Int.reduceNeg, ne_eq, reduceCtorEq, escT, BEq.rfl, beq_self_eq_true, Int.reduceAdd, Int.reduceSub, Int.reduceMod, Int.reduceDiv, Nat.reduceMod, Nat.reduceDiv, Nat.reduceLT, cond_true, cond_false, gt_iff_lt, ge_iff_le, h1, h2, decide_true, decide_false, YtjdnmejohadlbaaDoor.D16, ty2, ty4]
    exact retB_plain (by simp [nmd_bool]) (by simp [packA, h1, h2]) (by simp)
theorem refSpread_ok (R T far : Int) (S : Heap) (hR : inI R) (hT : inI T) (hf : inI far) : Call theE 19 [.agg [.int .i64 R, .int .i64 T], .int .i64 far] S (.tup [.int .i64 (poA R), .int .i64 (poB far T), .bool (poO R far T)]) S := by
  have d1 := fun S => refOne_ok R R 20 S hR hR (by omega)
  have d2 := fun S => refOne_ok far T 30 S hf hT (by omega)
  have d3 := fun S => refOne_ok (poD far T) (poD far T) 20 S (inB _) (inB _) (by omega)
  change ∀ S, Call theE _ [_, _, .int .i64 20] _ (.tup [.int .i64 (poA R), _]) _ at d1
  change ∀ S, Call theE _ [_, _, .int .i64 30] _ (.tup [.int .i64 (poD far T), _]) _ at d2
  change ∀ S, Call theE _ [_, _, .int .i64 20] _ (.tup [.int .i64 (poB far T), _]) _ at d3
  unfold poO
  generalize poA R = a at *
  generalize poB far T = b at *
  generalize poD far T = d at *
  generalize ovrB (rnd (R * R) (2 ^ 20)) = o1 at *
  generalize ovrB (rnd (far * T) (2 ^ 30)) = o2 at *
  generalize ovrB (rnd (d * d) (2 ^ 20)) = o3 at *
  refine Call.ofC Tryd.func19 YtjdnmejohadlbaaDoor.b19 YtjdnmejohadlbaaDoor.d19 YtjdnmejohadlbaaDoor.e19 (by simp [Tryd.f19]) ?_
  dsimp only [YtjdnmejohadlbaaDoor.c19, Tryd.f19, Option.getD_some]
  simp (maxSteps := 2000000) only [wk0, wk1, wk2, wk3, wk4, keepA, keepT, Fr.keep, frzT, flatT, arrayAtA, ownT, extT, Fr.ev, Fr.put, Fr.get, initFr, buildSliceA, zeros, pkB, pkT, pkF, ownDst, Env.kd, ofConst, isConst, binA, intI, cmpI, shiftI, convertA, buildA, fillA, fillS, splice, AV.cells?, storeA, readAt, fieldAddrA, fieldA, indexA, extractA, unA, builtinA, appendA, lenA, sliceCells, isSliceK, makeInterfaceA, nilCheckA, eqA, AV.one, AV.plain, if_false, if_true, Nat.reduceEqDiff, reduceIte, Nat.reduceAdd, List.replicate, Nat.reduceLeDiff, Nat.reduceMul, Nat.reduceSub, Nat.reducePow, Int.reduceLT, Int.reduceLE, Int.reduceToNat, Int.reducePow, IntKind.bits, Int.reduceEq, Int.reduceMul, Int.reduceNeg, ne_eq, reduceCtorEq, escT, BEq.rfl, beq_self_eq_true, Int.reduceAdd, Int.reduceSub, Int.reduceMod, Int.reduceDiv, Nat.reduceMod, Nat.reduceDiv, Nat.reduceLT, cond_true, cond_false, gt_iff_lt, ge_iff_le, gor, YtjdnmejohadlbaaDoor.D19, ty1, ty2, ty3, ty4, ty23]
  refine callThen_of (d1 _) ?_
  simp (maxSteps := 2000000) only [wk0, wk1, wk2, wk3, wk4, keepA, keepT, Fr.keep, frzT, flatT, arrayAtA, ownT, extT, Fr.ev, Fr.put, Fr.get, initFr, buildSliceA, zeros, pkB, pkT, pkF, ownDst, Env.kd, ofConst, isConst, binA, intI, cmpI, shiftI, convertA, buildA, fillA, fillS, splice, AV.cells?, storeA, readAt, fieldAddrA, fieldA, indexA, extractA, unA, builtinA, appendA, lenA, sliceCells, isSliceK, makeInterfaceA, nilCheckA, eqA, AV.one, AV.plain, if_false, if_true, Nat.reduceEqDiff, reduceIte, Nat.reduceAdd, List.replicate, Nat.reduceLeDiff, Nat.reduceMul, Nat.reduceSub, Nat.reducePow, Int.reduceLT, Int.reduceLE, Int.reduceToNat, Int.reducePow, IntKind.bits, Int.reduceEq, Int.reduceMul, Int.reduceNeg, ne_eq, reduceCtorEq, escT, BEq.rfl, beq_self_eq_true, Int.reduceAdd, Int.reduceSub, Int.reduceMod, Int.reduceDiv, Nat.reduceMod, Nat.reduceDiv, Nat.reduceLT, cond_true, cond_false, gt_iff_lt, ge_iff_le, gor, YtjdnmejohadlbaaDoor.D19, ty1, ty2, ty3, ty4, ty23]
  refine callThen_of (d2 _) ?_
  simp (maxSteps := 2000000) only [wk0, wk1, wk2, wk3, wk4, keepA, keepT, Fr.keep, frzT, flatT, arrayAtA, ownT, extT, Fr.ev, Fr.put, Fr.get, initFr, buildSliceA, zeros, pkB, pkT, pkF, ownDst, Env.kd, ofConst, isConst, binA, intI, cmpI, shiftI, convertA, buildA, fillA, fillS, splice, AV.cells?, storeA, readAt, fieldAddrA, fieldA, indexA, extractA, unA, builtinA, appendA, lenA, sliceCells, isSliceK, makeInterfaceA, nilCheckA, eqA, AV.one, AV.plain, if_false, if_true, Nat.reduceEqDiff, reduceIte, Nat.reduceAdd, List.replicate, Nat.reduceLeDiff, Nat.reduceMul, Nat.reduceSub, Nat.reducePow, Int.reduceLT, Int.reduceLE, Int.reduceToNat, Int.reducePow, IntKind.bits, Int.reduceEq, Int.reduceMul, Int.reduceNeg, ne_eq, reduceCtorEq, escT, BEq.rfl, beq_self_eq_true, Int.reduceAdd, Int.reduceSub, Int.reduceMod, Int.reduceDiv, Nat.reduceMod, Nat.reduceDiv, Nat.reduceLT, cond_true, cond_false, gt_iff_lt, ge_iff_le, gor, YtjdnmejohadlbaaDoor.D19, ty1, ty2, ty3, ty4, ty23]
  refine callThen_of (d3 _) ?_
  simp (maxSteps := 2000000) only [wk0, wk1, wk2, wk3, wk4, keepA, keepT, Fr.keep, frzT, flatT, arrayAtA, ownT, extT, Fr.ev, Fr.put, Fr.get, initFr, buildSliceA, zeros, pkB, pkT, pkF, ownDst, Env.kd, ofConst, isConst, binA, intI, cmpI, shiftI, convertA, buildA, fillA, fillS, splice, AV.cells?, storeA, readAt, fieldAddrA, fieldA, indexA, extractA, unA, builtinA, appendA, lenA, sliceCells, isSliceK, makeInterfaceA, nilCheckA, eqA, AV.one, AV.plain, if_false, if_true, Nat.reduceEqDiff, reduceIte, Nat.reduceAdd, List.replicate, Nat.reduceLeDiff, Nat.reduceMul, Nat.reduceSub, Nat.reducePow, Int.reduceLT, Int.reduceLE, Int.reduceToNat, Int.reducePow, IntKind.bits, Int.reduceEq, Int.reduceMul, Int.reduceNeg, ne_eq, reduceCtorEq, escT, BEq.rfl, beq_self_eq_true, Int.reduceAdd, Int.reduceSub, Int.reduceMod, Int.reduceDiv, Nat.reduceMod, Nat.reduceDiv, Nat.reduceLT, cond_true, cond_false, gt_iff_lt, ge_iff_le, gor, YtjdnmejohadlbaaDoor.D19, ty1, ty2, ty3, ty4, ty23]
  exact retB_plain (by simp [nmd_int, nmd_bool]) rfl (by simp)
theorem refOf10_ok (R T far z tm : Int) (S : Heap) (h : mayS R T) (hf : 0 ≤ far ∧ far ≤ 1099511627776) (hz : 0 ≤ z ∧ z < 65536) :
    Call theE 18 [.agg [.int .i64 R, .int .i64 T], .agg [.int .i64 far, .int .u16 z, .int .i64 tm]] S
      (.tup [.agg [.int .i64 (plX (65536 * z) far), .int .i64 (plY (65536 * z) far), .int .i64 (poXX R T far (65536 * z)), .int .i64 (poYY R T far (65536 * z)), .int .i64 (poXY R T far (65536 * z))], .bool (poOv R T far (65536 * z))]) S := by
  unfold mayS at h
  have w1 : IntKind.i64.wrap z = z := wrapI (by omega)
  have w2 : IntKind.i64.wrap (65536 * z) = 65536 * z := wrapI (by omega)
  obtain ⟨t, ht⟩ : ∃ t, 65536 * z = t := ⟨_, rfl⟩
  rw [ht] at w2 ⊢
  have ht' : 0 ≤ t ∧ t < 4294967296 := by omega
  have pl := fun S => refPlace_ok t far S ht' (by omega)
  have bo := fun S => refBoth_ok t S ht'
  have s1 := sin_small t
  have s2 := cos_small t
  have is : inI (sinT t) := by unfold inI; omega
  have ic : inI (cosT t) := by unfold inI; omega
  have sp := fun S => refSpread_ok R T far S (by unfold inI; omega) (by unfold inI; omega) (by unfold inI; omega)
  have d1 := fun S => refOne_ok (sinT t) (sinT t) 30 S is is (by omega)
  have d2 := fun S => refOne_ok (cosT t) (cosT t) 30 S ic ic (by omega)
  have d3 := fun S => refOne_ok (sinT t) (cosT t) 30 S is ic (by omega)
  have two := fun (a b p q : Int) (ha : inI a) (hb : inI b) (hp : inI p) (hq : inI q) S => refDot_ok _ _ [a, b] [p, q] 30 S (SlI.lst _) (SlI.lst _) (by omega) rfl (by simp) (by simp [ha, hb]) (by simp [hp, hq])
  simp only [List.map_cons, List.map_nil, List.length_cons, List.length_nil, Nat.zero_add, Nat.reduceAdd] at two
  change ∀ S, Call theE _ [_, _, .int .i64 30] _ (.tup [.int .i64 (poSS t), _]) _ at d1
  change ∀ S, Call theE _ [_, _, .int .i64 30] _ (.tup [.int .i64 (poCC t), _]) _ at d2
  change ∀ S, Call theE _ [_, _, .int .i64 30] _ (.tup [.int .i64 (poSC t), _]) _ at d3
  have e1 := two (poA R) (poB far T) (poSS t) (poCC t) (inB _) (inB _) (inB _) (inB _)
  have e2 := two (poA R) (poB far T) (poCC t) (poSS t) (inB _) (inB _) (inB _) (inB _)
  have e3 := two (poA R) (poB far T) (poSC t) (-poSC t) (inB _) (inB _) (inB _) (inNB _)
  change ∀ S, Call theE _ [_, _, .int .i64 30] S (.tup [.int .i64 (poXX R T far t), .bool (po3o (poA R) (poB far T) (poSS t) (poCC t))]) S at e1
  change ∀ S, Call theE _ [_, _, .int .i64 30] S (.tup [.int .i64 (poYY R T far t), .bool (po3o (poA R) (poB far T) (poCC t) (poSS t))]) S at e2
  change ∀ S, Call theE _ [_, _, .int .i64 30] S (.tup [.int .i64 (poXY R T far t), .bool (po3o (poA R) (poB far T) (poSC t) (-poSC t))]) S at e3
  have wn : IntKind.i64.wrap (0 - poSC t) = -poSC t := by have := bndI_in (rnd (sinT t * cosT t) (2 ^ 30)); rw [wrapI (by unfold poSC; omega)]; omega
  unfold poOv
  generalize ovrB (rnd (sinT t * sinT t) (2 ^ 30)) = u1 at *
  generalize ovrB (rnd (cosT t * cosT t) (2 ^ 30)) = u2 at *
  generalize ovrB (rnd (sinT t * cosT t) (2 ^ 30)) = u3 at *
  generalize poXX R T far t = xx at *
  generalize poYY R T far t = yy at *
  generalize poXY R T far t = xy at *
  generalize po3o (poA R) (poB far T) (poSS t) (poCC t) = o1 at *
  generalize po3o (poA R) (poB far T) (poCC t) (poSS t) = o2 at *
  generalize po3o (poA R) (poB far T) (poSC t) (-poSC t) = o3 at *
  generalize poO R far T = o0 at *
  generalize poSS t = ss at *
  generalize poCC t = cc at *
  generalize poSC t = sc at *
  generalize poA R = A at *
  generalize poB far T = B at *
  generalize sinT t = s at *
  generalize cosT t = co at *
  generalize plX t far = X at *
  generalize plY t far = Y at *
  refine Call.ofC Tryd.func18 YtjdnmejohadlbaaDoor.b18 YtjdnmejohadlbaaDoor.d18 YtjdnmejohadlbaaDoor.e18 (by simp [Tryd.f18]) ?_
  dsimp only [YtjdnmejohadlbaaDoor.c18, Tryd.f18, Option.getD_some]
  simp (maxSteps := 2000000) only [wk0, wk1, wk2, wk3, wk4, keepA, keepT, Fr.keep, frzT, flatT, arrayAtA, ownT, extT, Fr.ev, Fr.put, Fr.get, initFr, buildSliceA, zeros, pkB, pkT, pkF, ownDst, Env.kd, ofConst, isConst, binA, intI, cmpI, shiftI, convertA, buildA, fillA, fillS, splice, AV.cells?, storeA, readAt, fieldAddrA, fieldA, indexA, extractA, unA, builtinA, appendA, lenA, sliceCells, isSliceK, makeInterfaceA, nilCheckA, eqA, AV.one, AV.plain, if_false, if_true, Nat.reduceEqDiff, reduceIte, Nat.reduceAdd, List.replicate, Nat.reduceLeDiff, Nat.reduceMul, Nat.reduceSub, Nat.reducePow, Int.reduceLT, Int.reduceLE, Int.reduceToNat, Int.reducePow, IntKind.bits, Int.reduceEq, Int.reduceMul, Int.reduceNeg, ne_eq, reduceCtorEq, escT, BEq.rfl, beq_self_eq_true, Int.reduceAdd, Int.reduceSub, Int.reduceMod, Int.reduceDiv, Nat.reduceMod, Nat.reduceDiv, Nat.reduceLT, cond_true, cond_false, gt_iff_lt, ge_iff_le, w1, ht, w2, wn, gor, YtjdnmejohadlbaaDoor.D18, ty1, ty2, ty3, ty4, ty23, ty24, ty26, ty42, ty95]
  repeat
    first
    | refine callThen_of (pl _) ?_
    | refine callThen_of (sp _) ?_
    | refine callThen_of (bo _) ?_
    | refine callThen_of (d1 _) ?_
    | refine callThen_of (d2 _) ?_
    | refine callThen_of (d3 _) ?_
    | refine callThen_of (e1 _) ?_
    | refine callThen_of (e2 _) ?_
    | refine callThen_of (e3 _) ?_
    simp (maxSteps := 2000000) only [wk0, wk1, wk2, wk3, wk4, keepA, keepT, Fr.keep, frzT, flatT, arrayAtA, ownT, extT, Fr.ev, Fr.put, Fr.get, initFr, buildSliceA, zeros, pkB, pkT, pkF, ownDst, Env.kd, ofConst, isConst, binA, intI, cmpI, shiftI, convertA, buildA, fillA, fillS, splice, AV.cells?, storeA, readAt, fieldAddrA, fieldA, indexA, extractA, unA, builtinA, appendA, lenA, sliceCells, isSliceK, makeInterfaceA, nilCheckA, eqA, AV.one, AV.plain, if_false, if_true, Nat.reduceEqDiff, reduceIte, Nat.reduceAdd, List.replicate, Nat.reduceLeDiff, Nat.reduceMul, Nat.reduceSub, Nat.reducePow, Int.reduceLT, Int.reduceLE, Int.reduceToNat, Int.reducePow, IntKind.bits, Int.reduceEq, Int.reduceMul, Int.reduceNeg, ne_eq, reduceCtorEq, escT, BEq.rfl, beq_self_eq_true, Int.reduceAdd, Int.reduceSub, Int.reduceMod, Int.reduceDiv, Nat.reduceMod, Nat.reduceDiv, Nat.reduceLT, cond_true, cond_false, gt_iff_lt, ge_iff_le, w1, ht, w2, wn, gor, YtjdnmejohadlbaaDoor.D18, ty1, ty2, ty3, ty4, ty23, ty24, ty26, ty42, ty95]
  exact retB_plain (by simp [nmd_int, nmd_agg, nmd_bool]) rfl (by simp)
theorem sure10_ok (S : Heap) : Call theE 17 [] S (.bool true) S := by
  have o := fun S => polarOf_ok 52428800 1048576 1048576000 0 0 S (by decide) (by decide) (by decide)
  have s := fun S => polarSpread_ok 52428800 1048576 1048576000 S (by decide) (by decide)
  have q : (1048575996 ≤ plY (65536 * 0) 1048576000 ∧ plY (65536 * 0) 1048576000 ≤ 1048576004) ∧ (-4 ≤ plX (65536 * 0) 1048576000 ∧ plX (65536 * 0) 1048576000 ≤ 4) ∧ poA 52428800 = 2621440000 ∧ (0 < poB 1048576000 1048576 ∧ poB 1048576000 1048576 ≤ 1000000000000) ∧
      poOv 52428800 1048576 1048576000 (65536 * 0) = false ∧ 2621431808 ≤ poYY 52428800 1048576 1048576000 (65536 * 0) ∧ poXX 52428800 1048576 1048576000 (65536 * 0) ≤ poB 1048576000 1048576 + 8192 := by decide +kernel
  obtain ⟨⟨q1, q2⟩, ⟨q3, q4⟩, q5, ⟨q6, q6'⟩, q7, q8, q9⟩ := q
  rw [q7] at o
  rw [q5] at s
  generalize plY (65536 * 0) 1048576000 = Y at *
  generalize plX (65536 * 0) 1048576000 = X at *
  generalize poYY 52428800 1048576 1048576000 (65536 * 0) = yy at *
  generalize poXX 52428800 1048576 1048576000 (65536 * 0) = xx at *
  generalize poXY 52428800 1048576 1048576000 (65536 * 0) = xy at *
  generalize poB 1048576000 1048576 = B at *
  have w1 : IntKind.i64.wrap 2621431808 = 2621431808 := by decide
  have w2 : IntKind.i64.wrap (B + 8192) = B + 8192 := wrapI (by omega)
  refine Call.ofC Tryd.func17 YtjdnmejohadlbaaDoor.b17 YtjdnmejohadlbaaDoor.d17 YtjdnmejohadlbaaDoor.e17 (by simp [Tryd.f17]) ?_
  dsimp only [YtjdnmejohadlbaaDoor.c17, Tryd.f17, Option.getD_some]
  simp (maxSteps := 2000000) only [wk0, wk1, wk2, wk3, wk4, keepA, keepT, Fr.keep, frzT, flatT, arrayAtA, ownT, extT, Fr.ev, Fr.put, Fr.get, initFr, buildSliceA, zeros, pkB, pkT, pkF, ownDst, Env.kd, ofConst, isConst, binA, intI, cmpI, shiftI, convertA, buildA, fillA, fillS, splice, AV.cells?, storeA, readAt, fieldAddrA, fieldA, indexA, extractA, unA, builtinA, appendA, lenA, sliceCells, isSliceK, makeInterfaceA, nilCheckA, eqA, AV.one, AV.plain, if_false, if_true, Nat.reduceEqDiff, reduceIte, Nat.reduceAdd, List.replicate, Nat.reduceLeDiff, Nat.reduceMul, Nat.reduceSub, Nat.reducePow, Int.reduceLT, Int.reduceLE, Int.reduceToNat, Int.reducePow, IntKind.bits, Int.reduceEq, Int.reduceMul, Int.reduceNeg, ne_eq, reduceCtorEq, escT, BEq.rfl, beq_self_eq_true, Int.reduceAdd, Int.reduceSub, Int.reduceMod, Int.reduceDiv, Nat.reduceMod, Nat.reduceDiv, Nat.reduceLT, cond_true, cond_false, gt_iff_lt, ge_iff_le, q1, q2, q3, q4, q6, q8, q9, w1, w2, decide_true, Bool.not_false, YtjdnmejohadlbaaDoor.D17, ty1, ty2, ty3, ty4, ty28, ty30, ty33, ty34]
  refine callThen_of (o _) ?_
  simp (maxSteps := 2000000) only [wk0, wk1, wk2, wk3, wk4, keepA, keepT, Fr.keep, frzT, flatT, arrayAtA, ownT, extT, Fr.ev, Fr.put, Fr.get, initFr, buildSliceA, zeros, pkB, pkT, pkF, ownDst, Env.kd, ofConst, isConst, binA, intI, cmpI, shiftI, convertA, buildA, fillA, fillS, splice, AV.cells?, storeA, readAt, fieldAddrA, fieldA, indexA, extractA, unA, builtinA, appendA, lenA, sliceCells, isSliceK, makeInterfaceA, nilCheckA, eqA, AV.one, AV.plain, if_false, if_true, Nat.reduceEqDiff, reduceIte, Nat.reduceAdd, List.replicate, Nat.reduceLeDiff, Nat.reduceMul, Nat.reduceSub, Nat.reducePow, Int.reduceLT, Int.reduceLE, Int.reduceToNat, Int.reducePow, IntKind.bits, Int.reduceEq, Int.reduceMul, Int.reduceNeg, ne_eq, reduceCtorEq, escT, BEq.rfl, beq_self_eq_true, Int.reduceAdd, Int.reduceSub, Int.reduceMod, Int.reduceDiv, Nat.reduceMod, Nat.reduceDiv, Nat.reduceLT, cond_true, cond_false, gt_iff_lt, ge_iff_le, q1, q2, q3, q4, q6, q8, q9, w1, w2, decide_true, Bool.not_false, YtjdnmejohadlbaaDoor.D17, ty1, ty2, ty3, ty4, ty28, ty30, ty33, ty34]
  refine callThen_of (s _) ?_
  simp (maxSteps := 2000000) only [wk0, wk1, wk2, wk3, wk4, keepA, keepT, Fr.keep, frzT, flatT, arrayAtA, ownT, extT, Fr.ev, Fr.put, Fr.get, initFr, buildSliceA, zeros, pkB, pkT, pkF, ownDst, Env.kd, ofConst, isConst, binA, intI, cmpI, shiftI, convertA, buildA, fillA, fillS, splice, AV.cells?, storeA, readAt, fieldAddrA, fieldA, indexA, extractA, unA, builtinA, appendA, lenA, sliceCells, isSliceK, makeInterfaceA, nilCheckA, eqA, AV.one, AV.plain, if_false, if_true, Nat.reduceEqDiff, reduceIte, Nat.reduceAdd, List.replicate, Nat.reduceLeDiff, Nat.reduceMul, Nat.reduceSub, Nat.reducePow, Int.reduceLT, Int.reduceLE, Int.reduceToNat, Int.reducePow, IntKind.bits, Int.reduceEq, Int.reduceMul, Int.reduceNeg, ne_eq, reduceCtorEq, escT, BEq.rfl, beq_self_eq_true, Int.reduceAdd, Int.reduceSub, Int.reduceMod, Int.reduceDiv, Nat.reduceMod, Nat.reduceDiv, Nat.reduceLT, cond_true, cond_false, gt_iff_lt, ge_iff_le, q1, q2, q3, q4, q6, q8, q9, w1, w2, decide_true, Bool.not_false, YtjdnmejohadlbaaDoor.D17, ty1, ty2, ty3, ty4, ty28, ty30, ty33, ty34]
  exact retB_plain (by simp [nmd_bool]) rfl (by simp)
theorem polarOfLaw_ok (x0 x1 : List AV) (S : Heap) (d0 : DatL [.int .i64, .int .i64] x0) (d1 : DatL [.int .i64, .int .u16, .int .i64] x1) : Call theE 3 [.agg x0, .agg x1] S (.bool true) S := by
  obtain ⟨a1, r1, rfl, h1, d0⟩ := d0.inv
  obtain ⟨a2, r2, rfl, h2, d0⟩ := d0.inv
  obtain rfl := d0.inv0
  obtain ⟨a3, r3, rfl, h3, d1⟩ := d1.inv
  obtain ⟨a4, r4, rfl, h4, d1⟩ := d1.inv
  obtain ⟨a5, r5, rfl, h5, d1⟩ := d1.inv
  obtain rfl := d1.inv0
  obtain ⟨R, rfl, hR⟩ := h1.i64
  obtain ⟨T, rfl, hT⟩ := h2.i64
  obtain ⟨far, rfl, hfar⟩ := h3.i64
  obtain ⟨z, rfl, hz0⟩ := h4.intW
  obtain ⟨tm, rfl, htm⟩ := h5.i64
  have hz : 0 ≤ z ∧ z < 65536 := by
    simp [Lit.wf, IntKind.min, IntKind.max, IntKind.signed, IntKind.bits] at hz0
    omega
  have su := fun S => sure10_ok S
  have nu := fun S => num15_given 1 S
  have ma := fun S => refMay10_ok R T S
  have ii := fun S => refIn10_ok far S
  by_cases h : mayS R T
  · have ck := fun S => polarCheck_ok R T S h
    rw [decide_eq_true h] at ma
    by_cases hf : 0 ≤ far ∧ far ≤ 1099511627776
    · have o := fun S => polarOf_ok R T far z tm S h hf hz
      have s := fun S => polarSpread_ok R T far S h hf
      have ro := fun S => refOf10_ok R T far z tm S h hf hz
      have rs := fun S => refSpread_ok R T far S hR hT hfar
      rw [decide_eq_true hf] at ii
      generalize plY (65536 * z) far = Y at *
      generalize plX (65536 * z) far = X at *
      generalize poYY R T far (65536 * z) = yy at *
      generalize poXX R T far (65536 * z) = xx at *
      generalize poXY R T far (65536 * z) = xy at *
      generalize poOv R T far (65536 * z) = ov at *
      generalize poA R = A at *
      generalize poB far T = B at *
      generalize poO R far T = o0 at *
      refine Call.ofC Tryd.func3 YtjdnmejohadlbaaDoor.b3 YtjdnmejohadlbaaDoor.d3 YtjdnmejohadlbaaDoor.e3 (by simp [Tryd.f3]) ?_
      dsimp only [YtjdnmejohadlbaaDoor.c3, Tryd.f3, Option.getD_some]
      simp (maxSteps := 2000000) only [wk0, wk1, wk2, wk3, wk4, keepA, keepT, Fr.keep, frzT, flatT, arrayAtA, ownT, extT, Fr.ev, Fr.put, Fr.get, initFr, buildSliceA, zeros, pkB, pkT, pkF, ownDst, Env.kd, ofConst, isConst, binA, intI, cmpI, shiftI, convertA, buildA, fillA, fillS, splice, AV.cells?, storeA, readAt, fieldAddrA, fieldA, indexA, extractA, unA, builtinA, appendA, lenA, sliceCells, isSliceK, makeInterfaceA, nilCheckA, eqA, AV.one, AV.plain, if_false, if_true, Nat.reduceEqDiff, reduceIte, Nat.reduceAdd, List.replicate, Nat.reduceLeDiff, Nat.reduceMul, Nat.reduceSub, Nat.reducePow, Int.reduceLT, Int.reduceLE, Int.reduceToNat, Int.reducePow, IntKind.bits, Int.reduceEq, Int.reduceMul, Int.reduceNeg, ne_eq, reduceCtorEq, escT, BEq.rfl, beq_self_eq_true, Int.reduceAdd, Int.reduceSub, Int.reduceMod, Int.reduceDiv, Nat.reduceMod, Nat.reduceDiv, Nat.reduceLT, cond_true, cond_false, gt_iff_lt, ge_iff_le, decide_true, decide_false, Bool.not_true, Bool.not_false, allI_cons, allI_nil, Bool.and_self, bneI, List.length_cons, List.length_nil, YtjdnmejohadlbaaDoor.D3, keep3, ty2, ty3, ty4, ty23, ty26, ty28, ty30, ty33, ty34, ty42]
      repeat
        first
        | refine callThen_of (o _) ?_
        | refine callThen_of (s _) ?_
        | refine callThen_of (ma _) ?_
        | refine callThen_of (ck _) ?_
        | refine callThen_of (ii _) ?_
        | refine callThen_of (ro _) ?_
        | refine callThen_of (rs _) ?_
        | refine callThen_of (su _) ?_
        simp (maxSteps := 2000000) only [wk0, wk1, wk2, wk3, wk4, keepA, keepT, Fr.keep, frzT, flatT, arrayAtA, ownT, extT, Fr.ev, Fr.put, Fr.get, initFr, buildSliceA, zeros, pkB, pkT, pkF, ownDst, Env.kd, ofConst, isConst, binA, intI, cmpI, shiftI, convertA, buildA, fillA, fillS, splice, AV.cells?, storeA, readAt, fieldAddrA, fieldA, indexA, extractA, unA, builtinA, appendA, lenA, sliceCells, isSliceK, makeInterfaceA, nilCheckA, eqA, AV.one, AV.plain, if_false, if_true, Nat.reduceEqDiff, reduceIte, Nat.reduceAdd, List.replicate, Nat.reduceLeDiff, Nat.reduceMul, Nat.reduceSub, Nat.reducePow, Int.reduceLT, Int.reduceLE, Int.reduceToNat, Int.reducePow, IntKind.bits, Int.reduceEq, Int.reduceMul, Int.reduceNeg, ne_eq, reduceCtorEq, escT, BEq.rfl, beq_self_eq_true, Int.reduceAdd, Int.reduceSub, Int.reduceMod, Int.reduceDiv, Nat.reduceMod, Nat.reduceDiv, Nat.reduceLT, cond_true, cond_false, gt_iff_lt, ge_iff_le, decide_true, decide_false, Bool.not_true, Bool.not_false, allI_cons, allI_nil, Bool.and_self, bneI, List.length_cons, List.length_nil, YtjdnmejohadlbaaDoor.D3, keep3, ty2, ty3, ty4, ty23, ty26, ty28, ty30, ty33, ty34, ty42]
      exact retB_plain (by simp [nmd_bool]) rfl (by simp)
    · have o := fun S => polarOf_bad R T far z tm S (fun h => hf h.2)
      have s := fun S => polarSpread_bad R T far S (fun h => hf h.2)
      simp only [errA] at o s
      rw [decide_eq_false hf] at ii
      refine Call.ofC Tryd.func3 YtjdnmejohadlbaaDoor.b3 YtjdnmejohadlbaaDoor.d3 YtjdnmejohadlbaaDoor.e3 (by simp [Tryd.f3]) ?_
      dsimp only [YtjdnmejohadlbaaDoor.c3, Tryd.f3, Option.getD_some]
      simp (maxSteps := 2000000) only [wk0, wk1, wk2, wk3, wk4, keepA, keepT, Fr.keep, frzT, flatT, arrayAtA, ownT, extT, Fr.ev, Fr.put, Fr.get, initFr, buildSliceA, zeros, pkB, pkT, pkF, ownDst, Env.kd, ofConst, isConst, binA, intI, cmpI, shiftI, convertA, buildA, fillA, fillS, splice, AV.cells?, storeA, readAt, fieldAddrA, fieldA, indexA, extractA, unA, builtinA, appendA, lenA, sliceCells, isSliceK, makeInterfaceA, nilCheckA, eqA, AV.one, AV.plain, if_false, if_true, Nat.reduceEqDiff, reduceIte, Nat.reduceAdd, List.replicate, Nat.reduceLeDiff, Nat.reduceMul, Nat.reduceSub, Nat.reducePow, Int.reduceLT, Int.reduceLE, Int.reduceToNat, Int.reducePow, IntKind.bits, Int.reduceEq, Int.reduceMul, Int.reduceNeg, ne_eq, reduceCtorEq, escT, BEq.rfl, beq_self_eq_true, Int.reduceAdd, Int.reduceSub, Int.reduceMod, Int.reduceDiv, Nat.reduceMod, Nat.reduceDiv, Nat.reduceLT, cond_true, cond_false, gt_iff_lt, ge_iff_le, decide_true, decide_false, Bool.not_true, Bool.not_false, allI_cons, allI_nil, Bool.and_self, bneI, List.length_cons, List.length_nil, YtjdnmejohadlbaaDoor.D3, keep3, ty2, ty3, ty4, ty23, ty26, ty28, ty30, ty33, ty34, ty42]
      repeat
        first
        | refine callThen_of (o _) ?_
        | refine callThen_of (s _) ?_
        | refine callThen_of (ma _) ?_
        | refine callThen_of (ck _) ?_
        | refine callThen_of (ii _) ?_
        | refine callThen_of (nu _) ?_
        | refine callThen_of (su _) ?_
        simp (maxSteps := 2000000) only [wk0, wk1, wk2, wk3, wk4, keepA, keepT, Fr.keep, frzT, flatT, arrayAtA, ownT, extT, Fr.ev, Fr.put, Fr.get, initFr, buildSliceA, zeros, pkB, pkT, pkF, ownDst, Env.kd, ofConst, isConst, binA, intI, cmpI, shiftI, convertA, buildA, fillA, fillS, splice, AV.cells?, storeA, readAt, fieldAddrA, fieldA, indexA, extractA, unA, builtinA, appendA, lenA, sliceCells, isSliceK, makeInterfaceA, nilCheckA, eqA, AV.one, AV.plain, if_false, if_true, Nat.reduceEqDiff, reduceIte, Nat.reduceAdd, List.replicate, Nat.reduceLeDiff, Nat.reduceMul, Nat.reduceSub, Nat.reducePow, Int.reduceLT, Int.reduceLE, Int.reduceToNat, Int.reducePow, IntKind.bits, Int.reduceEq, Int.reduceMul, Int.reduceNeg, ne_eq, reduceCtorEq, escT, BEq.rfl, beq_self_eq_true, Int.reduceAdd, Int.reduceSub, Int.reduceMod, Int.reduceDiv, Nat.reduceMod, Nat.reduceDiv, Nat.reduceLT, cond_true, cond_false, gt_iff_lt, ge_iff_le, decide_true, decide_false, Bool.not_true, Bool.not_false, allI_cons, allI_nil, Bool.and_self, bneI, List.length_cons, List.length_nil, YtjdnmejohadlbaaDoor.D3, keep3, ty2, ty3, ty4, ty23, ty26, ty28, ty30, ty33, ty34, ty42]
      exact retB_plain (by simp [nmd_bool]) rfl (by simp)
  · have ck := fun S => polarCheck_bad R T S h
    have o := fun S => polarOf_bad R T far z tm S (fun h' => h h'.1)
    have s := fun S => polarSpread_bad R T far S (fun h' => h h'.1)
    simp only [errA] at o s ck
    rw [decide_eq_false h] at ma
    refine Call.ofC Tryd.func3 YtjdnmejohadlbaaDoor.b3 YtjdnmejohadlbaaDoor.d3 YtjdnmejohadlbaaDoor.e3 (by simp [Tryd.f3]) ?_
    dsimp only [YtjdnmejohadlbaaDoor.c3, Tryd.f3, Option.getD_some]
    simp (maxSteps := 2000000) only [wk0, wk1, wk2, wk3, wk4, keepA, keepT, Fr.keep, frzT, flatT, arrayAtA, ownT, extT, Fr.ev, Fr.put, Fr.get, initFr, buildSliceA, zeros, pkB, pkT, pkF, ownDst, Env.kd, ofConst, isConst, binA, intI, cmpI, shiftI, convertA, buildA, fillA, fillS, splice, AV.cells?, storeA, readAt, fieldAddrA, fieldA, indexA, extractA, unA, builtinA, appendA, lenA, sliceCells, isSliceK, makeInterfaceA, nilCheckA, eqA, AV.one, AV.plain, if_false, if_true, Nat.reduceEqDiff, reduceIte, Nat.reduceAdd, List.replicate, Nat.reduceLeDiff, Nat.reduceMul, Nat.reduceSub, Nat.reducePow, Int.reduceLT, Int.reduceLE, Int.reduceToNat, Int.reducePow, IntKind.bits, Int.reduceEq, Int.reduceMul, Int.reduceNeg, ne_eq, reduceCtorEq, escT, BEq.rfl, beq_self_eq_true, Int.reduceAdd, Int.reduceSub, Int.reduceMod, Int.reduceDiv, Nat.reduceMod, Nat.reduceDiv, Nat.reduceLT, cond_true, cond_false, gt_iff_lt, ge_iff_le, decide_true, decide_false, Bool.not_true, Bool.not_false, allI_cons, allI_nil, Bool.and_self, bneI, List.length_cons, List.length_nil, YtjdnmejohadlbaaDoor.D3, keep3, ty2, ty3, ty4, ty23, ty26, ty28, ty30, ty33, ty34, ty42]
    repeat
      first
      | refine callThen_of (o _) ?_
      | refine callThen_of (s _) ?_
      | refine callThen_of (ma _) ?_
      | refine callThen_of (ck _) ?_
      | refine callThen_of (nu _) ?_
      | refine callThen_of (su _) ?_
      simp (maxSteps := 2000000) only [wk0, wk1, wk2, wk3, wk4, keepA, keepT, Fr.keep, frzT, flatT, arrayAtA, ownT, extT, Fr.ev, Fr.put, Fr.get, initFr, buildSliceA, zeros, pkB, pkT, pkF, ownDst, Env.kd, ofConst, isConst, binA, intI, cmpI, shiftI, convertA, buildA, fillA, fillS, splice, AV.cells?, storeA, readAt, fieldAddrA, fieldA, indexA, extractA, unA, builtinA, appendA, lenA, sliceCells, isSliceK, makeInterfaceA, nilCheckA, eqA, AV.one, AV.plain, if_false, if_true, Nat.reduceEqDiff, reduceIte, Nat.reduceAdd, List.replicate, Nat.reduceLeDiff, Nat.reduceMul, Nat.reduceSub, Nat.reducePow, Int.reduceLT, Int.reduceLE, Int.reduceToNat, Int.reducePow, IntKind.bits, Int.reduceEq, Int.reduceMul, Int.reduceNeg, ne_eq, reduceCtorEq, escT, BEq.rfl, beq_self_eq_true, Int.reduceAdd, Int.reduceSub, Int.reduceMod, Int.reduceDiv, Nat.reduceMod, Nat.reduceDiv, Nat.reduceLT, cond_true, cond_false, gt_iff_lt, ge_iff_le, decide_true, decide_false, Bool.not_true, Bool.not_false, allI_cons, allI_nil, Bool.and_self, bneI, List.length_cons, List.length_nil, YtjdnmejohadlbaaDoor.D3, keep3, ty2, ty3, ty4, ty23, ty26, ty28, ty30, ty33, ty34, ty42]
    exact retB_plain (by simp [nmd_bool]) rfl (by simp)
end Go.Proofs.YtjdnmejohadlbaaDoor
