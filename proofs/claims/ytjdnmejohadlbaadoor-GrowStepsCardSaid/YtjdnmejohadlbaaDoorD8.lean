/- Decimals: powers of two, quotients cut down, rounded, halved. -/
import Derived.Test.YtjdnmejohadlbaaDoorD7
set_option linter.unusedSimpArgs false
set_option linter.unusedVariables false
set_option maxRecDepth 100000
set_option maxHeartbeats 4000000
namespace Go.Proofs.YtjdnmejohadlbaaDoor
theorem lenD_pow (k : Nat) : lenD ((2 : Int) ^ k).natAbs ≤ k + 1 := by
  rw [Int.natAbs_pow]
  refine (lenD_le _ _).2 ?_
  have h1 : (2 : Int).natAbs ^ k ≤ 10 ^ k := Nat.pow_le_pow_left (by decide) k
  have h2 : 10 ^ (k + 1) = 10 ^ k * 10 := Nat.pow_succ ..
  have h3 : 0 < 10 ^ k := Nat.pow_pos (by decide)
  omega
theorem lenD_lit {n k : Nat} (h : n < 10 ^ k) {m : Nat} (hm : k ≤ m) : lenD n ≤ m := Nat.le_trans ((lenD_le _ _).2 h) hm
theorem mul_le_neg {x d : Int} (hx : x ≤ 0) (hd : 1 ≤ d) : x * d ≤ x := by
  have h := Int.mul_le_mul_of_nonneg_right hd (show 0 ≤ -x by omega)
  rw [Int.mul_neg, Int.mul_neg, Int.one_mul, Int.mul_comm d] at h
  omega
noncomputable def c117 : Code := Tryd.f117.body.getD .skip
theorem b117 : Tryd.f117.body = some c117 := rfl
theorem d117 : fnOk Tryd.f117 c117 = true := by kernel_rfl
def D117 : Nat → List Tag
  | 5 => [.quiet, .quiet, .seq, .seq]
  | _ => []
theorem e117 : drawsOk D117 c117 = true := by kernel_rfl
noncomputable def c104 : Code := Tryd.f104.body.getD .skip
theorem b104 : Tryd.f104.body = some c104 := rfl
theorem d104 : fnOk Tryd.f104 c104 = true := by kernel_rfl
def D104 : Nat → List Tag := fun _ => []
theorem e104 : drawsOk D104 c104 = true := by kernel_rfl
noncomputable def c121 : Code := Tryd.f121.body.getD .skip
theorem b121 : Tryd.f121.body = some c121 := rfl
theorem d121 : fnOk Tryd.f121 c121 = true := by kernel_rfl
def D121 : Nat → List Tag
  | 2 => [.quiet, .quiet, .quiet, .quiet, .seq, .pure]
  | 3 => [.quiet, .quiet, .quiet, .pure, .pure, .pure, .twin, .twin, .seq, .seq]
  | 5 => [.quiet, .quiet, .seq, .seq]
  | _ => []
theorem e121 : drawsOk D121 c121 = true := by kernel_rfl
noncomputable def c152 : Code := Tryd.f152.body.getD .skip
theorem b152 : Tryd.f152.body = some c152 := rfl
theorem d152 : fnOk Tryd.f152 c152 = true := by kernel_rfl
def D152 : Nat → List Tag
  | 1 => [.quiet, .pure, .quiet, .seq, .seq, .pure, .pure, .pure, .pure]
  | _ => []
theorem e152 : drawsOk D152 c152 = true := by kernel_rfl
theorem decTwo_ok (n : Nat) (S : Heap) (hn : n ≤ 1000) : Call theE 117 [.int .i64 n] S (decA (2 ^ n)) S := by
  have o1 := fun S => decOf_ok 1 S (by unfold inI; omega)
  have o2 := fun S => decOf_ok 1073741824 S (by unfold inI; omega)
  have l2 : lenD (1073741824 : Int).natAbs ≤ 30000 := lenD_lit (k := 20) (by decide) (by omega)
  have mu := fun (z : Int) (h : lenD z.natAbs ≤ 30000) S => decMul_ok z 1073741824 S h l2
  have ad := fun (z : Int) (h : lenD z.natAbs ≤ 30000) S => decAdd_ok z z S (by omega) (by omega)
  simp only [decA, lstI, digs_len] at o1 o2 mu ad ⊢
  refine Call.ofC Tryd.func117 YtjdnmejohadlbaaDoor.b117 YtjdnmejohadlbaaDoor.d117 YtjdnmejohadlbaaDoor.e117 (by simp [Tryd.f117]) ?_
  dsimp only [YtjdnmejohadlbaaDoor.c117, Tryd.f117, Option.getD_some]
  iterate 2
    simp (maxSteps := 2000000) only [wk0, wk1, wk2, wk3, wk4, keepA, keepT, Fr.keep, frzT, flatT, arrayAtA, ownT, extT, Fr.ev, Fr.put, Fr.get, initFr, buildSliceA, zeros, pkB, pkT, pkF, ownDst, Env.kd, ofConst, isConst, binA, intI, cmpI, shiftI, convertA, buildA, fillA, fillS, splice, AV.cells?, storeA, readAt, fieldAddrA, fieldA, indexA, extractA, unA, builtinA, appendA, lenA, sliceCells, isSliceK, makeInterfaceA, nilCheckA, eqA, AV.one, AV.plain, if_false, if_true, Nat.reduceEqDiff, reduceIte, Nat.reduceAdd, List.replicate, Nat.reduceLeDiff, Nat.reduceMul, Nat.reduceSub, Nat.reducePow, Int.reduceLT, Int.reduceLE, Int.reduceToNat, Int.reducePow, IntKind.bits, Int.reduceEq, Int.reduceMul, Int.reduceNeg, ne_eq, reduceCtorEq, escT, BEq.rfl, beq_self_eq_true, Int.reduceAdd, Int.reduceSub, Int.reduceMod, Int.reduceDiv, Nat.reduceMod, Nat.reduceDiv, Nat.reduceLT, cond_true, cond_false, gt_iff_lt, ge_iff_le, YtjdnmejohadlbaaDoor.D117, ty2, ty3, ty4, ty149]
    try first
      | refine callThen_of (o1 _) ?_
  refine loopC_ind (fun m fr H => ∃ j : Nat, 30 * j + m = n ∧ fr.get 0 = .int .i64 n ∧ fr.get 2 = .ptr S.length 0 0 ∧ fr.get 3 = .ptr (S.length + 1) 0 0 ∧ fr.get 4 = .int .i64 ((30 * j : Nat) : Int) ∧
    H = S ++ [some ⟨[.bool false, .nils], 0⟩, some ⟨[.bool (decide ((2 : Int) ^ (30 * j) < 0)), .lst ((digs ((2 : Int) ^ (30 * j)).natAbs).map fun x => .int .i64 x) (lenD ((2 : Int) ^ (30 * j)).natAbs)], 0⟩]) ?_ (n := n) ⟨0, by omega, rfl, rfl, rfl, rfl, rfl⟩
  rintro m fr H ⟨j, hjm, g0, g2, g3, g4, rfl⟩ ih
  have w1 : IntKind.i64.wrap (((30 * j : Nat) : Int) + 30) = ((30 * (j + 1) : Nat) : Int) := by rw [wrapI (by omega)]; omega
  have lj := lenD_pow (30 * j)
  by_cases h1 : ((30 * (j + 1) : Nat) : Int) ≤ (n : Int)
  · have muj := mu ((2 : Int) ^ (30 * j)) (by omega)
    have e : (2 : Int) ^ (30 * j) * 1073741824 = 2 ^ (30 * (j + 1)) := by rw [show 30 * (j + 1) = 30 * j + 30 by omega, Int.pow_add]; rfl
    rw [e] at muj
    iterate 3
      simp (maxSteps := 2000000) only [wk0, wk1, wk2, wk3, wk4, keepA, keepT, Fr.keep, frzT, flatT, arrayAtA, ownT, extT, Fr.ev, Fr.put, Fr.get, initFr, buildSliceA, zeros, pkB, pkT, pkF, ownDst, Env.kd, ofConst, isConst, binA, intI, cmpI, shiftI, convertA, buildA, fillA, fillS, splice, AV.cells?, storeA, readAt, fieldAddrA, fieldA, indexA, extractA, unA, builtinA, appendA, lenA, sliceCells, isSliceK, makeInterfaceA, nilCheckA, eqA, AV.one, AV.plain, if_false, if_true, Nat.reduceEqDiff, reduceIte, Nat.reduceAdd, List.replicate, Nat.reduceLeDiff, Nat.reduceMul, Nat.reduceSub, Nat.reducePow, Int.reduceLT, Int.reduceLE, Int.reduceToNat, Int.reducePow, IntKind.bits, Int.reduceEq, Int.reduceMul, Int.reduceNeg, ne_eq, reduceCtorEq, escT, BEq.rfl, beq_self_eq_true, Int.reduceAdd, Int.reduceSub, Int.reduceMod, Int.reduceDiv, Nat.reduceMod, Nat.reduceDiv, Nat.reduceLT, cond_true, cond_false, gt_iff_lt, ge_iff_le, g0, g2, g3, g4, w1, h1, YtjdnmejohadlbaaDoor.D117, ty2, ty3, ty4, ty149]
      try first
        | refine callThen_of (o2 _) ?_
        | refine callThen_of (muj _) ?_
    exact ih (m - 30) _ _ (by omega) ⟨j + 1, by omega, by simp [Fr.get, g0], by simp [Fr.get, g2], by simp [Fr.get, g3], by simp [Fr.get], rfl⟩
  · have e30 : Int.tmod (n : Int) 30 = ((n - 30 * j : Nat) : Int) := by rw [Int.tmod_eq_emod_of_nonneg (by omega)]; omega
    simp (maxSteps := 2000000) only [wk0, wk1, wk2, wk3, wk4, keepA, keepT, Fr.keep, frzT, flatT, arrayAtA, ownT, extT, Fr.ev, Fr.put, Fr.get, initFr, buildSliceA, zeros, pkB, pkT, pkF, ownDst, Env.kd, ofConst, isConst, binA, intI, cmpI, shiftI, convertA, buildA, fillA, fillS, splice, AV.cells?, storeA, readAt, fieldAddrA, fieldA, indexA, extractA, unA, builtinA, appendA, lenA, sliceCells, isSliceK, makeInterfaceA, nilCheckA, eqA, AV.one, AV.plain, if_false, if_true, Nat.reduceEqDiff, reduceIte, Nat.reduceAdd, List.replicate, Nat.reduceLeDiff, Nat.reduceMul, Nat.reduceSub, Nat.reducePow, Int.reduceLT, Int.reduceLE, Int.reduceToNat, Int.reducePow, IntKind.bits, Int.reduceEq, Int.reduceMul, Int.reduceNeg, ne_eq, reduceCtorEq, escT, BEq.rfl, beq_self_eq_true, Int.reduceAdd, Int.reduceSub, Int.reduceMod, Int.reduceDiv, Nat.reduceMod, Nat.reduceDiv, Nat.reduceLT, cond_true, cond_false, gt_iff_lt, ge_iff_le, g0, g2, g3, g4, w1, h1, YtjdnmejohadlbaaDoor.D117, ty2, ty3, ty4, ty149]
    refine loopC_ind (fun m fr H => ∃ i : Nat, i + m = n - 30 * j ∧ fr.get 0 = .int .i64 n ∧ fr.get 2 = .ptr S.length 0 0 ∧ fr.get 3 = .ptr (S.length + 1) 0 0 ∧ fr.get 5 = .int .i64 (i : Int) ∧
      H = S ++ [some ⟨[.bool false, .nils], 0⟩, some ⟨[.bool (decide ((2 : Int) ^ (30 * j + i) < 0)), .lst ((digs ((2 : Int) ^ (30 * j + i)).natAbs).map fun x => .int .i64 x) (lenD ((2 : Int) ^ (30 * j + i)).natAbs)], 0⟩]) ?_ (n := n - 30 * j) ⟨0, by omega, by simp [Fr.get, g0], by simp [Fr.get, g2], by simp [Fr.get, g3], by simp [Fr.get], rfl⟩
    rintro m' fr H ⟨i, him, g0, g2, g3, g5, rfl⟩ ih'
    have wi : IntKind.i64.wrap ((i : Int) + 1) = ((i + 1 : Nat) : Int) := wrapI (by omega)
    have li := lenD_pow (30 * j + i)
    by_cases h2 : (i : Int) < ((n - 30 * j : Nat) : Int)
    · have adi := ad ((2 : Int) ^ (30 * j + i)) (by omega)
      have e : (2 : Int) ^ (30 * j + i) + 2 ^ (30 * j + i) = 2 ^ (30 * j + (i + 1)) := by rw [← Nat.add_assoc, Int.pow_succ]; omega
      rw [e] at adi
      iterate 2
        simp (maxSteps := 2000000) only [wk0, wk1, wk2, wk3, wk4, keepA, keepT, Fr.keep, frzT, flatT, arrayAtA, ownT, extT, Fr.ev, Fr.put, Fr.get, initFr, buildSliceA, zeros, pkB, pkT, pkF, ownDst, Env.kd, ofConst, isConst, binA, intI, cmpI, shiftI, convertA, buildA, fillA, fillS, splice, AV.cells?, storeA, readAt, fieldAddrA, fieldA, indexA, extractA, unA, builtinA, appendA, lenA, sliceCells, isSliceK, makeInterfaceA, nilCheckA, eqA, AV.one, AV.plain, if_false, if_true, Nat.reduceEqDiff, reduceIte, Nat.reduceAdd, List.replicate, Nat.reduceLeDiff, Nat.reduceMul, Nat.reduceSub, Nat.reducePow, Int.reduceLT, Int.reduceLE, Int.reduceToNat, Int.reducePow, IntKind.bits, Int.reduceEq, Int.reduceMul, Int.reduceNeg, ne_eq, reduceCtorEq, escT, BEq.rfl, beq_self_eq_true, Int.reduceAdd, Int.reduceSub, Int.reduceMod, Int.reduceDiv, Nat.reduceMod, Nat.reduceDiv, Nat.reduceLT, cond_true, cond_false, gt_iff_lt, ge_iff_le, g0, g2, g3, g5, e30, h2, wi, YtjdnmejohadlbaaDoor.D117, ty2, ty3, ty4, ty149]
        try first
          | refine callThen_of (adi _) ?_
      exact ih' (m' - 1) _ _ (by omega) ⟨i + 1, by omega, by simp [Fr.get, g0], by simp [Fr.get, g2], by simp [Fr.get, g3], by simp [Fr.get], rfl⟩
    · have e : 30 * j + i = n := by omega
      rw [e]
      simp (maxSteps := 2000000) only [wk0, wk1, wk2, wk3, wk4, keepA, keepT, Fr.keep, frzT, flatT, arrayAtA, ownT, extT, Fr.ev, Fr.put, Fr.get, initFr, buildSliceA, zeros, pkB, pkT, pkF, ownDst, Env.kd, ofConst, isConst, binA, intI, cmpI, shiftI, convertA, buildA, fillA, fillS, splice, AV.cells?, storeA, readAt, fieldAddrA, fieldA, indexA, extractA, unA, builtinA, appendA, lenA, sliceCells, isSliceK, makeInterfaceA, nilCheckA, eqA, AV.one, AV.plain, if_false, if_true, Nat.reduceEqDiff, reduceIte, Nat.reduceAdd, List.replicate, Nat.reduceLeDiff, Nat.reduceMul, Nat.reduceSub, Nat.reducePow, Int.reduceLT, Int.reduceLE, Int.reduceToNat, Int.reducePow, IntKind.bits, Int.reduceEq, Int.reduceMul, Int.reduceNeg, ne_eq, reduceCtorEq, escT, BEq.rfl, beq_self_eq_true, Int.reduceAdd, Int.reduceSub, Int.reduceMod, Int.reduceDiv, Nat.reduceMod, Nat.reduceDiv, Nat.reduceLT, cond_true, cond_false, gt_iff_lt, ge_iff_le, g0, g2, g3, g5, e30, h2, YtjdnmejohadlbaaDoor.D117, ty2, ty3, ty4, ty149]
      exact retB_plain (by simp [nmd_agg, nmd_bool, nmd_lst]) rfl (by simp)
theorem decFloor_ok (x y : Int) (S : Heap) (hx : lenD x.natAbs ≤ 30000) (hy : lenD y.natAbs ≤ 30000) (h0 : y ≠ 0) : Call theE 104 [decA x, decA y] S (decA (x / y)) S := by
  have d := fun S => decDiv_ok x y S hx hy h0
  simp only [decA, lstI, digs_len] at d ⊢
  refine Call.ofC Tryd.func104 YtjdnmejohadlbaaDoor.b104 YtjdnmejohadlbaaDoor.d104 YtjdnmejohadlbaaDoor.e104 (by simp [Tryd.f104]) ?_
  dsimp only [YtjdnmejohadlbaaDoor.c104, Tryd.f104, Option.getD_some]
  iterate 2
    simp (maxSteps := 2000000) only [wk0, wk1, wk2, wk3, wk4, keepA, keepT, Fr.keep, frzT, flatT, arrayAtA, ownT, extT, Fr.ev, Fr.put, Fr.get, initFr, buildSliceA, zeros, pkB, pkT, pkF, ownDst, Env.kd, ofConst, isConst, binA, intI, cmpI, shiftI, convertA, buildA, fillA, fillS, splice, AV.cells?, storeA, readAt, fieldAddrA, fieldA, indexA, extractA, unA, builtinA, appendA, lenA, sliceCells, isSliceK, makeInterfaceA, nilCheckA, eqA, AV.one, AV.plain, if_false, if_true, Nat.reduceEqDiff, reduceIte, Nat.reduceAdd, List.replicate, Nat.reduceLeDiff, Nat.reduceMul, Nat.reduceSub, Nat.reducePow, Int.reduceLT, Int.reduceLE, Int.reduceToNat, Int.reducePow, IntKind.bits, Int.reduceEq, Int.reduceMul, Int.reduceNeg, ne_eq, reduceCtorEq, escT, BEq.rfl, beq_self_eq_true, Int.reduceAdd, Int.reduceSub, Int.reduceMod, Int.reduceDiv, Nat.reduceMod, Nat.reduceDiv, Nat.reduceLT, cond_true, cond_false, gt_iff_lt, ge_iff_le, YtjdnmejohadlbaaDoor.D104, ty149]
    try first
      | refine callThen_of (d _) ?_
  exact retB_plain (by simp [nmd_agg, nmd_bool, nmd_lst]) rfl (by simp)
theorem rnd_size (z p : Int) (hp : 0 < p) : (rnd z p).natAbs ≤ z.natAbs + 1 := by
  have h1 := Int.mul_ediv_add_emod z p
  have h2 := Int.emod_nonneg z (show p ≠ 0 by omega)
  have h3 := Int.emod_lt_of_pos z hp
  unfold rnd
  rcases Int.le_total 0 z with hz | hz
  · have h4 : z / p ≤ z := Int.ediv_le_self p hz
    have h5 : 0 ≤ z / p := Int.ediv_nonneg hz (by omega)
    split <;> omega
  · have h5 : z ≤ z / p := by
      rw [Int.le_ediv_iff_mul_le hp]
      exact mul_le_neg hz (by omega)
    have h6 : z / p ≤ 0 := by
      have := Int.ediv_le_ediv hp hz
      rwa [Int.zero_ediv] at this
    split <;> omega
theorem decRound_ok (x d : Int) (S : Heap) (hx : lenD x.natAbs ≤ 20000) (hd : lenD d.natAbs ≤ 20000) (h0 : 0 < d) : Call theE 121 [decA x, decA d] S (decA (rnd x d)) S := by
  have d1 := fun S => decDiv_ok x d S (by omega) (by omega) (by omega)
  have hr1 := Int.emod_nonneg x (show d ≠ 0 by omega)
  have hr2 := Int.emod_lt_of_pos x h0
  have hq : (x / d).natAbs ≤ x.natAbs + 1 := by
    have h1 := Int.mul_ediv_add_emod x d
    rcases Int.le_total 0 x with hz | hz
    · have h4 : x / d ≤ x := Int.ediv_le_self d hz
      have h5 : 0 ≤ x / d := Int.ediv_nonneg hz (by omega)
      omega
    · have h5 : x ≤ x / d := by
        rw [Int.le_ediv_iff_mul_le h0]
        exact mul_le_neg hz (by omega)
      have h6 : x / d ≤ 0 := by
        have := Int.ediv_le_ediv h0 hz
        rwa [Int.zero_ediv] at this
      omega
  have lq1 : lenD (x.natAbs + 1) ≤ 20001 := lenD_add hx (lenD_lit (k := 1) (by decide) (by omega))
  have lq : lenD (x / d).natAbs ≤ 20001 := lenD_mono hq lq1
  have lr : lenD (x % d).natAbs ≤ 20000 := lenD_mono (by omega) hd
  have l2 : lenD (2 : Int).natAbs ≤ 30000 := lenD_lit (k := 1) (by decide) (by omega)
  have l1 : lenD (1 : Int).natAbs ≤ 30000 := lenD_lit (k := 1) (by decide) (by omega)
  have lrr : lenD (x % d + x % d).natAbs ≤ 20001 := lenD_mono (show (x % d + x % d).natAbs ≤ (x % d).natAbs + (x % d).natAbs by omega) (lenD_add lr lr)
  have ad := fun S => decAdd_ok (x % d) (x % d) S (by omega) (by omega)
  have cm := fun S => decCmp_ok (x % d + x % d) d S (by omega) (by omega)
  have o2 := fun S => decOf_ok 2 S (by unfold inI; omega)
  have o1 := fun S => decOf_ok 1 S (by unfold inI; omega)
  have d2 := fun S => decDiv_ok (x / d) 2 S (by omega) l2 (by omega)
  have hodd := Int.emod_two_eq (x / d)
  have sg := fun S => decSign_ok (x / d % 2) S (by
    have := lenD_lit (n := (x / d % 2).natAbs) (k := 1) (m := 100000) (by omega) (by omega)
    exact this)
  have up := fun S => decAdd_ok (x / d) 1 S (by omega) (by omega)
  unfold rnd
  generalize x / d = q at *
  generalize x % d = r at *
  simp only [decA, lstI, digs_len] at d1 ad cm o2 o1 d2 sg up ⊢
  refine Call.ofC Tryd.func121 YtjdnmejohadlbaaDoor.b121 YtjdnmejohadlbaaDoor.d121 YtjdnmejohadlbaaDoor.e121 (by simp [Tryd.f121]) ?_
  dsimp only [YtjdnmejohadlbaaDoor.c121, Tryd.f121, Option.getD_some]
  iterate 6
    simp (maxSteps := 2000000) only [wk0, wk1, wk2, wk3, wk4, keepA, keepT, Fr.keep, frzT, flatT, arrayAtA, ownT, extT, Fr.ev, Fr.put, Fr.get, initFr, buildSliceA, zeros, pkB, pkT, pkF, ownDst, Env.kd, ofConst, isConst, binA, intI, cmpI, shiftI, convertA, buildA, fillA, fillS, splice, AV.cells?, storeA, readAt, fieldAddrA, fieldA, indexA, extractA, unA, builtinA, appendA, lenA, sliceCells, isSliceK, makeInterfaceA, nilCheckA, eqA, AV.one, AV.plain, if_false, if_true, Nat.reduceEqDiff, reduceIte, Nat.reduceAdd, List.replicate, Nat.reduceLeDiff, Nat.reduceMul, Nat.reduceSub, Nat.reducePow, Int.reduceLT, Int.reduceLE, Int.reduceToNat, Int.reducePow, IntKind.bits, Int.reduceEq, Int.reduceMul, Int.reduceNeg, ne_eq, reduceCtorEq, escT, BEq.rfl, beq_self_eq_true, Int.reduceAdd, Int.reduceSub, Int.reduceMod, Int.reduceDiv, Nat.reduceMod, Nat.reduceDiv, Nat.reduceLT, cond_true, cond_false, gt_iff_lt, ge_iff_le, YtjdnmejohadlbaaDoor.D121, ty2, ty3, ty4, ty149]
    try first
      | refine callThen_of (d1 _) ?_
      | refine callThen_of (ad _) ?_
      | refine callThen_of (cm _) ?_
      | refine callThen_of (o2 _) ?_
      | refine callThen_of (d2 _) ?_
  rcases Int.lt_trichotomy (r + r) d with h | h | h
  · have e1 : (r + r - d).sign = -1 := Int.sign_eq_neg_one_of_neg (by omega)
    rw [if_neg (by omega), Int.add_zero]
    constructor
    all_goals
      simp (maxSteps := 2000000) only [wk0, wk1, wk2, wk3, wk4, keepA, keepT, Fr.keep, frzT, flatT, arrayAtA, ownT, extT, Fr.ev, Fr.put, Fr.get, initFr, buildSliceA, zeros, pkB, pkT, pkF, ownDst, Env.kd, ofConst, isConst, binA, intI, cmpI, shiftI, convertA, buildA, fillA, fillS, splice, AV.cells?, storeA, readAt, fieldAddrA, fieldA, indexA, extractA, unA, builtinA, appendA, lenA, sliceCells, isSliceK, makeInterfaceA, nilCheckA, eqA, AV.one, AV.plain, if_false, if_true, Nat.reduceEqDiff, reduceIte, Nat.reduceAdd, List.replicate, Nat.reduceLeDiff, Nat.reduceMul, Nat.reduceSub, Nat.reducePow, Int.reduceLT, Int.reduceLE, Int.reduceToNat, Int.reducePow, IntKind.bits, Int.reduceEq, Int.reduceMul, Int.reduceNeg, ne_eq, reduceCtorEq, escT, BEq.rfl, beq_self_eq_true, Int.reduceAdd, Int.reduceSub, Int.reduceMod, Int.reduceDiv, Nat.reduceMod, Nat.reduceDiv, Nat.reduceLT, cond_true, cond_false, gt_iff_lt, ge_iff_le, e1, YtjdnmejohadlbaaDoor.D121, ty2, ty3, ty4, ty149]
      exact retB_plain (by simp [nmd_agg, nmd_bool, nmd_lst]) rfl (by simp)
  · have e1 : (r + r - d).sign = 0 := by rw [h, Int.sub_self]; rfl
    rcases hodd with ho | ho
    · rw [if_neg (by omega), Int.add_zero]
      rw [ho] at sg ⊢
      constructor
      all_goals
        iterate 2
          simp (maxSteps := 2000000) only [wk0, wk1, wk2, wk3, wk4, keepA, keepT, Fr.keep, frzT, flatT, arrayAtA, ownT, extT, Fr.ev, Fr.put, Fr.get, initFr, buildSliceA, zeros, pkB, pkT, pkF, ownDst, Env.kd, ofConst, isConst, binA, intI, cmpI, shiftI, convertA, buildA, fillA, fillS, splice, AV.cells?, storeA, readAt, fieldAddrA, fieldA, indexA, extractA, unA, builtinA, appendA, lenA, sliceCells, isSliceK, makeInterfaceA, nilCheckA, eqA, AV.one, AV.plain, if_false, if_true, Nat.reduceEqDiff, reduceIte, Nat.reduceAdd, List.replicate, Nat.reduceLeDiff, Nat.reduceMul, Nat.reduceSub, Nat.reducePow, Int.reduceLT, Int.reduceLE, Int.reduceToNat, Int.reducePow, IntKind.bits, Int.reduceEq, Int.reduceMul, Int.reduceNeg, ne_eq, reduceCtorEq, escT, BEq.rfl, beq_self_eq_true, Int.reduceAdd, Int.reduceSub, Int.reduceMod, Int.reduceDiv, Nat.reduceMod, Nat.reduceDiv, Nat.reduceLT, cond_true, cond_false, gt_iff_lt, ge_iff_le, e1, Int.sign_zero, YtjdnmejohadlbaaDoor.D121, ty2, ty3, ty4, ty149]
          try first
            | refine callThen_of (sg _) ?_
        exact retB_plain (by simp [nmd_agg, nmd_bool, nmd_lst]) rfl (by simp)
    · rw [if_pos (by omega)]
      rw [ho] at sg ⊢
      have s1 : (1 : Int).sign = 1 := rfl
      constructor
      all_goals
        iterate 4
          simp (maxSteps := 2000000) only [wk0, wk1, wk2, wk3, wk4, keepA, keepT, Fr.keep, frzT, flatT, arrayAtA, ownT, extT, Fr.ev, Fr.put, Fr.get, initFr, buildSliceA, zeros, pkB, pkT, pkF, ownDst, Env.kd, ofConst, isConst, binA, intI, cmpI, shiftI, convertA, buildA, fillA, fillS, splice, AV.cells?, storeA, readAt, fieldAddrA, fieldA, indexA, extractA, unA, builtinA, appendA, lenA, sliceCells, isSliceK, makeInterfaceA, nilCheckA, eqA, AV.one, AV.plain, if_false, if_true, Nat.reduceEqDiff, reduceIte, Nat.reduceAdd, List.replicate, Nat.reduceLeDiff, Nat.reduceMul, Nat.reduceSub, Nat.reducePow, Int.reduceLT, Int.reduceLE, Int.reduceToNat, Int.reducePow, IntKind.bits, Int.reduceEq, Int.reduceMul, Int.reduceNeg, ne_eq, reduceCtorEq, escT, BEq.rfl, beq_self_eq_true, Int.reduceAdd, Int.reduceSub, Int.reduceMod, Int.reduceDiv, Nat.reduceMod, Nat.reduceDiv, Nat.reduceLT, cond_true, cond_false, gt_iff_lt, ge_iff_le, e1, s1, YtjdnmejohadlbaaDoor.D121, ty2, ty3, ty4, ty149]
          try first
            | refine callThen_of (sg _) ?_
            | refine callThen_of (o1 _) ?_
            | refine callThen_of (up _) ?_
        exact retB_plain (by simp [nmd_agg, nmd_bool, nmd_lst]) rfl (by simp)
  · have e1 : (r + r - d).sign = 1 := Int.sign_eq_one_of_pos (by omega)
    rw [if_pos (by omega)]
    constructor
    all_goals
      iterate 3
        simp (maxSteps := 2000000) only [wk0, wk1, wk2, wk3, wk4, keepA, keepT, Fr.keep, frzT, flatT, arrayAtA, ownT, extT, Fr.ev, Fr.put, Fr.get, initFr, buildSliceA, zeros, pkB, pkT, pkF, ownDst, Env.kd, ofConst, isConst, binA, intI, cmpI, shiftI, convertA, buildA, fillA, fillS, splice, AV.cells?, storeA, readAt, fieldAddrA, fieldA, indexA, extractA, unA, builtinA, appendA, lenA, sliceCells, isSliceK, makeInterfaceA, nilCheckA, eqA, AV.one, AV.plain, if_false, if_true, Nat.reduceEqDiff, reduceIte, Nat.reduceAdd, List.replicate, Nat.reduceLeDiff, Nat.reduceMul, Nat.reduceSub, Nat.reducePow, Int.reduceLT, Int.reduceLE, Int.reduceToNat, Int.reducePow, IntKind.bits, Int.reduceEq, Int.reduceMul, Int.reduceNeg, ne_eq, reduceCtorEq, escT, BEq.rfl, beq_self_eq_true, Int.reduceAdd, Int.reduceSub, Int.reduceMod, Int.reduceDiv, Nat.reduceMod, Nat.reduceDiv, Nat.reduceLT, cond_true, cond_false, gt_iff_lt, ge_iff_le, e1, YtjdnmejohadlbaaDoor.D121, ty2, ty3, ty4, ty149]
        try first
          | refine callThen_of (o1 _) ?_
          | refine callThen_of (up _) ?_
      exact retB_plain (by simp [nmd_agg, nmd_bool, nmd_lst]) rfl (by simp)
theorem refHalf_ok (z : Int) (n : Nat) (S : Heap) (hz : lenD z.natAbs ≤ 20000) (hn : n ≤ 1000) : Call theE 152 [decA z, .int .i64 n] S (.tup [.int .i64 (bndI (rnd z (2 ^ n))), .bool (ovrB (rnd z (2 ^ n)))]) S := by
  have hp : (0 : Int) < 2 ^ n := Int.pow_pos (by decide)
  have lp := lenD_pow n
  have t := fun S => decTwo_ok n S hn
  have r := fun S => decRound_ok z (2 ^ n) S hz (by omega) hp
  have b := fun S => decBound_ok (rnd z (2 ^ n)) S (lenD_mono (rnd_size z _ hp) (Nat.le_trans (lenD_add hz (lenD_lit (k := 1) (m := 20000) (by decide) (by omega))) (by omega)))
  simp only [decA, lstI, digs_len] at t r b ⊢
  refine Call.ofC Tryd.func152 YtjdnmejohadlbaaDoor.b152 YtjdnmejohadlbaaDoor.d152 YtjdnmejohadlbaaDoor.e152 (by simp [Tryd.f152]) ?_
  dsimp only [YtjdnmejohadlbaaDoor.c152, Tryd.f152, Option.getD_some]
  iterate 4
    simp (maxSteps := 2000000) only [wk0, wk1, wk2, wk3, wk4, keepA, keepT, Fr.keep, frzT, flatT, arrayAtA, ownT, extT, Fr.ev, Fr.put, Fr.get, initFr, buildSliceA, zeros, pkB, pkT, pkF, ownDst, Env.kd, ofConst, isConst, binA, intI, cmpI, shiftI, convertA, buildA, fillA, fillS, splice, AV.cells?, storeA, readAt, fieldAddrA, fieldA, indexA, extractA, unA, builtinA, appendA, lenA, sliceCells, isSliceK, makeInterfaceA, nilCheckA, eqA, AV.one, AV.plain, if_false, if_true, Nat.reduceEqDiff, reduceIte, Nat.reduceAdd, List.replicate, Nat.reduceLeDiff, Nat.reduceMul, Nat.reduceSub, Nat.reducePow, Int.reduceLT, Int.reduceLE, Int.reduceToNat, Int.reducePow, IntKind.bits, Int.reduceEq, Int.reduceMul, Int.reduceNeg, ne_eq, reduceCtorEq, escT, BEq.rfl, beq_self_eq_true, Int.reduceAdd, Int.reduceSub, Int.reduceMod, Int.reduceDiv, Nat.reduceMod, Nat.reduceDiv, Nat.reduceLT, cond_true, cond_false, gt_iff_lt, ge_iff_le, YtjdnmejohadlbaaDoor.D152, ty2, ty3, ty4, ty149]
    try first
      | refine callThen_of (t _) ?_
      | refine callThen_of (r _) ?_
      | refine callThen_of (b _) ?_
  exact retB_plain (by simp [nmd_int, nmd_bool]) rfl (by simp)
end Go.Proofs.YtjdnmejohadlbaaDoor
