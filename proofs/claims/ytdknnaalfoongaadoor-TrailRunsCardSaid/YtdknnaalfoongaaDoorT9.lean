/- radomeref36: the whole root of a sum of two squares, bit by bit. -/
import Derived.Test.YtdknnaalfoongaaDoorD11
import Derived.Test.YtdknnaalfoongaaDoorT2
set_option linter.unusedSimpArgs false
set_option linter.unusedVariables false
set_option maxRecDepth 100000
set_option maxHeartbeats 4000000
namespace Go.Proofs.YtdknnaalfoongaaDoor
theorem root_uniq {lo r N : Int} (h0 : 0 ≤ lo) (hr : 0 ≤ r) (h1 : lo * lo ≤ N) (h2 : N < (lo + 1) * (lo + 1)) (h3 : r * r ≤ N) (h4 : N < (r + 1) * (r + 1)) : lo = r := by
  rcases Int.lt_trichotomy lo r with h | h | h
  · exfalso
    have := Int.mul_le_mul (show lo + 1 ≤ r by omega) (show lo + 1 ≤ r by omega) (by omega) hr
    omega
  · exact h
  · exfalso
    have := Int.mul_le_mul (show r + 1 ≤ lo by omega) (show r + 1 ≤ lo by omega) (by omega) h0
    omega
noncomputable def c42 : Code := Tryd.f42.body.getD .skip
theorem b42 : Tryd.f42.body = some c42 := rfl
theorem d42 : fnOk Tryd.f42 c42 = true := by kernel_rfl
def D42 : Nat → List Tag
  | 7 => [.quiet, .quiet, .quiet, .quiet, .seq, .pure]
  | _ => []
theorem e42 : drawsOk D42 c42 = true := by kernel_rfl
theorem root36_ok (x y r : Int) (S : Heap) (hx : -1152921504606846976 ≤ x ∧ x ≤ 1152921504606846976) (hy : -1152921504606846976 ≤ y ∧ y ≤ 1152921504606846976) (h0 : 0 ≤ r) (hr : r < 4611686018427387904)
    (h1 : r * r ≤ x * x + y * y) (h2 : x * x + y * y < (r + 1) * (r + 1)) : Call theE 42 [.int .i64 x, .int .i64 y] S (.int .i64 r) S := by
  have big : ∀ z : Int, -9223372036854775808 ≤ z → z ≤ 9223372036854775808 → lenD z.natAbs ≤ 20 := fun z h1 h2 => (lenD_le _ _).2 (by omega)
  have ox := fun S => decOf_ok x S (by unfold inI; omega)
  have oy := fun S => decOf_ok y S (by unfold inI; omega)
  have lx := big x (by omega) (by omega)
  have ly := big y (by omega) (by omega)
  have mx := fun S => decMul_ok x x S (by omega) (by omega)
  have my := fun S => decMul_ok y y S (by omega) (by omega)
  have lxx : lenD (x * x).natAbs ≤ 40 := by rw [Int.natAbs_mul]; exact lenD_mul lx lx
  have lyy : lenD (y * y).natAbs ≤ 40 := by rw [Int.natAbs_mul]; exact lenD_mul ly ly
  have ad := fun S => decAdd_ok (x * x) (y * y) S (by omega) (by omega)
  have ls : lenD (x * x + y * y).natAbs ≤ 41 := lenD_mono (show (x * x + y * y).natAbs ≤ (x * x).natAbs + (y * y).natAbs by omega) (lenD_add lxx lyy)
  have hN0 : 0 ≤ x * x + y * y := Int.le_trans (Int.mul_nonneg h0 h0) h1
  have hT : (r + 1) * (r + 1) ≤ 4611686018427387904 * 4611686018427387904 := Int.mul_le_mul (by omega) (by omega) (by omega) (by omega)
  have of' : ∀ z : Int, 0 ≤ z → z < 4611686018427387904 → ∀ S, Call theE 41 [.int .i64 z] S (decA z) S := fun z a b S => decOf_ok z S (by unfold inI; omega)
  have mu' : ∀ z : Int, 0 ≤ z → z < 4611686018427387904 → ∀ S, Call theE 82 [decA z, decA z] S (decA (z * z)) S := fun z a b S => by
    have := big z (by omega) (by omega)
    exact decMul_ok z z S (by omega) (by omega)
  have cm' : ∀ z : Int, 0 ≤ z → z < 4611686018427387904 → ∀ S, Call theE 83 [decA (z * z), decA (x * x + y * y)] S (.int .i64 (z * z - (x * x + y * y)).sign) S := fun z a b S => by
    have l := big z (by omega) (by omega)
    have l2 : lenD (z * z).natAbs ≤ 40 := by rw [Int.natAbs_mul]; exact lenD_mul l l
    exact decCmp_ok _ _ S (by omega) (by omega)
  simp only [decA, lstI, digs_len] at ox oy mx my ad of' mu' cm'
  generalize x * x = X at *
  generalize y * y = Y at *
  obtain ⟨N, hN⟩ : ∃ N, X + Y = N := ⟨_, rfl⟩
  rw [hN] at h1 h2 hN0 ad ls
  simp only [hN] at cm'
  refine Call.ofC Tryd.func42 YtdknnaalfoongaaDoor.b42 YtdknnaalfoongaaDoor.d42 YtdknnaalfoongaaDoor.e42 (by simp [Tryd.f42]) ?_
  dsimp only [YtdknnaalfoongaaDoor.c42, Tryd.f42, Option.getD_some]
  simp (maxSteps := 2000000) only [wk0, wk1, wk2, wk3, wk4, wk5, Fr.ev, Fr.put, Fr.get, pkB, pkT, pkF, storeA, if_false, if_true, Nat.reduceEqDiff, reduceIte, Nat.reduceAdd, List.replicate, Nat.reduceLeDiff, Nat.reduceMul, Nat.reduceSub, Nat.reducePow, Int.reduceLT, Int.reduceLE, Int.reduceToNat, Int.reducePow, IntKind.bits, Int.reduceEq, Int.reduceMul, Int.reduceNeg, ne_eq, reduceCtorEq, BEq.rfl, beq_self_eq_true, Int.reduceAdd, Int.reduceSub, Int.reduceMod, Int.reduceDiv, Nat.reduceMod, Nat.reduceDiv, Nat.reduceLT, cond_true, cond_false, gt_iff_lt, ge_iff_le, YtdknnaalfoongaaDoor.D42, ty2, ty3, ty4, ty93]
  refine callThen_of (ox _) ?_
  simp (maxSteps := 2000000) only [wk0, wk1, wk2, wk3, wk4, wk5, Fr.ev, Fr.put, Fr.get, pkB, pkT, pkF, storeA, if_false, if_true, Nat.reduceEqDiff, reduceIte, Nat.reduceAdd, List.replicate, Nat.reduceLeDiff, Nat.reduceMul, Nat.reduceSub, Nat.reducePow, Int.reduceLT, Int.reduceLE, Int.reduceToNat, Int.reducePow, IntKind.bits, Int.reduceEq, Int.reduceMul, Int.reduceNeg, ne_eq, reduceCtorEq, BEq.rfl, beq_self_eq_true, Int.reduceAdd, Int.reduceSub, Int.reduceMod, Int.reduceDiv, Nat.reduceMod, Nat.reduceDiv, Nat.reduceLT, cond_true, cond_false, gt_iff_lt, ge_iff_le, YtdknnaalfoongaaDoor.D42, ty2, ty3, ty4, ty93]
  refine callThen_of (ox _) ?_
  simp (maxSteps := 2000000) only [wk0, wk1, wk2, wk3, wk4, wk5, Fr.ev, Fr.put, Fr.get, pkB, pkT, pkF, storeA, if_false, if_true, Nat.reduceEqDiff, reduceIte, Nat.reduceAdd, List.replicate, Nat.reduceLeDiff, Nat.reduceMul, Nat.reduceSub, Nat.reducePow, Int.reduceLT, Int.reduceLE, Int.reduceToNat, Int.reducePow, IntKind.bits, Int.reduceEq, Int.reduceMul, Int.reduceNeg, ne_eq, reduceCtorEq, BEq.rfl, beq_self_eq_true, Int.reduceAdd, Int.reduceSub, Int.reduceMod, Int.reduceDiv, Nat.reduceMod, Nat.reduceDiv, Nat.reduceLT, cond_true, cond_false, gt_iff_lt, ge_iff_le, YtdknnaalfoongaaDoor.D42, ty2, ty3, ty4, ty93]
  refine callThen_of (mx _) ?_
  simp (maxSteps := 2000000) only [wk0, wk1, wk2, wk3, wk4, wk5, Fr.ev, Fr.put, Fr.get, pkB, pkT, pkF, storeA, if_false, if_true, Nat.reduceEqDiff, reduceIte, Nat.reduceAdd, List.replicate, Nat.reduceLeDiff, Nat.reduceMul, Nat.reduceSub, Nat.reducePow, Int.reduceLT, Int.reduceLE, Int.reduceToNat, Int.reducePow, IntKind.bits, Int.reduceEq, Int.reduceMul, Int.reduceNeg, ne_eq, reduceCtorEq, BEq.rfl, beq_self_eq_true, Int.reduceAdd, Int.reduceSub, Int.reduceMod, Int.reduceDiv, Nat.reduceMod, Nat.reduceDiv, Nat.reduceLT, cond_true, cond_false, gt_iff_lt, ge_iff_le, YtdknnaalfoongaaDoor.D42, ty2, ty3, ty4, ty93]
  refine callThen_of (oy _) ?_
  simp (maxSteps := 2000000) only [wk0, wk1, wk2, wk3, wk4, wk5, Fr.ev, Fr.put, Fr.get, pkB, pkT, pkF, storeA, if_false, if_true, Nat.reduceEqDiff, reduceIte, Nat.reduceAdd, List.replicate, Nat.reduceLeDiff, Nat.reduceMul, Nat.reduceSub, Nat.reducePow, Int.reduceLT, Int.reduceLE, Int.reduceToNat, Int.reducePow, IntKind.bits, Int.reduceEq, Int.reduceMul, Int.reduceNeg, ne_eq, reduceCtorEq, BEq.rfl, beq_self_eq_true, Int.reduceAdd, Int.reduceSub, Int.reduceMod, Int.reduceDiv, Nat.reduceMod, Nat.reduceDiv, Nat.reduceLT, cond_true, cond_false, gt_iff_lt, ge_iff_le, YtdknnaalfoongaaDoor.D42, ty2, ty3, ty4, ty93]
  refine callThen_of (oy _) ?_
  simp (maxSteps := 2000000) only [wk0, wk1, wk2, wk3, wk4, wk5, Fr.ev, Fr.put, Fr.get, pkB, pkT, pkF, storeA, if_false, if_true, Nat.reduceEqDiff, reduceIte, Nat.reduceAdd, List.replicate, Nat.reduceLeDiff, Nat.reduceMul, Nat.reduceSub, Nat.reducePow, Int.reduceLT, Int.reduceLE, Int.reduceToNat, Int.reducePow, IntKind.bits, Int.reduceEq, Int.reduceMul, Int.reduceNeg, ne_eq, reduceCtorEq, BEq.rfl, beq_self_eq_true, Int.reduceAdd, Int.reduceSub, Int.reduceMod, Int.reduceDiv, Nat.reduceMod, Nat.reduceDiv, Nat.reduceLT, cond_true, cond_false, gt_iff_lt, ge_iff_le, YtdknnaalfoongaaDoor.D42, ty2, ty3, ty4, ty93]
  refine callThen_of (my _) ?_
  simp (maxSteps := 2000000) only [wk0, wk1, wk2, wk3, wk4, wk5, Fr.ev, Fr.put, Fr.get, pkB, pkT, pkF, storeA, if_false, if_true, Nat.reduceEqDiff, reduceIte, Nat.reduceAdd, List.replicate, Nat.reduceLeDiff, Nat.reduceMul, Nat.reduceSub, Nat.reducePow, Int.reduceLT, Int.reduceLE, Int.reduceToNat, Int.reducePow, IntKind.bits, Int.reduceEq, Int.reduceMul, Int.reduceNeg, ne_eq, reduceCtorEq, BEq.rfl, beq_self_eq_true, Int.reduceAdd, Int.reduceSub, Int.reduceMod, Int.reduceDiv, Nat.reduceMod, Nat.reduceDiv, Nat.reduceLT, cond_true, cond_false, gt_iff_lt, ge_iff_le, YtdknnaalfoongaaDoor.D42, ty2, ty3, ty4, ty93]
  refine callThen_of (ad _) ?_
  simp (maxSteps := 2000000) only [wk0, wk1, wk2, wk3, wk4, wk5, Fr.ev, Fr.put, Fr.get, pkB, pkT, pkF, storeA, if_false, if_true, Nat.reduceEqDiff, reduceIte, Nat.reduceAdd, List.replicate, Nat.reduceLeDiff, Nat.reduceMul, Nat.reduceSub, Nat.reducePow, Int.reduceLT, Int.reduceLE, Int.reduceToNat, Int.reducePow, IntKind.bits, Int.reduceEq, Int.reduceMul, Int.reduceNeg, ne_eq, reduceCtorEq, BEq.rfl, beq_self_eq_true, Int.reduceAdd, Int.reduceSub, Int.reduceMod, Int.reduceDiv, Nat.reduceMod, Nat.reduceDiv, Nat.reduceLT, cond_true, cond_false, gt_iff_lt, ge_iff_le, YtdknnaalfoongaaDoor.D42, ty2, ty3, ty4, ty93]
  refine loopC_ind (fun m fr H => ∃ (lo : Int) (J : Heap), 0 ≤ lo ∧ lo + 2 ^ m ≤ 4611686018427387904 ∧ lo * lo ≤ N ∧ N < (lo + 2 ^ m) * (lo + 2 ^ m) ∧ fr.get 5 = .ptr S.length 0 0 ∧ fr.get 6 = .int .i64 lo ∧ fr.get 7 = .int .i64 (2 ^ m / 2) ∧
    H = S ++ (some ⟨[.bool (decide (N < 0)), .lst ((digs N.natAbs).map fun x => .int .i64 x) (lenD N.natAbs)], 0⟩ :: J)) ?_ (n := 62) ⟨0, [], by omega, by decide, by omega, by simpa using Int.lt_of_lt_of_le h2 hT, rfl, rfl, rfl, rfl⟩
  rintro m fr H ⟨lo, J, hl0, hl1, hl2, hl3, g5, g6, g7, hH⟩ ih
  have hbL : ∀ L, blkAt (H ++ L) S.length 0 = some ⟨[.bool (decide (N < 0)), .lst ((digs N.natAbs).map fun x => .int .i64 x) (lenD N.natAbs)], 0⟩ := fun L => by
    rw [hH, List.append_assoc, blkAt_app0]; rfl
  have hms : S.length ≤ H.length := by rw [hH]; simp
  cases m with
  | zero =>
    have e : (2 : Int) ^ 0 / 2 = 0 := by decide
    rw [e] at g7
    rw [show (2 : Int) ^ 0 = 1 by decide] at hl3
    obtain rfl := root_uniq hl0 h0 hl2 hl3 h1 h2
    simp (maxSteps := 2000000) only [wk0, wk1, wk2, wk3, wk4, wk5, Fr.ev, Fr.put, Fr.get, pkB, pkT, pkF, storeA, if_false, if_true, Nat.reduceEqDiff, reduceIte, Nat.reduceAdd, List.replicate, Nat.reduceLeDiff, Nat.reduceMul, Nat.reduceSub, Nat.reducePow, Int.reduceLT, Int.reduceLE, Int.reduceToNat, Int.reducePow, IntKind.bits, Int.reduceEq, Int.reduceMul, Int.reduceNeg, ne_eq, reduceCtorEq, BEq.rfl, beq_self_eq_true, Int.reduceAdd, Int.reduceSub, Int.reduceMod, Int.reduceDiv, Nat.reduceMod, Nat.reduceDiv, Nat.reduceLT, cond_true, cond_false, gt_iff_lt, ge_iff_le, g5, g6, g7, Int.lt_irrefl, YtdknnaalfoongaaDoor.D42, ty2, ty3, ty4, ty93]
    exact retB_plain (by simp [nmd_int]) rfl (by rw [hH]; simp)
  | succ k =>
    have hw : (0 : Int) < 2 ^ k := Int.pow_pos (by decide)
    have e1 : (2 : Int) ^ (k + 1) = 2 * 2 ^ k := by rw [Int.pow_succ]; omega
    rw [e1] at hl1 hl3 g7
    generalize hk : (2 : Int) ^ k = w at *
    have e2 : 2 * w / 2 = w := by omega
    rw [e2] at g7
    have wm : IntKind.i64.wrap (lo + w) = lo + w := wrapI (by omega)
    have e3 : w.tdiv 2 = w / 2 := Int.tdiv_eq_ediv_of_nonneg (by omega)
    have we : IntKind.i64.wrap (w / 2) = w / 2 := wrapI (by omega)
    have n2 : ¬ (2 : Int) = 0 := by decide
    have om := of' (lo + w) (by omega) (by omega)
    have mm := mu' (lo + w) (by omega) (by omega)
    have cm := cm' (lo + w) (by omega) (by omega)
    have p0 : decide (lo + w < 0) = false := decide_eq_false (by omega)
    rw [p0] at om mm
    have q := Int.sign_eq_neg_one_of_neg (a := (lo + w) * (lo + w) - N)
    by_cases hc : (lo + w) * (lo + w) ≤ N
    · have s1 : ((lo + w) * (lo + w) - N).sign ≤ 0 := by
        rcases Int.lt_or_eq_of_le hc with h | h
        · rw [Int.sign_eq_neg_one_of_neg (by omega)]; decide
        · rw [h, Int.sub_self]; decide
      simp (maxSteps := 2000000) only [wk0, wk1, wk2, wk3, wk4, wk5, Fr.ev, Fr.put, Fr.get, pkB, pkT, pkF, storeA, if_false, if_true, Nat.reduceEqDiff, reduceIte, Nat.reduceAdd, List.replicate, Nat.reduceLeDiff, Nat.reduceMul, Nat.reduceSub, Nat.reducePow, Int.reduceLT, Int.reduceLE, Int.reduceToNat, Int.reducePow, IntKind.bits, Int.reduceEq, Int.reduceMul, Int.reduceNeg, ne_eq, reduceCtorEq, BEq.rfl, beq_self_eq_true, Int.reduceAdd, Int.reduceSub, Int.reduceMod, Int.reduceDiv, Nat.reduceMod, Nat.reduceDiv, Nat.reduceLT, cond_true, cond_false, gt_iff_lt, ge_iff_le, g5, g6, g7, hw, wm, hbL, YtdknnaalfoongaaDoor.D42, ty2, ty3, ty4, ty93]
      refine callThen_of (om _) ?_
      simp (maxSteps := 2000000) only [wk0, wk1, wk2, wk3, wk4, wk5, Fr.ev, Fr.put, Fr.get, pkB, pkT, pkF, storeA, if_false, if_true, Nat.reduceEqDiff, reduceIte, Nat.reduceAdd, List.replicate, Nat.reduceLeDiff, Nat.reduceMul, Nat.reduceSub, Nat.reducePow, Int.reduceLT, Int.reduceLE, Int.reduceToNat, Int.reducePow, IntKind.bits, Int.reduceEq, Int.reduceMul, Int.reduceNeg, ne_eq, reduceCtorEq, BEq.rfl, beq_self_eq_true, Int.reduceAdd, Int.reduceSub, Int.reduceMod, Int.reduceDiv, Nat.reduceMod, Nat.reduceDiv, Nat.reduceLT, cond_true, cond_false, gt_iff_lt, ge_iff_le, g5, g6, g7, hw, wm, hbL, YtdknnaalfoongaaDoor.D42, ty2, ty3, ty4, ty93]
      refine ⟨.inl hms, callThen_of (mm _) ?_⟩
      simp (maxSteps := 2000000) only [wk0, wk1, wk2, wk3, wk4, wk5, Fr.ev, Fr.put, Fr.get, pkB, pkT, pkF, storeA, if_false, if_true, Nat.reduceEqDiff, reduceIte, Nat.reduceAdd, List.replicate, Nat.reduceLeDiff, Nat.reduceMul, Nat.reduceSub, Nat.reducePow, Int.reduceLT, Int.reduceLE, Int.reduceToNat, Int.reducePow, IntKind.bits, Int.reduceEq, Int.reduceMul, Int.reduceNeg, ne_eq, reduceCtorEq, BEq.rfl, beq_self_eq_true, Int.reduceAdd, Int.reduceSub, Int.reduceMod, Int.reduceDiv, Nat.reduceMod, Nat.reduceDiv, Nat.reduceLT, cond_true, cond_false, gt_iff_lt, ge_iff_le, g5, g6, g7, hw, wm, hbL, YtdknnaalfoongaaDoor.D42, ty2, ty3, ty4, ty93]
      refine callThen_of (cm _) ?_
      simp (maxSteps := 2000000) only [wk0, wk1, wk2, wk3, wk4, wk5, Fr.ev, Fr.put, Fr.get, pkB, pkT, pkF, storeA, if_false, if_true, Nat.reduceEqDiff, reduceIte, Nat.reduceAdd, List.replicate, Nat.reduceLeDiff, Nat.reduceMul, Nat.reduceSub, Nat.reducePow, Int.reduceLT, Int.reduceLE, Int.reduceToNat, Int.reducePow, IntKind.bits, Int.reduceEq, Int.reduceMul, Int.reduceNeg, ne_eq, reduceCtorEq, BEq.rfl, beq_self_eq_true, Int.reduceAdd, Int.reduceSub, Int.reduceMod, Int.reduceDiv, Nat.reduceMod, Nat.reduceDiv, Nat.reduceLT, cond_true, cond_false, gt_iff_lt, ge_iff_le, g5, g6, g7, hw, wm, hbL, s1, e3, we, n2, YtdknnaalfoongaaDoor.D42, ty2, ty3, ty4, ty93]
      exact ih k _ _ (by omega) ⟨lo + w, J ++ [_], by omega, by rw [hk]; omega, hc, by rw [hk, show lo + w + w = lo + 2 * w by omega]; exact hl3, by simp [Fr.get, g5], by simp [Fr.get], by simp [Fr.get, hk], by rw [hH, List.append_assoc]; rfl⟩
    · have s1 : ¬ ((lo + w) * (lo + w) - N).sign ≤ 0 := by
        rw [Int.sign_eq_one_of_pos (by omega)]; decide
      simp (maxSteps := 2000000) only [wk0, wk1, wk2, wk3, wk4, wk5, Fr.ev, Fr.put, Fr.get, pkB, pkT, pkF, storeA, if_false, if_true, Nat.reduceEqDiff, reduceIte, Nat.reduceAdd, List.replicate, Nat.reduceLeDiff, Nat.reduceMul, Nat.reduceSub, Nat.reducePow, Int.reduceLT, Int.reduceLE, Int.reduceToNat, Int.reducePow, IntKind.bits, Int.reduceEq, Int.reduceMul, Int.reduceNeg, ne_eq, reduceCtorEq, BEq.rfl, beq_self_eq_true, Int.reduceAdd, Int.reduceSub, Int.reduceMod, Int.reduceDiv, Nat.reduceMod, Nat.reduceDiv, Nat.reduceLT, cond_true, cond_false, gt_iff_lt, ge_iff_le, g5, g6, g7, hw, wm, hbL, YtdknnaalfoongaaDoor.D42, ty2, ty3, ty4, ty93]
      refine callThen_of (om _) ?_
      simp (maxSteps := 2000000) only [wk0, wk1, wk2, wk3, wk4, wk5, Fr.ev, Fr.put, Fr.get, pkB, pkT, pkF, storeA, if_false, if_true, Nat.reduceEqDiff, reduceIte, Nat.reduceAdd, List.replicate, Nat.reduceLeDiff, Nat.reduceMul, Nat.reduceSub, Nat.reducePow, Int.reduceLT, Int.reduceLE, Int.reduceToNat, Int.reducePow, IntKind.bits, Int.reduceEq, Int.reduceMul, Int.reduceNeg, ne_eq, reduceCtorEq, BEq.rfl, beq_self_eq_true, Int.reduceAdd, Int.reduceSub, Int.reduceMod, Int.reduceDiv, Nat.reduceMod, Nat.reduceDiv, Nat.reduceLT, cond_true, cond_false, gt_iff_lt, ge_iff_le, g5, g6, g7, hw, wm, hbL, YtdknnaalfoongaaDoor.D42, ty2, ty3, ty4, ty93]
      refine ⟨.inl hms, callThen_of (mm _) ?_⟩
      simp (maxSteps := 2000000) only [wk0, wk1, wk2, wk3, wk4, wk5, Fr.ev, Fr.put, Fr.get, pkB, pkT, pkF, storeA, if_false, if_true, Nat.reduceEqDiff, reduceIte, Nat.reduceAdd, List.replicate, Nat.reduceLeDiff, Nat.reduceMul, Nat.reduceSub, Nat.reducePow, Int.reduceLT, Int.reduceLE, Int.reduceToNat, Int.reducePow, IntKind.bits, Int.reduceEq, Int.reduceMul, Int.reduceNeg, ne_eq, reduceCtorEq, BEq.rfl, beq_self_eq_true, Int.reduceAdd, Int.reduceSub, Int.reduceMod, Int.reduceDiv, Nat.reduceMod, Nat.reduceDiv, Nat.reduceLT, cond_true, cond_false, gt_iff_lt, ge_iff_le, g5, g6, g7, hw, wm, hbL, YtdknnaalfoongaaDoor.D42, ty2, ty3, ty4, ty93]
      refine callThen_of (cm _) ?_
      simp (maxSteps := 2000000) only [wk0, wk1, wk2, wk3, wk4, wk5, Fr.ev, Fr.put, Fr.get, pkB, pkT, pkF, storeA, if_false, if_true, Nat.reduceEqDiff, reduceIte, Nat.reduceAdd, List.replicate, Nat.reduceLeDiff, Nat.reduceMul, Nat.reduceSub, Nat.reducePow, Int.reduceLT, Int.reduceLE, Int.reduceToNat, Int.reducePow, IntKind.bits, Int.reduceEq, Int.reduceMul, Int.reduceNeg, ne_eq, reduceCtorEq, BEq.rfl, beq_self_eq_true, Int.reduceAdd, Int.reduceSub, Int.reduceMod, Int.reduceDiv, Nat.reduceMod, Nat.reduceDiv, Nat.reduceLT, cond_true, cond_false, gt_iff_lt, ge_iff_le, g5, g6, g7, hw, wm, hbL, s1, e3, we, n2, YtdknnaalfoongaaDoor.D42, ty2, ty3, ty4, ty93]
      exact ih k _ _ (by omega) ⟨lo, J ++ [_], hl0, by rw [hk]; omega, hl2, by rw [hk]; omega, by simp [Fr.get, g5], by simp [Fr.get, g6], by simp [Fr.get, hk], by rw [hH, List.append_assoc]; rfl⟩
end Go.Proofs.YtdknnaalfoongaaDoor

/- radomeref38: what may be added, and what is kept then. -/
set_option linter.unusedSimpArgs false
set_option linter.unusedVariables false
set_option maxRecDepth 100000
set_option maxHeartbeats 4000000
namespace Go.Proofs.YtdknnaalfoongaaDoor
noncomputable def c39 : Code := Tryd.f39.body.getD .skip
theorem b39 : Tryd.f39.body = some c39 := rfl
theorem d39 : fnOk Tryd.f39 c39 = true := by kernel_rfl
def D39 : Nat → List Tag := fun _ => []
theorem e39 : drawsOk D39 c39 = true := by kernel_rfl
noncomputable def c14 : Code := Tryd.f14.body.getD .skip
theorem b14 : Tryd.f14.body = some c14 := rfl
theorem d14 : fnOk Tryd.f14 c14 = true := by kernel_rfl
def D14 : Nat → List Tag
  | 4 => [.pure, .pure, .pure, .pure, .quiet, .pure, .pure, .pure, .pure, .pure, .quiet, .pure, .pure]
  | 7 => [.pure, .pure, .fresh, .look, .pure, .seq, .pure]
  | _ => []
theorem e14 : drawsOk D14 c14 = true := by kernel_rfl
theorem may38_ok (p : Pt) (S : Heap) (h : mayP p) : Call theE 39 [.agg [.int .i64 p.t, .int .i64 p.x, .int .i64 p.y]] S (.bool true) S := by
  obtain ⟨⟨h1, h2⟩, ⟨h3, h4⟩, h5, h6⟩ := h
  refine Call.ofC Tryd.func39 YtdknnaalfoongaaDoor.b39 YtdknnaalfoongaaDoor.d39 YtdknnaalfoongaaDoor.e39 (by simp [Tryd.f39]) ?_
  dsimp only [YtdknnaalfoongaaDoor.c39, Tryd.f39, Option.getD_some]
  simp (maxSteps := 2000000) only [wk0, wk1, wk2, wk3, wk4, wk5, Fr.ev, Fr.put, Fr.get, pkB, pkT, pkF, storeA, if_false, if_true, Nat.reduceEqDiff, reduceIte, Nat.reduceAdd, List.replicate, Nat.reduceLeDiff, Nat.reduceMul, Nat.reduceSub, Nat.reducePow, Int.reduceLT, Int.reduceLE, Int.reduceToNat, Int.reducePow, IntKind.bits, Int.reduceEq, Int.reduceMul, Int.reduceNeg, ne_eq, reduceCtorEq, BEq.rfl, beq_self_eq_true, Int.reduceAdd, Int.reduceSub, Int.reduceMod, Int.reduceDiv, Nat.reduceMod, Nat.reduceDiv, Nat.reduceLT, cond_true, cond_false, gt_iff_lt, ge_iff_le, h1, h2, h3, h4, h5, h6, decide_true, YtdknnaalfoongaaDoor.D39, ty1, ty2, ty4, ty41]
  exact retB_plain (by simp [nmd_bool]) rfl (by simp)
theorem may38_bad (p : Pt) (S : Heap) (h : ¬ mayP p) : Call theE 39 [.agg [.int .i64 p.t, .int .i64 p.x, .int .i64 p.y]] S (.bool false) S := by
  unfold mayP at h
  refine Call.ofC Tryd.func39 YtdknnaalfoongaaDoor.b39 YtdknnaalfoongaaDoor.d39 YtdknnaalfoongaaDoor.e39 (by simp [Tryd.f39]) ?_
  dsimp only [YtdknnaalfoongaaDoor.c39, Tryd.f39, Option.getD_some]
  by_cases h1 : 0 ≤ p.t
  · by_cases h2 : p.t ≤ 35184372088832
    · by_cases h3 : -35184372088832 ≤ p.x
      · by_cases h4 : p.x ≤ 35184372088832
        · by_cases h5 : -35184372088832 ≤ p.y
          · have h6 : ¬ p.y ≤ 35184372088832 := fun h6 => h ⟨⟨h1, h2⟩, ⟨h3, h4⟩, h5, h6⟩
            simp (maxSteps := 2000000) only [wk0, wk1, wk2, wk3, wk4, wk5, Fr.ev, Fr.put, Fr.get, pkB, pkT, pkF, storeA, if_false, if_true, Nat.reduceEqDiff, reduceIte, Nat.reduceAdd, List.replicate, Nat.reduceLeDiff, Nat.reduceMul, Nat.reduceSub, Nat.reducePow, Int.reduceLT, Int.reduceLE, Int.reduceToNat, Int.reducePow, IntKind.bits, Int.reduceEq, Int.reduceMul, Int.reduceNeg, ne_eq, reduceCtorEq, BEq.rfl, beq_self_eq_true, Int.reduceAdd, Int.reduceSub, Int.reduceMod, Int.reduceDiv, Nat.reduceMod, Nat.reduceDiv, Nat.reduceLT, cond_true, cond_false, gt_iff_lt, ge_iff_le, h1, h2, h3, h4, h5, h6, decide_true, decide_false, YtdknnaalfoongaaDoor.D39, ty1, ty2, ty4, ty41]
            exact retB_plain (by simp [nmd_bool]) rfl (by simp)
          · simp (maxSteps := 2000000) only [wk0, wk1, wk2, wk3, wk4, wk5, Fr.ev, Fr.put, Fr.get, pkB, pkT, pkF, storeA, if_false, if_true, Nat.reduceEqDiff, reduceIte, Nat.reduceAdd, List.replicate, Nat.reduceLeDiff, Nat.reduceMul, Nat.reduceSub, Nat.reducePow, Int.reduceLT, Int.reduceLE, Int.reduceToNat, Int.reducePow, IntKind.bits, Int.reduceEq, Int.reduceMul, Int.reduceNeg, ne_eq, reduceCtorEq, BEq.rfl, beq_self_eq_true, Int.reduceAdd, Int.reduceSub, Int.reduceMod, Int.reduceDiv, Nat.reduceMod, Nat.reduceDiv, Nat.reduceLT, cond_true, cond_false, gt_iff_lt, ge_iff_le, h1, h2, h3, h4, h5, decide_true, decide_false, YtdknnaalfoongaaDoor.D39, ty1, ty2, ty4, ty41]
            exact retB_plain (by simp [nmd_bool]) rfl (by simp)
        · simp (maxSteps := 2000000) only [wk0, wk1, wk2, wk3, wk4, wk5, Fr.ev, Fr.put, Fr.get, pkB, pkT, pkF, storeA, if_false, if_true, Nat.reduceEqDiff, reduceIte, Nat.reduceAdd, List.replicate, Nat.reduceLeDiff, Nat.reduceMul, Nat.reduceSub, Nat.reducePow, Int.reduceLT, Int.reduceLE, Int.reduceToNat, Int.reducePow, IntKind.bits, Int.reduceEq, Int.reduceMul, Int.reduceNeg, ne_eq, reduceCtorEq, BEq.rfl, beq_self_eq_true, Int.reduceAdd, Int.reduceSub, Int.reduceMod, Int.reduceDiv, Nat.reduceMod, Nat.reduceDiv, Nat.reduceLT, cond_true, cond_false, gt_iff_lt, ge_iff_le, h1, h2, h3, h4, decide_true, decide_false, YtdknnaalfoongaaDoor.D39, ty1, ty2, ty4, ty41]
          exact retB_plain (by simp [nmd_bool]) rfl (by simp)
      · simp (maxSteps := 2000000) only [wk0, wk1, wk2, wk3, wk4, wk5, Fr.ev, Fr.put, Fr.get, pkB, pkT, pkF, storeA, if_false, if_true, Nat.reduceEqDiff, reduceIte, Nat.reduceAdd, List.replicate, Nat.reduceLeDiff, Nat.reduceMul, Nat.reduceSub, Nat.reducePow, Int.reduceLT, Int.reduceLE, Int.reduceToNat, Int.reducePow, IntKind.bits, Int.reduceEq, Int.reduceMul, Int.reduceNeg, ne_eq, reduceCtorEq, BEq.rfl, beq_self_eq_true, Int.reduceAdd, Int.reduceSub, Int.reduceMod, Int.reduceDiv, Nat.reduceMod, Nat.reduceDiv, Nat.reduceLT, cond_true, cond_false, gt_iff_lt, ge_iff_le, h1, h2, h3, decide_true, decide_false, YtdknnaalfoongaaDoor.D39, ty1, ty2, ty4, ty41]
        exact retB_plain (by simp [nmd_bool]) rfl (by simp)
    · simp (maxSteps := 2000000) only [wk0, wk1, wk2, wk3, wk4, wk5, Fr.ev, Fr.put, Fr.get, pkB, pkT, pkF, storeA, if_false, if_true, Nat.reduceEqDiff, reduceIte, Nat.reduceAdd, List.replicate, Nat.reduceLeDiff, Nat.reduceMul, Nat.reduceSub, Nat.reducePow, Int.reduceLT, Int.reduceLE, Int.reduceToNat, Int.reducePow, IntKind.bits, Int.reduceEq, Int.reduceMul, Int.reduceNeg, ne_eq, reduceCtorEq, BEq.rfl, beq_self_eq_true, Int.reduceAdd, Int.reduceSub, Int.reduceMod, Int.reduceDiv, Nat.reduceMod, Nat.reduceDiv, Nat.reduceLT, cond_true, cond_false, gt_iff_lt, ge_iff_le, h1, h2, decide_true, decide_false, YtdknnaalfoongaaDoor.D39, ty1, ty2, ty4, ty41]
      exact retB_plain (by simp [nmd_bool]) rfl (by simp)
  · simp (maxSteps := 2000000) only [wk0, wk1, wk2, wk3, wk4, wk5, Fr.ev, Fr.put, Fr.get, pkB, pkT, pkF, storeA, if_false, if_true, Nat.reduceEqDiff, reduceIte, Nat.reduceAdd, List.replicate, Nat.reduceLeDiff, Nat.reduceMul, Nat.reduceSub, Nat.reducePow, Int.reduceLT, Int.reduceLE, Int.reduceToNat, Int.reducePow, IntKind.bits, Int.reduceEq, Int.reduceMul, Int.reduceNeg, ne_eq, reduceCtorEq, BEq.rfl, beq_self_eq_true, Int.reduceAdd, Int.reduceSub, Int.reduceMod, Int.reduceDiv, Nat.reduceMod, Nat.reduceDiv, Nat.reduceLT, cond_true, cond_false, gt_iff_lt, ge_iff_le, h1, decide_false, YtdknnaalfoongaaDoor.D39, ty1, ty2, ty4, ty41]
    exact retB_plain (by simp [nmd_bool]) rfl (by simp)
theorem ptC_tail (G : Nat → Pt) (n : Nat) : List.drop 3 (ptC G (n + 1)) = ptC (fun i => G (i + 1)) n := by
  induction n with
  | zero => rfl
  | succ n ih =>
    rw [ptC_succ G (n + 1), ptC_succ (fun i => G (i + 1)) n, List.drop_append_of_le_length (by rw [ptC_len]; omega), ih]
/-- Points as a list that comes in. -/
def slP (F : Nat → Pt) (n : Nat) : AV := if n = 0 then .nils else .lst (ptC F n) n
def nxP (F : Nat → Pt) (n c : Nat) (p : Pt) : Nat → Pt := if n + 1 ≤ c then upd F n p else fun i => upd F n p (i + 1)
theorem add38_bad1 (F : Nat → Pt) (n c : Nat) (p : Pt) (S : Heap) (hp : ¬ mayP p) : Call theE 14 [slP F n, .int .i64 c, .agg [.int .i64 p.t, .int .i64 p.x, .int .i64 p.y]] S (.tup [slP F n, .int .i64 1]) S := by
  have m := fun S => may38_bad p S hp
  unfold slP
  refine Call.ofC Tryd.func14 YtdknnaalfoongaaDoor.b14 YtdknnaalfoongaaDoor.d14 YtdknnaalfoongaaDoor.e14 (by simp [Tryd.f14]) ?_
  dsimp only [YtdknnaalfoongaaDoor.c14, Tryd.f14, Option.getD_some]
  by_cases hn : n = 0
  · rw [if_pos hn]
    simp (maxSteps := 2000000) only [wk0, wk1, wk2, wk3, wk4, wk5, Fr.ev, Fr.put, Fr.get, pkB, pkT, pkF, storeA, if_false, if_true, Nat.reduceEqDiff, reduceIte, Nat.reduceAdd, List.replicate, Nat.reduceLeDiff, Nat.reduceMul, Nat.reduceSub, Nat.reducePow, Int.reduceLT, Int.reduceLE, Int.reduceToNat, Int.reducePow, IntKind.bits, Int.reduceEq, Int.reduceMul, Int.reduceNeg, ne_eq, reduceCtorEq, BEq.rfl, beq_self_eq_true, Int.reduceAdd, Int.reduceSub, Int.reduceMod, Int.reduceDiv, Nat.reduceMod, Nat.reduceDiv, Nat.reduceLT, cond_true, cond_false, gt_iff_lt, ge_iff_le, decide_true, decide_false, Bool.not_false, Bool.not_true, YtdknnaalfoongaaDoor.D14, ty1, ty2, ty3, ty4, ty22, ty41]
    refine callThen_of (m _) ?_
    simp (maxSteps := 2000000) only [wk0, wk1, wk2, wk3, wk4, wk5, Fr.ev, Fr.put, Fr.get, pkB, pkT, pkF, storeA, if_false, if_true, Nat.reduceEqDiff, reduceIte, Nat.reduceAdd, List.replicate, Nat.reduceLeDiff, Nat.reduceMul, Nat.reduceSub, Nat.reducePow, Int.reduceLT, Int.reduceLE, Int.reduceToNat, Int.reducePow, IntKind.bits, Int.reduceEq, Int.reduceMul, Int.reduceNeg, ne_eq, reduceCtorEq, BEq.rfl, beq_self_eq_true, Int.reduceAdd, Int.reduceSub, Int.reduceMod, Int.reduceDiv, Nat.reduceMod, Nat.reduceDiv, Nat.reduceLT, cond_true, cond_false, gt_iff_lt, ge_iff_le, decide_true, decide_false, Bool.not_false, Bool.not_true, YtdknnaalfoongaaDoor.D14, ty1, ty2, ty3, ty4, ty22, ty41]
    exact retB_plain (by simp [nmd_int, nmd_nils]) rfl (by simp)
  · rw [if_neg hn]
    simp (maxSteps := 2000000) only [wk0, wk1, wk2, wk3, wk4, wk5, Fr.ev, Fr.put, Fr.get, pkB, pkT, pkF, storeA, if_false, if_true, Nat.reduceEqDiff, reduceIte, Nat.reduceAdd, List.replicate, Nat.reduceLeDiff, Nat.reduceMul, Nat.reduceSub, Nat.reducePow, Int.reduceLT, Int.reduceLE, Int.reduceToNat, Int.reducePow, IntKind.bits, Int.reduceEq, Int.reduceMul, Int.reduceNeg, ne_eq, reduceCtorEq, BEq.rfl, beq_self_eq_true, Int.reduceAdd, Int.reduceSub, Int.reduceMod, Int.reduceDiv, Nat.reduceMod, Nat.reduceDiv, Nat.reduceLT, cond_true, cond_false, gt_iff_lt, ge_iff_le, decide_true, decide_false, Bool.not_false, Bool.not_true, YtdknnaalfoongaaDoor.D14, ty1, ty2, ty3, ty4, ty22, ty41]
    refine callThen_of (m _) ?_
    simp (maxSteps := 2000000) only [wk0, wk1, wk2, wk3, wk4, wk5, Fr.ev, Fr.put, Fr.get, pkB, pkT, pkF, storeA, if_false, if_true, Nat.reduceEqDiff, reduceIte, Nat.reduceAdd, List.replicate, Nat.reduceLeDiff, Nat.reduceMul, Nat.reduceSub, Nat.reducePow, Int.reduceLT, Int.reduceLE, Int.reduceToNat, Int.reducePow, IntKind.bits, Int.reduceEq, Int.reduceMul, Int.reduceNeg, ne_eq, reduceCtorEq, BEq.rfl, beq_self_eq_true, Int.reduceAdd, Int.reduceSub, Int.reduceMod, Int.reduceDiv, Nat.reduceMod, Nat.reduceDiv, Nat.reduceLT, cond_true, cond_false, gt_iff_lt, ge_iff_le, decide_true, decide_false, Bool.not_false, Bool.not_true, YtdknnaalfoongaaDoor.D14, ty1, ty2, ty3, ty4, ty22, ty41]
    exact retB_plain (by simp [nmd_int, nmd_lst]) rfl (by simp)
theorem add38_bad2 (F : Nat → Pt) (n c : Nat) (p : Pt) (S : Heap) (hp : mayP p) (hn : 1 ≤ n) (hb : n ≤ 256) (ht : p.t ≤ (F (n - 1)).t) : Call theE 14 [slP F n, .int .i64 c, .agg [.int .i64 p.t, .int .i64 p.x, .int .i64 p.y]] S (.tup [slP F n, .int .i64 15]) S := by
  have m := fun S => may38_ok p S hp
  obtain ⟨a0, _, _⟩ := ptC_at F n (n - 1) (by omega)
  have g1 : (0 : Int) < (n : Int) := by omega
  have w1 : IntKind.i64.wrap ((n : Int) - 1) = ((n - 1 : Nat) : Int) := by rw [wrapI (by omega)]; omega
  have g2 : ((n - 1 : Nat) : Int) < (n : Int) := by omega
  have g3 : (0 : Int) ≤ ((n - 1 : Nat) : Int) := by omega
  unfold slP
  rw [if_neg (by omega)]
  refine Call.ofC Tryd.func14 YtdknnaalfoongaaDoor.b14 YtdknnaalfoongaaDoor.d14 YtdknnaalfoongaaDoor.e14 (by simp [Tryd.f14]) ?_
  dsimp only [YtdknnaalfoongaaDoor.c14, Tryd.f14, Option.getD_some]
  simp (maxSteps := 2000000) only [wk0, wk1, wk2, wk3, wk4, wk5, Fr.ev, Fr.put, Fr.get, pkB, pkT, pkF, storeA, if_false, if_true, Nat.reduceEqDiff, reduceIte, Nat.reduceAdd, List.replicate, Nat.reduceLeDiff, Nat.reduceMul, Nat.reduceSub, Nat.reducePow, Int.reduceLT, Int.reduceLE, Int.reduceToNat, Int.reducePow, IntKind.bits, Int.reduceEq, Int.reduceMul, Int.reduceNeg, ne_eq, reduceCtorEq, BEq.rfl, beq_self_eq_true, Int.reduceAdd, Int.reduceSub, Int.reduceMod, Int.reduceDiv, Nat.reduceMod, Nat.reduceDiv, Nat.reduceLT, cond_true, cond_false, gt_iff_lt, ge_iff_le, decide_true, decide_false, Bool.not_false, Bool.not_true, g1, w1, g2, g3, a0, ht, Int.toNat_natCast, Nat.add_zero, YtdknnaalfoongaaDoor.D14, ty1, ty2, ty3, ty4, ty22, ty41]
  refine callThen_of (m _) ?_
  simp (maxSteps := 2000000) only [wk0, wk1, wk2, wk3, wk4, wk5, Fr.ev, Fr.put, Fr.get, pkB, pkT, pkF, storeA, if_false, if_true, Nat.reduceEqDiff, reduceIte, Nat.reduceAdd, List.replicate, Nat.reduceLeDiff, Nat.reduceMul, Nat.reduceSub, Nat.reducePow, Int.reduceLT, Int.reduceLE, Int.reduceToNat, Int.reducePow, IntKind.bits, Int.reduceEq, Int.reduceMul, Int.reduceNeg, ne_eq, reduceCtorEq, BEq.rfl, beq_self_eq_true, Int.reduceAdd, Int.reduceSub, Int.reduceMod, Int.reduceDiv, Nat.reduceMod, Nat.reduceDiv, Nat.reduceLT, cond_true, cond_false, gt_iff_lt, ge_iff_le, decide_true, decide_false, Bool.not_false, Bool.not_true, g1, w1, g2, g3, a0, ht, Int.toNat_natCast, Nat.add_zero, YtdknnaalfoongaaDoor.D14, ty1, ty2, ty3, ty4, ty22, ty41]
  exact retB_plain (by simp [nmd_int, nmd_lst]) rfl (by simp)
theorem add38_first (F : Nat → Pt) (c : Nat) (p : Pt) (S : Heap) (hp : mayP p) (hc : 1 ≤ c) : Call theE 14 [slP F 0, .int .i64 c, .agg [.int .i64 p.t, .int .i64 p.x, .int .i64 p.y]] S (.tup [slP (nxP F 0 c p) 1, .int .i64 0]) S := by
  have m := fun S => may38_ok p S hp
  have g1 : ¬ (c : Int) < 1 := by omega
  have b0 : 0 ≤ maxBytes := by unfold maxBytes; omega
  have b1 : 24 ≤ maxBytes := by unfold maxBytes; omega
  have b2 : (1 : Nat) ≤ 9223372036854775807 := by decide
  have b3 : (0 : Nat) ≤ 9223372036854775807 := by decide
  have e1 : ptC (nxP F 0 c p) 1 = pc p := by rw [show nxP F 0 c p = upd F 0 p from if_pos (by omega), ptC_succ, ptC_zero]; rfl
  unfold slP
  rw [if_pos rfl, if_neg (by decide), e1]
  refine Call.ofC Tryd.func14 YtdknnaalfoongaaDoor.b14 YtdknnaalfoongaaDoor.d14 YtdknnaalfoongaaDoor.e14 (by simp [Tryd.f14]) ?_
  dsimp only [YtdknnaalfoongaaDoor.c14, Tryd.f14, Option.getD_some]
  simp (maxSteps := 2000000) only [wk0, wk1, wk2, wk3, wk4, wk5, Fr.ev, Fr.put, Fr.get, pkB, pkT, pkF, storeA, if_false, if_true, Nat.reduceEqDiff, reduceIte, Nat.reduceAdd, List.replicate, Nat.reduceLeDiff, Nat.reduceMul, Nat.reduceSub, Nat.reducePow, Int.reduceLT, Int.reduceLE, Int.reduceToNat, Int.reducePow, IntKind.bits, Int.reduceEq, Int.reduceMul, Int.reduceNeg, ne_eq, reduceCtorEq, BEq.rfl, beq_self_eq_true, Int.reduceAdd, Int.reduceSub, Int.reduceMod, Int.reduceDiv, Nat.reduceMod, Nat.reduceDiv, Nat.reduceLT, cond_true, cond_false, gt_iff_lt, ge_iff_le, decide_true, decide_false, Bool.not_false, Bool.not_true, Int.lt_irrefl, freshApp, g1, b0, b1, b2, b3, YtdknnaalfoongaaDoor.D14, ty1, ty2, ty3, ty4, ty22, ty41]
  refine callThen_of (m _) ?_
  simp (maxSteps := 2000000) only [wk0, wk1, wk2, wk3, wk4, wk5, Fr.ev, Fr.put, Fr.get, pkB, pkT, pkF, storeA, if_false, if_true, Nat.reduceEqDiff, reduceIte, Nat.reduceAdd, List.replicate, Nat.reduceLeDiff, Nat.reduceMul, Nat.reduceSub, Nat.reducePow, Int.reduceLT, Int.reduceLE, Int.reduceToNat, Int.reducePow, IntKind.bits, Int.reduceEq, Int.reduceMul, Int.reduceNeg, ne_eq, reduceCtorEq, BEq.rfl, beq_self_eq_true, Int.reduceAdd, Int.reduceSub, Int.reduceMod, Int.reduceDiv, Nat.reduceMod, Nat.reduceDiv, Nat.reduceLT, cond_true, cond_false, gt_iff_lt, ge_iff_le, decide_true, decide_false, Bool.not_false, Bool.not_true, Int.lt_irrefl, freshApp, g1, b0, b1, b2, b3, YtdknnaalfoongaaDoor.D14, ty1, ty2, ty3, ty4, ty22, ty41]
  refine retB_two ?_ (.same _ (.int _ _)) (by simp)
  have e := Fin1.sl (base := S.length) (H := S ++ [some ⟨pc p, 0⟩, some ⟨pc p, 1⟩]) (S.length + 1) 1 0 1 1 3 _ (by omega) (by rw [blkAt_app]; rfl) (by intro x hx; simp [pc] at hx; rcases hx with rfl | rfl | rfl <;> exact .int _ _) (by simp [pc])
  exact e
theorem add38_ok (F : Nat → Pt) (n c : Nat) (p : Pt) (S : Heap) (hp : mayP p) (hn : 1 ≤ n) (hnc : n ≤ c) (hc : c ≤ 256) (ht : ¬ p.t ≤ (F (n - 1)).t) : Call theE 14 [slP F n, .int .i64 c, .agg [.int .i64 p.t, .int .i64 p.x, .int .i64 p.y]] S (.tup [slP (nxP F n c p) (min (n + 1) c), .int .i64 0]) S := by
  have m := fun S => may38_ok p S hp
  obtain ⟨a0, _, _⟩ := ptC_at F n (n - 1) (by omega)
  have g1 : (0 : Int) < (n : Int) := by omega
  have w1 : IntKind.i64.wrap ((n : Int) - 1) = ((n - 1 : Nat) : Int) := by rw [wrapI (by omega)]; omega
  have g2 : ((n - 1 : Nat) : Int) < (n : Int) := by omega
  have g3 : (0 : Int) ≤ ((n - 1 : Nat) : Int) := by omega
  have tk : List.take (n * 3) (ptC F n) = ptC F n := List.take_of_length_le (by rw [ptC_len]; omega)
  have b1 : n * 24 ≤ maxBytes := by unfold maxBytes; omega
  have b2 : n ≤ 9223372036854775807 := by omega
  have b3 : (n + 1) * 24 ≤ maxBytes := by unfold maxBytes; omega
  have b4 : n + 1 ≤ 9223372036854775807 := by omega
  have cs : ptC F n ++ [.int .i64 p.t, .int .i64 p.x, .int .i64 p.y] = ptC (upd F n p) (n + 1) := by
    rw [ptC_succ, show upd F n p n = p from if_pos rfl, ptC_congr (f := upd F n p) (g := F) fun i hi => if_neg (by omega)]
  unfold slP
  rw [if_neg (by omega), if_neg (by omega)]
  refine Call.ofC Tryd.func14 YtdknnaalfoongaaDoor.b14 YtdknnaalfoongaaDoor.d14 YtdknnaalfoongaaDoor.e14 (by simp [Tryd.f14]) ?_
  dsimp only [YtdknnaalfoongaaDoor.c14, Tryd.f14, Option.getD_some]
  by_cases hf : (c : Int) < ((n + 1 : Nat) : Int)
  · have hnx : nxP F n c p = fun i => upd F n p (i + 1) := if_neg (by omega)
    rw [hnx, show min (n + 1) c = n by omega]
    have b5 : (1 : Int) ≤ ((n + 1 : Nat) : Int) := by omega
    have b6 : ¬ (1 : Int) = ((n + 1 : Nat) : Int) := by omega
    have b7 : (0 : Int) ≤ 1 := by decide
    simp (maxSteps := 2000000) only [wk0, wk1, wk2, wk3, wk4, wk5, Fr.ev, Fr.put, Fr.get, pkB, pkT, pkF, storeA, if_false, if_true, Nat.reduceEqDiff, reduceIte, Nat.reduceAdd, List.replicate, Nat.reduceLeDiff, Nat.reduceMul, Nat.reduceSub, Nat.reducePow, Int.reduceLT, Int.reduceLE, Int.reduceToNat, Int.reducePow, IntKind.bits, Int.reduceEq, Int.reduceMul, Int.reduceNeg, ne_eq, reduceCtorEq, BEq.rfl, beq_self_eq_true, Int.reduceAdd, Int.reduceSub, Int.reduceMod, Int.reduceDiv, Nat.reduceMod, Nat.reduceDiv, Nat.reduceLT, cond_true, cond_false, gt_iff_lt, ge_iff_le, decide_true, decide_false, Bool.not_false, Bool.not_true, g1, w1, g2, g3, a0, ht, Int.toNat_natCast, Nat.add_zero, freshApp, ptC_len, Nat.le_refl, tk, b1, b2, b3, b4, b5, b6, b7, cs, hf, sliceA, boundA, Int.le_refl, Nat.add_sub_cancel, YtdknnaalfoongaaDoor.D14, ty1, ty2, ty3, ty4, ty22, ty41]
    refine callThen_of (m _) ?_
    simp (maxSteps := 2000000) only [wk0, wk1, wk2, wk3, wk4, wk5, Fr.ev, Fr.put, Fr.get, pkB, pkT, pkF, storeA, if_false, if_true, Nat.reduceEqDiff, reduceIte, Nat.reduceAdd, List.replicate, Nat.reduceLeDiff, Nat.reduceMul, Nat.reduceSub, Nat.reducePow, Int.reduceLT, Int.reduceLE, Int.reduceToNat, Int.reducePow, IntKind.bits, Int.reduceEq, Int.reduceMul, Int.reduceNeg, ne_eq, reduceCtorEq, BEq.rfl, beq_self_eq_true, Int.reduceAdd, Int.reduceSub, Int.reduceMod, Int.reduceDiv, Nat.reduceMod, Nat.reduceDiv, Nat.reduceLT, cond_true, cond_false, gt_iff_lt, ge_iff_le, decide_true, decide_false, Bool.not_false, Bool.not_true, g1, w1, g2, g3, a0, ht, Int.toNat_natCast, Nat.add_zero, freshApp, ptC_len, Nat.le_refl, tk, b1, b2, b3, b4, b5, b6, b7, cs, hf, sliceA, boundA, Int.le_refl, Nat.add_sub_cancel, YtdknnaalfoongaaDoor.D14, ty1, ty2, ty3, ty4, ty22, ty41]
    refine retB_two ?_ (.same _ (.int _ _)) (by simp)
    have e := Fin1.sl (base := S.length) (H := S ++ [some ⟨pc p, 0⟩, some ⟨ptC (upd F n p) (n + 1), n + 1⟩]) (S.length + 1) (n + 1) 3 n n 3 ⟨ptC (upd F n p) (n + 1), n + 1⟩ (by omega) (by rw [blkAt_app]; simp [blkAt]) (ptC_nmd _ 0 _) (by simp [ptC_len]; omega)
    rw [ptC_tail, List.take_of_length_le (by rw [ptC_len]; omega)] at e
    exact e
  · have hnx : nxP F n c p = upd F n p := if_pos (by omega)
    rw [hnx, show min (n + 1) c = n + 1 by omega]
    simp (maxSteps := 2000000) only [wk0, wk1, wk2, wk3, wk4, wk5, Fr.ev, Fr.put, Fr.get, pkB, pkT, pkF, storeA, if_false, if_true, Nat.reduceEqDiff, reduceIte, Nat.reduceAdd, List.replicate, Nat.reduceLeDiff, Nat.reduceMul, Nat.reduceSub, Nat.reducePow, Int.reduceLT, Int.reduceLE, Int.reduceToNat, Int.reducePow, IntKind.bits, Int.reduceEq, Int.reduceMul, Int.reduceNeg, ne_eq, reduceCtorEq, BEq.rfl, beq_self_eq_true, Int.reduceAdd, Int.reduceSub, Int.reduceMod, Int.reduceDiv, Nat.reduceMod, Nat.reduceDiv, Nat.reduceLT, cond_true, cond_false, gt_iff_lt, ge_iff_le, decide_true, decide_false, Bool.not_false, Bool.not_true, g1, w1, g2, g3, a0, ht, Int.toNat_natCast, Nat.add_zero, freshApp, ptC_len, Nat.le_refl, tk, b1, b2, b3, b4, cs, hf, YtdknnaalfoongaaDoor.D14, ty1, ty2, ty3, ty4, ty22, ty41]
    refine callThen_of (m _) ?_
    simp (maxSteps := 2000000) only [wk0, wk1, wk2, wk3, wk4, wk5, Fr.ev, Fr.put, Fr.get, pkB, pkT, pkF, storeA, if_false, if_true, Nat.reduceEqDiff, reduceIte, Nat.reduceAdd, List.replicate, Nat.reduceLeDiff, Nat.reduceMul, Nat.reduceSub, Nat.reducePow, Int.reduceLT, Int.reduceLE, Int.reduceToNat, Int.reducePow, IntKind.bits, Int.reduceEq, Int.reduceMul, Int.reduceNeg, ne_eq, reduceCtorEq, BEq.rfl, beq_self_eq_true, Int.reduceAdd, Int.reduceSub, Int.reduceMod, Int.reduceDiv, Nat.reduceMod, Nat.reduceDiv, Nat.reduceLT, cond_true, cond_false, gt_iff_lt, ge_iff_le, decide_true, decide_false, Bool.not_false, Bool.not_true, g1, w1, g2, g3, a0, ht, Int.toNat_natCast, Nat.add_zero, freshApp, ptC_len, Nat.le_refl, tk, b1, b2, b3, b4, cs, hf, YtdknnaalfoongaaDoor.D14, ty1, ty2, ty3, ty4, ty22, ty41]
    refine retB_two ?_ (.same _ (.int _ _)) (by simp)
    have e := Fin1.sl (base := S.length) (H := S ++ [some ⟨pc p, 0⟩, some ⟨ptC (upd F n p) (n + 1), n + 1⟩]) (S.length + 1) (n + 1) 0 (n + 1) (n + 1) 3 ⟨ptC (upd F n p) (n + 1), n + 1⟩ (by omega) (by rw [blkAt_app]; simp [blkAt]) (ptC_nmd _ 0 _) (by simp [ptC_len])
    rw [List.drop_zero, List.take_of_length_le (by rw [ptC_len]; omega)] at e
    exact e
end Go.Proofs.YtdknnaalfoongaaDoor

/- radomeref38: how fast, and the middle. -/
set_option linter.unusedSimpArgs false
set_option linter.unusedVariables false
set_option maxRecDepth 100000
set_option maxHeartbeats 4000000
namespace Go.Proofs.YtdknnaalfoongaaDoor
theorem ptC_zth (F : Nat → Pt) (n : Nat) (h : 0 < n) : (ptC F n)[0]? = some (.int .i64 (F 0).t) ∧ (ptC F n)[1]? = some (.int .i64 (F 0).x) ∧ (ptC F n)[2]? = some (.int .i64 (F 0).y) := by
  have := ptC_at F n 0 h
  simpa using this
noncomputable def c16 : Code := Tryd.f16.body.getD .skip
theorem b16 : Tryd.f16.body = some c16 := rfl
theorem d16 : fnOk Tryd.f16 c16 = true := by kernel_rfl
def D16 : Nat → List Tag
  | 4 => [.pure, .pure, .pure, .pure, .pure, .quiet, .pure, .pure, .pure, .quiet, .pure, .pure, .pure, .pure, .pure, .pure, .quiet, .pure, .pure, .pure, .quiet, .pure, .seq, .pure, .pure, .pure, .pure, .pure]
  | 5 => [.pure, .pure, .pure, .pure, .pure, .quiet, .pure, .pure, .pure, .quiet, .pure, .pure, .pure, .pure, .pure, .pure, .quiet, .pure, .pure, .pure, .quiet, .pure, .seq, .pure, .pure, .pure, .pure, .pure]
  | _ => []
theorem e16 : drawsOk D16 c16 = true := by kernel_rfl
noncomputable def c17 : Code := Tryd.f17.body.getD .skip
theorem b17 : Tryd.f17.body = some c17 := rfl
theorem d17 : fnOk Tryd.f17 c17 = true := by kernel_rfl
def D17 : Nat → List Tag
  | 7 => [.quiet, .pure, .pure, .pure, .pure, .quiet, .quiet, .quiet, .quiet, .pure, .pure, .pure, .pure, .quiet, .quiet, .seq, .seq, .seq]
  | 9 => [.quiet, .quiet, .quiet, .quiet, .quiet, .quiet, .seq, .seq, .pure, .pure, .pure]
  | _ => []
theorem e17 : drawsOk D17 c17 = true := by kernel_rfl
theorem speed38_few (F : Nat → Pt) (n : Nat) (S : Heap) (h : n < 2) : Call theE 16 [slP F n] S (.tup [.int .i64 0, .int .i64 0, .bool false, .int .i64 8]) S := by
  have k : (n : Int) < 2 := by omega
  unfold slP
  refine Call.ofC Tryd.func16 YtdknnaalfoongaaDoor.b16 YtdknnaalfoongaaDoor.d16 YtdknnaalfoongaaDoor.e16 (by simp [Tryd.f16]) ?_
  dsimp only [YtdknnaalfoongaaDoor.c16, Tryd.f16, Option.getD_some]
  by_cases h0 : n = 0
  · rw [if_pos h0]
    simp (maxSteps := 2000000) only [wk0, wk1, wk2, wk3, wk4, wk5, Fr.ev, Fr.put, Fr.get, pkB, pkT, pkF, storeA, if_false, if_true, Nat.reduceEqDiff, reduceIte, Nat.reduceAdd, List.replicate, Nat.reduceLeDiff, Nat.reduceMul, Nat.reduceSub, Nat.reducePow, Int.reduceLT, Int.reduceLE, Int.reduceToNat, Int.reducePow, IntKind.bits, Int.reduceEq, Int.reduceMul, Int.reduceNeg, ne_eq, reduceCtorEq, BEq.rfl, beq_self_eq_true, Int.reduceAdd, Int.reduceSub, Int.reduceMod, Int.reduceDiv, Nat.reduceMod, Nat.reduceDiv, Nat.reduceLT, cond_true, cond_false, gt_iff_lt, ge_iff_le, YtdknnaalfoongaaDoor.D16, ty1, ty2, ty3, ty4, ty22, ty41]
    exact retB_plain (by simp [nmd_int, nmd_bool]) rfl (by simp)
  · rw [if_neg h0]
    simp (maxSteps := 2000000) only [wk0, wk1, wk2, wk3, wk4, wk5, Fr.ev, Fr.put, Fr.get, pkB, pkT, pkF, storeA, if_false, if_true, Nat.reduceEqDiff, reduceIte, Nat.reduceAdd, List.replicate, Nat.reduceLeDiff, Nat.reduceMul, Nat.reduceSub, Nat.reducePow, Int.reduceLT, Int.reduceLE, Int.reduceToNat, Int.reducePow, IntKind.bits, Int.reduceEq, Int.reduceMul, Int.reduceNeg, ne_eq, reduceCtorEq, BEq.rfl, beq_self_eq_true, Int.reduceAdd, Int.reduceSub, Int.reduceMod, Int.reduceDiv, Nat.reduceMod, Nat.reduceDiv, Nat.reduceLT, cond_true, cond_false, gt_iff_lt, ge_iff_le, k, YtdknnaalfoongaaDoor.D16, ty1, ty2, ty3, ty4, ty22, ty41]
    exact retB_plain (by simp [nmd_int, nmd_bool]) rfl (by simp)
theorem speed38_ok (F : Nat → Pt) (n : Nat) (S : Heap) (h : 2 ≤ n) (hb : n ≤ 256) (hp : ∀ i, i < n → mayP (F i)) (u v : Int) (o o' : Bool)
    (d1 : ∀ S, Call theE 44 [.int .i64 ((F (n - 1)).x - (F 0).x), .int .i64 ((F (n - 1)).t - (F 0).t), .int .i64 20] S (.tup [.int .i64 u, .bool o]) S)
    (d2 : ∀ S, Call theE 44 [.int .i64 ((F (n - 1)).y - (F 0).y), .int .i64 ((F (n - 1)).t - (F 0).t), .int .i64 20] S (.tup [.int .i64 v, .bool o']) S) :
    Call theE 16 [slP F n] S (.tup [.int .i64 u, .int .i64 v, .bool (o || o'), .int .i64 0]) S := by
  have p0 := hp 0 (by omega)
  have p1 := hp (n - 1) (by omega)
  have k : ¬ (n : Int) < 2 := by omega
  have k0 : (0 : Int) < (n : Int) := by omega
  obtain ⟨a0, a1, a2⟩ := ptC_zth F n (by omega)
  obtain ⟨b0, b1, b2⟩ := ptC_at F n (n - 1) (by omega)
  have w0 : IntKind.i64.wrap ((n : Int) - 1) = ((n - 1 : Nat) : Int) := by rw [wrapI (by omega)]; omega
  have g2 : ((n - 1 : Nat) : Int) < (n : Int) := by omega
  have g3 : (0 : Int) ≤ ((n - 1 : Nat) : Int) := by omega
  unfold mayP at p0 p1
  have w1 : IntKind.i64.wrap ((F (n - 1)).x - (F 0).x) = (F (n - 1)).x - (F 0).x := wrapI (by omega)
  have w2 : IntKind.i64.wrap ((F (n - 1)).y - (F 0).y) = (F (n - 1)).y - (F 0).y := wrapI (by omega)
  have w3 : IntKind.i64.wrap ((F (n - 1)).t - (F 0).t) = (F (n - 1)).t - (F 0).t := wrapI (by omega)
  unfold slP
  rw [if_neg (by omega)]
  refine Call.ofC Tryd.func16 YtdknnaalfoongaaDoor.b16 YtdknnaalfoongaaDoor.d16 YtdknnaalfoongaaDoor.e16 (by simp [Tryd.f16]) ?_
  dsimp only [YtdknnaalfoongaaDoor.c16, Tryd.f16, Option.getD_some]
  simp (maxSteps := 2000000) only [wk0, wk1, wk2, wk3, wk4, wk5, Fr.ev, Fr.put, Fr.get, pkB, pkT, pkF, storeA, if_false, if_true, Nat.reduceEqDiff, reduceIte, Nat.reduceAdd, List.replicate, Nat.reduceLeDiff, Nat.reduceMul, Nat.reduceSub, Nat.reducePow, Int.reduceLT, Int.reduceLE, Int.reduceToNat, Int.reducePow, IntKind.bits, Int.reduceEq, Int.reduceMul, Int.reduceNeg, ne_eq, reduceCtorEq, BEq.rfl, beq_self_eq_true, Int.reduceAdd, Int.reduceSub, Int.reduceMod, Int.reduceDiv, Nat.reduceMod, Nat.reduceDiv, Nat.reduceLT, cond_true, cond_false, gt_iff_lt, ge_iff_le, k, k0, a0, a1, a2, b0, b1, b2, w0, g2, g3, w1, w2, w3, Int.toNat_natCast, Nat.add_zero, Nat.zero_add, Int.le_refl, YtdknnaalfoongaaDoor.D16, ty1, ty2, ty3, ty4, ty22, ty41]
  refine callThen_of (d1 _) ?_
  simp (maxSteps := 2000000) only [wk0, wk1, wk2, wk3, wk4, wk5, Fr.ev, Fr.put, Fr.get, pkB, pkT, pkF, storeA, if_false, if_true, Nat.reduceEqDiff, reduceIte, Nat.reduceAdd, List.replicate, Nat.reduceLeDiff, Nat.reduceMul, Nat.reduceSub, Nat.reducePow, Int.reduceLT, Int.reduceLE, Int.reduceToNat, Int.reducePow, IntKind.bits, Int.reduceEq, Int.reduceMul, Int.reduceNeg, ne_eq, reduceCtorEq, BEq.rfl, beq_self_eq_true, Int.reduceAdd, Int.reduceSub, Int.reduceMod, Int.reduceDiv, Nat.reduceMod, Nat.reduceDiv, Nat.reduceLT, cond_true, cond_false, gt_iff_lt, ge_iff_le, k, k0, a0, a1, a2, b0, b1, b2, w0, g2, g3, w1, w2, w3, Int.toNat_natCast, Nat.add_zero, Nat.zero_add, Int.le_refl, YtdknnaalfoongaaDoor.D16, ty1, ty2, ty3, ty4, ty22, ty41]
  refine callThen_of (d2 _) ?_
  cases o
  · simp (maxSteps := 2000000) only [wk0, wk1, wk2, wk3, wk4, wk5, Fr.ev, Fr.put, Fr.get, pkB, pkT, pkF, storeA, if_false, if_true, Nat.reduceEqDiff, reduceIte, Nat.reduceAdd, List.replicate, Nat.reduceLeDiff, Nat.reduceMul, Nat.reduceSub, Nat.reducePow, Int.reduceLT, Int.reduceLE, Int.reduceToNat, Int.reducePow, IntKind.bits, Int.reduceEq, Int.reduceMul, Int.reduceNeg, ne_eq, reduceCtorEq, BEq.rfl, beq_self_eq_true, Int.reduceAdd, Int.reduceSub, Int.reduceMod, Int.reduceDiv, Nat.reduceMod, Nat.reduceDiv, Nat.reduceLT, cond_true, cond_false, gt_iff_lt, ge_iff_le, YtdknnaalfoongaaDoor.D16, ty1, ty2, ty3, ty4, ty22, ty41]
    exact retB_plain (by simp [nmd_int, nmd_bool]) rfl (by simp)
  · simp (maxSteps := 2000000) only [wk0, wk1, wk2, wk3, wk4, wk5, Fr.ev, Fr.put, Fr.get, pkB, pkT, pkF, storeA, if_false, if_true, Nat.reduceEqDiff, reduceIte, Nat.reduceAdd, List.replicate, Nat.reduceLeDiff, Nat.reduceMul, Nat.reduceSub, Nat.reducePow, Int.reduceLT, Int.reduceLE, Int.reduceToNat, Int.reducePow, IntKind.bits, Int.reduceEq, Int.reduceMul, Int.reduceNeg, ne_eq, reduceCtorEq, BEq.rfl, beq_self_eq_true, Int.reduceAdd, Int.reduceSub, Int.reduceMod, Int.reduceDiv, Nat.reduceMod, Nat.reduceDiv, Nat.reduceLT, cond_true, cond_false, gt_iff_lt, ge_iff_le, YtdknnaalfoongaaDoor.D16, ty1, ty2, ty3, ty4, ty22, ty41]
    exact retB_plain (by simp [nmd_int, nmd_bool]) rfl (by simp)
end Go.Proofs.YtdknnaalfoongaaDoor

/- radomeref38: the middle, and how long the way is. -/
set_option linter.unusedSimpArgs false
set_option linter.unusedVariables false
set_option maxRecDepth 100000
set_option maxHeartbeats 4000000
namespace Go.Proofs.YtdknnaalfoongaaDoor
def dcT (z : Int) : Option Blk := some ⟨[.bool (decide (z < 0)), .lst ((digs z.natAbs).map fun x => .int .i64 x) (lenD z.natAbs)], 0⟩
theorem middle38_none (F : Nat → Pt) (S : Heap) : Call theE 17 [slP F 0] S (.tup [.int .i64 0, .int .i64 0, .int .i64 8]) S := by
  unfold slP
  rw [if_pos rfl]
  refine Call.ofC Tryd.func17 YtdknnaalfoongaaDoor.b17 YtdknnaalfoongaaDoor.d17 YtdknnaalfoongaaDoor.e17 (by simp [Tryd.f17]) ?_
  dsimp only [YtdknnaalfoongaaDoor.c17, Tryd.f17, Option.getD_some]
  simp (maxSteps := 2000000) only [wk0, wk1, wk2, wk3, wk4, wk5, Fr.ev, Fr.put, Fr.get, pkB, pkT, pkF, storeA, if_false, if_true, Nat.reduceEqDiff, reduceIte, Nat.reduceAdd, List.replicate, Nat.reduceLeDiff, Nat.reduceMul, Nat.reduceSub, Nat.reducePow, Int.reduceLT, Int.reduceLE, Int.reduceToNat, Int.reducePow, IntKind.bits, Int.reduceEq, Int.reduceMul, Int.reduceNeg, ne_eq, reduceCtorEq, BEq.rfl, beq_self_eq_true, Int.reduceAdd, Int.reduceSub, Int.reduceMod, Int.reduceDiv, Nat.reduceMod, Nat.reduceDiv, Nat.reduceLT, cond_true, cond_false, gt_iff_lt, ge_iff_le, YtdknnaalfoongaaDoor.D17, ty1, ty2, ty3, ty4, ty22, ty41, ty93]
  exact retB_plain (by simp [nmd_int]) rfl (by simp)
theorem middle38_ok (F : Nat → Pt) (n : Nat) (S : Heap) (h : 1 ≤ n) (hb : n ≤ 256) (hp : ∀ i, i < n → mayP (F i)) :
    Call theE 17 [slP F n] S (.tup [.int .i64 (smI (fun i => (F i).x) n / n), .int .i64 (smI (fun i => (F i).y) n / n), .int .i64 0]) S := by
  have big : ∀ z : Int, -9223372036854775808 ≤ z → z ≤ 9223372036854775807 → lenD z.natAbs ≤ 20 := fun z h1 h2 => (lenD_le _ _).2 (by omega)
  have bx : ∀ j, j ≤ n → -9007199254740992 ≤ smI (fun i => (F i).x) j ∧ smI (fun i => (F i).x) j ≤ 9007199254740992 := fun j hj => by
    have := smI_bound (f := fun i => (F i).x) (lo := -35184372088832) (hi := 35184372088832) (n := j) fun i hi => (hp i (by omega)).2.1
    omega
  have by' : ∀ j, j ≤ n → -9007199254740992 ≤ smI (fun i => (F i).y) j ∧ smI (fun i => (F i).y) j ≤ 9007199254740992 := fun j hj => by
    have := smI_bound (f := fun i => (F i).y) (lo := -35184372088832) (hi := 35184372088832) (n := j) fun i hi => (hp i (by omega)).2.2
    omega
  have k : ¬ (n : Int) = 0 := by omega
  have k0 : (0 : Int) < (n : Int) := by omega
  obtain ⟨a0, a1, a2⟩ := ptC_zth F n (by omega)
  have hp0 := hp 0 (by omega)
  unfold mayP at hp0
  have ox0 := fun S => decOf_ok (F 0).x S (by unfold inI; omega)
  have oy0 := fun S => decOf_ok (F 0).y S (by unfold inI; omega)
  have ax0 := fun S => decAddZ_ok (F 0).x S (by have := big (F 0).x (by omega) (by omega); omega)
  have ay0 := fun S => decAddZ_ok (F 0).y S (by have := big (F 0).y (by omega) (by omega); omega)
  simp only [decA, lstI, digs_len] at ox0 oy0 ax0 ay0
  have w1 : IntKind.i64.wrap (0 + 1) = 1 := by decide
  unfold slP
  rw [if_neg (by omega)]
  refine Call.ofC Tryd.func17 YtdknnaalfoongaaDoor.b17 YtdknnaalfoongaaDoor.d17 YtdknnaalfoongaaDoor.e17 (by simp [Tryd.f17]) ?_
  dsimp only [YtdknnaalfoongaaDoor.c17, Tryd.f17, Option.getD_some]
  simp (maxSteps := 2000000) only [wk0, wk1, wk2, wk3, wk4, wk5, Fr.ev, Fr.put, Fr.get, pkB, pkT, pkF, storeA, if_false, if_true, Nat.reduceEqDiff, reduceIte, Nat.reduceAdd, List.replicate, Nat.reduceLeDiff, Nat.reduceMul, Nat.reduceSub, Nat.reducePow, Int.reduceLT, Int.reduceLE, Int.reduceToNat, Int.reducePow, IntKind.bits, Int.reduceEq, Int.reduceMul, Int.reduceNeg, ne_eq, reduceCtorEq, BEq.rfl, beq_self_eq_true, Int.reduceAdd, Int.reduceSub, Int.reduceMod, Int.reduceDiv, Nat.reduceMod, Nat.reduceDiv, Nat.reduceLT, cond_true, cond_false, gt_iff_lt, ge_iff_le, k, YtdknnaalfoongaaDoor.D17, ty1, ty2, ty3, ty4, ty22, ty41, ty93]
  refine loopC_of ?_
  simp (maxSteps := 2000000) only [wk0, wk1, wk2, wk3, wk4, wk5, Fr.ev, Fr.put, Fr.get, pkB, pkT, pkF, storeA, if_false, if_true, Nat.reduceEqDiff, reduceIte, Nat.reduceAdd, List.replicate, Nat.reduceLeDiff, Nat.reduceMul, Nat.reduceSub, Nat.reducePow, Int.reduceLT, Int.reduceLE, Int.reduceToNat, Int.reducePow, IntKind.bits, Int.reduceEq, Int.reduceMul, Int.reduceNeg, ne_eq, reduceCtorEq, BEq.rfl, beq_self_eq_true, Int.reduceAdd, Int.reduceSub, Int.reduceMod, Int.reduceDiv, Nat.reduceMod, Nat.reduceDiv, Nat.reduceLT, cond_true, cond_false, gt_iff_lt, ge_iff_le, k0, a1, a2, Nat.zero_add, Int.le_refl, YtdknnaalfoongaaDoor.D17, ty1, ty2, ty3, ty4, ty22, ty41, ty93]
  refine callThen_of (ox0 _) ?_
  simp (maxSteps := 2000000) only [wk0, wk1, wk2, wk3, wk4, wk5, Fr.ev, Fr.put, Fr.get, pkB, pkT, pkF, storeA, if_false, if_true, Nat.reduceEqDiff, reduceIte, Nat.reduceAdd, List.replicate, Nat.reduceLeDiff, Nat.reduceMul, Nat.reduceSub, Nat.reducePow, Int.reduceLT, Int.reduceLE, Int.reduceToNat, Int.reducePow, IntKind.bits, Int.reduceEq, Int.reduceMul, Int.reduceNeg, ne_eq, reduceCtorEq, BEq.rfl, beq_self_eq_true, Int.reduceAdd, Int.reduceSub, Int.reduceMod, Int.reduceDiv, Nat.reduceMod, Nat.reduceDiv, Nat.reduceLT, cond_true, cond_false, gt_iff_lt, ge_iff_le, k0, a1, a2, Nat.zero_add, Int.le_refl, YtdknnaalfoongaaDoor.D17, ty1, ty2, ty3, ty4, ty22, ty41, ty93]
  refine callThen_of (ax0 _) ?_
  simp (maxSteps := 2000000) only [wk0, wk1, wk2, wk3, wk4, wk5, Fr.ev, Fr.put, Fr.get, pkB, pkT, pkF, storeA, if_false, if_true, Nat.reduceEqDiff, reduceIte, Nat.reduceAdd, List.replicate, Nat.reduceLeDiff, Nat.reduceMul, Nat.reduceSub, Nat.reducePow, Int.reduceLT, Int.reduceLE, Int.reduceToNat, Int.reducePow, IntKind.bits, Int.reduceEq, Int.reduceMul, Int.reduceNeg, ne_eq, reduceCtorEq, BEq.rfl, beq_self_eq_true, Int.reduceAdd, Int.reduceSub, Int.reduceMod, Int.reduceDiv, Nat.reduceMod, Nat.reduceDiv, Nat.reduceLT, cond_true, cond_false, gt_iff_lt, ge_iff_le, k0, a1, a2, Nat.zero_add, Int.le_refl, YtdknnaalfoongaaDoor.D17, ty1, ty2, ty3, ty4, ty22, ty41, ty93]
  refine callThen_of (oy0 _) ?_
  simp (maxSteps := 2000000) only [wk0, wk1, wk2, wk3, wk4, wk5, Fr.ev, Fr.put, Fr.get, pkB, pkT, pkF, storeA, if_false, if_true, Nat.reduceEqDiff, reduceIte, Nat.reduceAdd, List.replicate, Nat.reduceLeDiff, Nat.reduceMul, Nat.reduceSub, Nat.reducePow, Int.reduceLT, Int.reduceLE, Int.reduceToNat, Int.reducePow, IntKind.bits, Int.reduceEq, Int.reduceMul, Int.reduceNeg, ne_eq, reduceCtorEq, BEq.rfl, beq_self_eq_true, Int.reduceAdd, Int.reduceSub, Int.reduceMod, Int.reduceDiv, Nat.reduceMod, Nat.reduceDiv, Nat.reduceLT, cond_true, cond_false, gt_iff_lt, ge_iff_le, k0, a1, a2, Nat.zero_add, Int.le_refl, YtdknnaalfoongaaDoor.D17, ty1, ty2, ty3, ty4, ty22, ty41, ty93]
  refine callThen_of (ay0 _) ?_
  simp (maxSteps := 2000000) only [wk0, wk1, wk2, wk3, wk4, wk5, Fr.ev, Fr.put, Fr.get, pkB, pkT, pkF, storeA, if_false, if_true, Nat.reduceEqDiff, reduceIte, Nat.reduceAdd, List.replicate, Nat.reduceLeDiff, Nat.reduceMul, Nat.reduceSub, Nat.reducePow, Int.reduceLT, Int.reduceLE, Int.reduceToNat, Int.reducePow, IntKind.bits, Int.reduceEq, Int.reduceMul, Int.reduceNeg, ne_eq, reduceCtorEq, BEq.rfl, beq_self_eq_true, Int.reduceAdd, Int.reduceSub, Int.reduceMod, Int.reduceDiv, Nat.reduceMod, Nat.reduceDiv, Nat.reduceLT, cond_true, cond_false, gt_iff_lt, ge_iff_le, k0, a1, a2, Nat.zero_add, Int.le_refl, w1, YtdknnaalfoongaaDoor.D17, ty1, ty2, ty3, ty4, ty22, ty41, ty93]
  have e1 : smI (fun i => (F i).x) 1 = (F 0).x := by simp [smI]
  have e2 : smI (fun i => (F i).y) 1 = (F 0).y := by simp [smI]
  refine loopC_ind (fun m fr H => ∃ j : Nat, j + m = n ∧ 1 ≤ j ∧ fr.get 0 = .lst (ptC F n) n ∧ fr.get 5 = .ptr S.length 0 0 ∧ fr.get 6 = .ptr (S.length + 1) 0 0 ∧ fr.get 7 = .int .i64 (j : Int) ∧ H = S ++ [dcT (smI (fun i => (F i).x) j), dcT (smI (fun i => (F i).y) j)]) ?_ (n := n - 1)
    ⟨1, by omega, by omega, rfl, rfl, rfl, rfl, by rw [e1, e2]; rfl⟩
  rintro m fr H ⟨j, hjm, hj1, g0, g5, g6, g7, rfl⟩ ih
  unfold dcT
  have bxj := bx j (by omega)
  have byj := by' j (by omega)
  by_cases hj : (j : Int) < n
  · have hjn : j < n := by omega
    have hpj := hp j hjn
    unfold mayP at hpj
    obtain ⟨_, c1, c2⟩ := ptC_at F n j hjn
    have q1 : (0 : Int) ≤ (j : Int) := by omega
    have wi : IntKind.i64.wrap ((j : Int) + 1) = ((j + 1 : Nat) : Int) := wrapI (by omega)
    have l1 := big (F j).x (by omega) (by omega)
    have l2 := big (F j).y (by omega) (by omega)
    have l3 := big (smI (fun i => (F i).x) j) (by omega) (by omega)
    have l4 := big (smI (fun i => (F i).y) j) (by omega) (by omega)
    have ox := fun S => decOf_ok (F j).x S (by unfold inI; omega)
    have oy := fun S => decOf_ok (F j).y S (by unfold inI; omega)
    have ax : ∀ S, Call theE 40 [decA (smI (fun i => (F i).x) j), decA (F j).x] S (decA (smI (fun i => (F i).x) (j + 1))) S := fun S => decAdd_ok _ _ S (by omega) (by omega)
    have ay : ∀ S, Call theE 40 [decA (smI (fun i => (F i).y) j), decA (F j).y] S (decA (smI (fun i => (F i).y) (j + 1))) S := fun S => decAdd_ok _ _ S (by omega) (by omega)
    simp only [decA, lstI, digs_len] at ox oy ax ay
    simp (maxSteps := 2000000) only [wk0, wk1, wk2, wk3, wk4, wk5, Fr.ev, Fr.put, Fr.get, pkB, pkT, pkF, storeA, if_false, if_true, Nat.reduceEqDiff, reduceIte, Nat.reduceAdd, List.replicate, Nat.reduceLeDiff, Nat.reduceMul, Nat.reduceSub, Nat.reducePow, Int.reduceLT, Int.reduceLE, Int.reduceToNat, Int.reducePow, IntKind.bits, Int.reduceEq, Int.reduceMul, Int.reduceNeg, ne_eq, reduceCtorEq, BEq.rfl, beq_self_eq_true, Int.reduceAdd, Int.reduceSub, Int.reduceMod, Int.reduceDiv, Nat.reduceMod, Nat.reduceDiv, Nat.reduceLT, cond_true, cond_false, gt_iff_lt, ge_iff_le, g0, g5, g6, g7, hj, q1, c1, c2, Int.toNat_natCast, YtdknnaalfoongaaDoor.D17, ty1, ty2, ty3, ty4, ty22, ty41, ty93]
    refine callThen_of (ox _) ?_
    simp (maxSteps := 2000000) only [wk0, wk1, wk2, wk3, wk4, wk5, Fr.ev, Fr.put, Fr.get, pkB, pkT, pkF, storeA, if_false, if_true, Nat.reduceEqDiff, reduceIte, Nat.reduceAdd, List.replicate, Nat.reduceLeDiff, Nat.reduceMul, Nat.reduceSub, Nat.reducePow, Int.reduceLT, Int.reduceLE, Int.reduceToNat, Int.reducePow, IntKind.bits, Int.reduceEq, Int.reduceMul, Int.reduceNeg, ne_eq, reduceCtorEq, BEq.rfl, beq_self_eq_true, Int.reduceAdd, Int.reduceSub, Int.reduceMod, Int.reduceDiv, Nat.reduceMod, Nat.reduceDiv, Nat.reduceLT, cond_true, cond_false, gt_iff_lt, ge_iff_le, g0, g5, g6, g7, hj, q1, c1, c2, Int.toNat_natCast, YtdknnaalfoongaaDoor.D17, ty1, ty2, ty3, ty4, ty22, ty41, ty93]
    refine callThen_of (ax _) ?_
    simp (maxSteps := 2000000) only [wk0, wk1, wk2, wk3, wk4, wk5, Fr.ev, Fr.put, Fr.get, pkB, pkT, pkF, storeA, if_false, if_true, Nat.reduceEqDiff, reduceIte, Nat.reduceAdd, List.replicate, Nat.reduceLeDiff, Nat.reduceMul, Nat.reduceSub, Nat.reducePow, Int.reduceLT, Int.reduceLE, Int.reduceToNat, Int.reducePow, IntKind.bits, Int.reduceEq, Int.reduceMul, Int.reduceNeg, ne_eq, reduceCtorEq, BEq.rfl, beq_self_eq_true, Int.reduceAdd, Int.reduceSub, Int.reduceMod, Int.reduceDiv, Nat.reduceMod, Nat.reduceDiv, Nat.reduceLT, cond_true, cond_false, gt_iff_lt, ge_iff_le, g0, g5, g6, g7, hj, q1, c1, c2, Int.toNat_natCast, YtdknnaalfoongaaDoor.D17, ty1, ty2, ty3, ty4, ty22, ty41, ty93]
    refine callThen_of (oy _) ?_
    simp (maxSteps := 2000000) only [wk0, wk1, wk2, wk3, wk4, wk5, Fr.ev, Fr.put, Fr.get, pkB, pkT, pkF, storeA, if_false, if_true, Nat.reduceEqDiff, reduceIte, Nat.reduceAdd, List.replicate, Nat.reduceLeDiff, Nat.reduceMul, Nat.reduceSub, Nat.reducePow, Int.reduceLT, Int.reduceLE, Int.reduceToNat, Int.reducePow, IntKind.bits, Int.reduceEq, Int.reduceMul, Int.reduceNeg, ne_eq, reduceCtorEq, BEq.rfl, beq_self_eq_true, Int.reduceAdd, Int.reduceSub, Int.reduceMod, Int.reduceDiv, Nat.reduceMod, Nat.reduceDiv, Nat.reduceLT, cond_true, cond_false, gt_iff_lt, ge_iff_le, g0, g5, g6, g7, hj, q1, c1, c2, Int.toNat_natCast, YtdknnaalfoongaaDoor.D17, ty1, ty2, ty3, ty4, ty22, ty41, ty93]
    refine callThen_of (ay _) ?_
    simp (maxSteps := 2000000) only [wk0, wk1, wk2, wk3, wk4, wk5, Fr.ev, Fr.put, Fr.get, pkB, pkT, pkF, storeA, if_false, if_true, Nat.reduceEqDiff, reduceIte, Nat.reduceAdd, List.replicate, Nat.reduceLeDiff, Nat.reduceMul, Nat.reduceSub, Nat.reducePow, Int.reduceLT, Int.reduceLE, Int.reduceToNat, Int.reducePow, IntKind.bits, Int.reduceEq, Int.reduceMul, Int.reduceNeg, ne_eq, reduceCtorEq, BEq.rfl, beq_self_eq_true, Int.reduceAdd, Int.reduceSub, Int.reduceMod, Int.reduceDiv, Nat.reduceMod, Nat.reduceDiv, Nat.reduceLT, cond_true, cond_false, gt_iff_lt, ge_iff_le, g0, g5, g6, g7, hj, q1, c1, c2, Int.toNat_natCast, wi, YtdknnaalfoongaaDoor.D17, ty1, ty2, ty3, ty4, ty22, ty41, ty93]
    exact ih (m - 1) _ _ (by omega) ⟨j + 1, by omega, by omega, by simp [Fr.get, g0], by simp [Fr.get, g5], by simp [Fr.get, g6], by simp [Fr.get], rfl⟩
  · obtain rfl : j = n := by omega
    have l3 := big (smI (fun i => (F i).x) j) (by omega) (by omega)
    have l4 := big (smI (fun i => (F i).y) j) (by omega) (by omega)
    have l5 := big (j : Int) (by omega) (by omega)
    have on := fun S => decOf_ok (j : Int) S (by unfold inI; omega)
    have fx := fun S => decFloor_ok (smI (fun i => (F i).x) j) (j : Int) S (by omega) (by omega) k
    have fy := fun S => decFloor_ok (smI (fun i => (F i).y) j) (j : Int) S (by omega) (by omega) k
    have dq : ∀ z : Int, -9007199254740992 ≤ z → z ≤ 9007199254740992 → inI (z / (j : Int)) := fun z h1 h2 => by
      have := Int.ediv_le_ediv (c := (j : Int)) (by omega) h2
      have a3 : z / (j : Int) ≤ 9007199254740992 := by
        refine Int.ediv_le_of_le_mul (by omega) ?_
        have : (9007199254740992 : Int) * 1 ≤ 9007199254740992 * (j : Int) := Int.mul_le_mul_of_nonneg_left (by omega) (by decide)
        omega
      have a4 : -9007199254740992 ≤ z / (j : Int) := by
        refine Int.le_ediv_of_mul_le (by omega) ?_
        have : (9007199254740992 : Int) * 1 ≤ 9007199254740992 * (j : Int) := Int.mul_le_mul_of_nonneg_left (by omega) (by decide)
        omega
      unfold inI; omega
    have sx := fun S => decSmall_ok (smI (fun i => (F i).x) j / (j : Int)) S (dq _ (by omega) (by omega))
    have sy := fun S => decSmall_ok (smI (fun i => (F i).y) j / (j : Int)) S (dq _ (by omega) (by omega))
    simp only [decA, lstI, digs_len] at on fx fy sx sy
    simp (maxSteps := 2000000) only [wk0, wk1, wk2, wk3, wk4, wk5, Fr.ev, Fr.put, Fr.get, pkB, pkT, pkF, storeA, if_false, if_true, Nat.reduceEqDiff, reduceIte, Nat.reduceAdd, List.replicate, Nat.reduceLeDiff, Nat.reduceMul, Nat.reduceSub, Nat.reducePow, Int.reduceLT, Int.reduceLE, Int.reduceToNat, Int.reducePow, IntKind.bits, Int.reduceEq, Int.reduceMul, Int.reduceNeg, ne_eq, reduceCtorEq, BEq.rfl, beq_self_eq_true, Int.reduceAdd, Int.reduceSub, Int.reduceMod, Int.reduceDiv, Nat.reduceMod, Nat.reduceDiv, Nat.reduceLT, cond_true, cond_false, gt_iff_lt, ge_iff_le, g0, g5, g6, g7, hj, YtdknnaalfoongaaDoor.D17, ty1, ty2, ty3, ty4, ty22, ty41, ty93]
    refine callThen_of (on _) ?_
    simp (maxSteps := 2000000) only [wk0, wk1, wk2, wk3, wk4, wk5, Fr.ev, Fr.put, Fr.get, pkB, pkT, pkF, storeA, if_false, if_true, Nat.reduceEqDiff, reduceIte, Nat.reduceAdd, List.replicate, Nat.reduceLeDiff, Nat.reduceMul, Nat.reduceSub, Nat.reducePow, Int.reduceLT, Int.reduceLE, Int.reduceToNat, Int.reducePow, IntKind.bits, Int.reduceEq, Int.reduceMul, Int.reduceNeg, ne_eq, reduceCtorEq, BEq.rfl, beq_self_eq_true, Int.reduceAdd, Int.reduceSub, Int.reduceMod, Int.reduceDiv, Nat.reduceMod, Nat.reduceDiv, Nat.reduceLT, cond_true, cond_false, gt_iff_lt, ge_iff_le, g0, g5, g6, g7, hj, YtdknnaalfoongaaDoor.D17, ty1, ty2, ty3, ty4, ty22, ty41, ty93]
    refine callThen_of (fx _) ?_
    simp (maxSteps := 2000000) only [wk0, wk1, wk2, wk3, wk4, wk5, Fr.ev, Fr.put, Fr.get, pkB, pkT, pkF, storeA, if_false, if_true, Nat.reduceEqDiff, reduceIte, Nat.reduceAdd, List.replicate, Nat.reduceLeDiff, Nat.reduceMul, Nat.reduceSub, Nat.reducePow, Int.reduceLT, Int.reduceLE, Int.reduceToNat, Int.reducePow, IntKind.bits, Int.reduceEq, Int.reduceMul, Int.reduceNeg, ne_eq, reduceCtorEq, BEq.rfl, beq_self_eq_true, Int.reduceAdd, Int.reduceSub, Int.reduceMod, Int.reduceDiv, Nat.reduceMod, Nat.reduceDiv, Nat.reduceLT, cond_true, cond_false, gt_iff_lt, ge_iff_le, g0, g5, g6, g7, hj, YtdknnaalfoongaaDoor.D17, ty1, ty2, ty3, ty4, ty22, ty41, ty93]
    refine callThen_of (sx _) ?_
    simp (maxSteps := 2000000) only [wk0, wk1, wk2, wk3, wk4, wk5, Fr.ev, Fr.put, Fr.get, pkB, pkT, pkF, storeA, if_false, if_true, Nat.reduceEqDiff, reduceIte, Nat.reduceAdd, List.replicate, Nat.reduceLeDiff, Nat.reduceMul, Nat.reduceSub, Nat.reducePow, Int.reduceLT, Int.reduceLE, Int.reduceToNat, Int.reducePow, IntKind.bits, Int.reduceEq, Int.reduceMul, Int.reduceNeg, ne_eq, reduceCtorEq, BEq.rfl, beq_self_eq_true, Int.reduceAdd, Int.reduceSub, Int.reduceMod, Int.reduceDiv, Nat.reduceMod, Nat.reduceDiv, Nat.reduceLT, cond_true, cond_false, gt_iff_lt, ge_iff_le, g0, g5, g6, g7, hj, YtdknnaalfoongaaDoor.D17, ty1, ty2, ty3, ty4, ty22, ty41, ty93]
    refine callThen_of (fy _) ?_
    simp (maxSteps := 2000000) only [wk0, wk1, wk2, wk3, wk4, wk5, Fr.ev, Fr.put, Fr.get, pkB, pkT, pkF, storeA, if_false, if_true, Nat.reduceEqDiff, reduceIte, Nat.reduceAdd, List.replicate, Nat.reduceLeDiff, Nat.reduceMul, Nat.reduceSub, Nat.reducePow, Int.reduceLT, Int.reduceLE, Int.reduceToNat, Int.reducePow, IntKind.bits, Int.reduceEq, Int.reduceMul, Int.reduceNeg, ne_eq, reduceCtorEq, BEq.rfl, beq_self_eq_true, Int.reduceAdd, Int.reduceSub, Int.reduceMod, Int.reduceDiv, Nat.reduceMod, Nat.reduceDiv, Nat.reduceLT, cond_true, cond_false, gt_iff_lt, ge_iff_le, g0, g5, g6, g7, hj, YtdknnaalfoongaaDoor.D17, ty1, ty2, ty3, ty4, ty22, ty41, ty93]
    refine callThen_of (sy _) ?_
    simp (maxSteps := 2000000) only [wk0, wk1, wk2, wk3, wk4, wk5, Fr.ev, Fr.put, Fr.get, pkB, pkT, pkF, storeA, if_false, if_true, Nat.reduceEqDiff, reduceIte, Nat.reduceAdd, List.replicate, Nat.reduceLeDiff, Nat.reduceMul, Nat.reduceSub, Nat.reducePow, Int.reduceLT, Int.reduceLE, Int.reduceToNat, Int.reducePow, IntKind.bits, Int.reduceEq, Int.reduceMul, Int.reduceNeg, ne_eq, reduceCtorEq, BEq.rfl, beq_self_eq_true, Int.reduceAdd, Int.reduceSub, Int.reduceMod, Int.reduceDiv, Nat.reduceMod, Nat.reduceDiv, Nat.reduceLT, cond_true, cond_false, gt_iff_lt, ge_iff_le, g0, g5, g6, g7, hj, YtdknnaalfoongaaDoor.D17, ty1, ty2, ty3, ty4, ty22, ty41, ty93]
    exact retB_plain (by simp [nmd_int]) rfl (by simp)
end Go.Proofs.YtdknnaalfoongaaDoor
