/- Decimals: sums with signs; numbers of 64 bits; what is bounded. -/
import Derived.Test.YtdknnaalfoongaaDoorD2
set_option linter.unusedSimpArgs false
set_option linter.unusedVariables false
set_option maxRecDepth 100000
set_option maxHeartbeats 4000000
namespace Go.Proofs.YtdknnaalfoongaaDoor
theorem lenD_add {a b k : Nat} (ha : lenD a ≤ k) (hb : lenD b ≤ k) : lenD (a + b) ≤ k + 1 := (lenD_le _ _).2 (by
  have h1 := (lenD_le _ _).1 ha
  have h2 := (lenD_le _ _).1 hb
  rw [Nat.pow_succ]
  omega)
theorem lenD_sub {b k : Nat} (a : Nat) (hb : lenD b ≤ k) : lenD (b - a) ≤ k := (lenD_le _ _).2 (by have h1 := (lenD_le _ _).1 hb; omega)
theorem lenD_mono {a b k : Nat} (h : a ≤ b) (hb : lenD b ≤ k) : lenD a ≤ k := (lenD_le _ _).2 (Nat.lt_of_le_of_lt h ((lenD_le _ _).1 hb))
def numA (neg : Bool) (n : Nat) : AV := .agg [.bool (neg && decide (0 < n)), lstI (digs n)]
def decS (s : Bool) (n : Nat) : AV := .agg [.bool s, lstI (digs n)]
theorem decA_S (z : Int) : decA z = decS (decide (z < 0)) z.natAbs := rfl
theorem numA_S (neg : Bool) (n : Nat) : numA neg n = decS (neg && decide (0 < n)) n := rfl
theorem decS_eq {s t : Bool} {n m : Nat} (h : s = t) (h2 : n = m) : decS s n = decS t m := by rw [h, h2]
noncomputable def c78 : Code := Tryd.f78.body.getD .skip
theorem b78 : Tryd.f78.body = some c78 := rfl
theorem d78 : fnOk Tryd.f78 c78 = true := by kernel_rfl
def D78 : Nat → List Tag := fun _ => []
theorem e78 : drawsOk D78 c78 = true := by kernel_rfl
theorem decNum1_ok (neg : Bool) (n : Nat) (S : Heap) (hn : lenD n ≤ 100000) : Call theE 78 [.bool neg, lstI (digs n)] S (numA neg n) S := by
  have dn := digs_len n
  refine Call.ofC Tryd.func78 YtdknnaalfoongaaDoor.b78 YtdknnaalfoongaaDoor.d78 YtdknnaalfoongaaDoor.e78 (by simp [Tryd.f78]) ?_
  dsimp only [YtdknnaalfoongaaDoor.c78, Tryd.f78, Option.getD_some]
  cases neg with
  | false =>
    simp (maxSteps := 2000000) only [wk0, wk1, wk2, wk3, wk4, wk5, Fr.ev, Fr.put, Fr.get, pkB, pkT, pkF, storeA, if_false, if_true, Nat.reduceEqDiff, reduceIte, Nat.reduceAdd, List.replicate, Nat.reduceLeDiff, Nat.reduceMul, Nat.reduceSub, Nat.reducePow, Int.reduceLT, Int.reduceLE, Int.reduceToNat, Int.reducePow, IntKind.bits, Int.reduceEq, Int.reduceMul, Int.reduceNeg, ne_eq, reduceCtorEq, BEq.rfl, beq_self_eq_true, Int.reduceAdd, Int.reduceSub, Int.reduceMod, Int.reduceDiv, Nat.reduceMod, Nat.reduceDiv, Nat.reduceLT, cond_true, cond_false, gt_iff_lt, ge_iff_le, lstI, dn, YtdknnaalfoongaaDoor.D78, ty3, ty4, ty91, ty93]
    exact retB_plain (by simp [nmd_agg, nmd_bool, nmd_lst]) (by simp [packA, numA, lstI, dn]) (by simp)
  | true =>
    by_cases h0 : n = 0
    · have p1 : ¬ (0 : Int) < ((lenD n : Nat) : Int) := by rw [h0, lenD_zero]; decide
      simp (maxSteps := 2000000) only [wk0, wk1, wk2, wk3, wk4, wk5, Fr.ev, Fr.put, Fr.get, pkB, pkT, pkF, storeA, if_false, if_true, Nat.reduceEqDiff, reduceIte, Nat.reduceAdd, List.replicate, Nat.reduceLeDiff, Nat.reduceMul, Nat.reduceSub, Nat.reducePow, Int.reduceLT, Int.reduceLE, Int.reduceToNat, Int.reducePow, IntKind.bits, Int.reduceEq, Int.reduceMul, Int.reduceNeg, ne_eq, reduceCtorEq, BEq.rfl, beq_self_eq_true, Int.reduceAdd, Int.reduceSub, Int.reduceMod, Int.reduceDiv, Nat.reduceMod, Nat.reduceDiv, Nat.reduceLT, cond_true, cond_false, gt_iff_lt, ge_iff_le, lstI, dn, p1, YtdknnaalfoongaaDoor.D78, ty3, ty4, ty91, ty93]
      exact retB_plain (by simp [nmd_agg, nmd_bool, nmd_lst]) (by subst h0; simp [packA, numA, lstI, dn]) (by simp)
    · have p1 : (0 : Int) < ((lenD n : Nat) : Int) := by have := (lt_lenD n 0).2 (by omega); omega
      have p2 : 0 < n := by omega
      simp (maxSteps := 2000000) only [wk0, wk1, wk2, wk3, wk4, wk5, Fr.ev, Fr.put, Fr.get, pkB, pkT, pkF, storeA, if_false, if_true, Nat.reduceEqDiff, reduceIte, Nat.reduceAdd, List.replicate, Nat.reduceLeDiff, Nat.reduceMul, Nat.reduceSub, Nat.reducePow, Int.reduceLT, Int.reduceLE, Int.reduceToNat, Int.reducePow, IntKind.bits, Int.reduceEq, Int.reduceMul, Int.reduceNeg, ne_eq, reduceCtorEq, BEq.rfl, beq_self_eq_true, Int.reduceAdd, Int.reduceSub, Int.reduceMod, Int.reduceDiv, Nat.reduceMod, Nat.reduceDiv, Nat.reduceLT, cond_true, cond_false, gt_iff_lt, ge_iff_le, lstI, dn, p1, YtdknnaalfoongaaDoor.D78, ty3, ty4, ty91, ty93]
      exact retB_plain (by simp [nmd_agg, nmd_bool, nmd_lst]) (by simp [packA, numA, lstI, dn, p2]) (by simp)
noncomputable def c122 : Code := Tryd.f122.body.getD .skip
theorem b122 : Tryd.f122.body = some c122 := rfl
theorem d122 : fnOk Tryd.f122 c122 = true := by kernel_rfl
def D122 : Nat → List Tag := fun _ => []
theorem e122 : drawsOk D122 c122 = true := by kernel_rfl
theorem decNeg1_ok (s : Bool) (n : Nat) (S : Heap) (hn : lenD n ≤ 100000) : Call theE 122 [decS s n] S (numA (!s) n) S := by
  refine Call.ofC Tryd.func122 YtdknnaalfoongaaDoor.b122 YtdknnaalfoongaaDoor.d122 YtdknnaalfoongaaDoor.e122 (by simp [Tryd.f122]) ?_
  dsimp only [YtdknnaalfoongaaDoor.c122, Tryd.f122, Option.getD_some]
  have hc := fun S => decNum1_ok (!s) n S hn
  simp (maxSteps := 2000000) only [wk0, wk1, wk2, wk3, wk4, wk5, Fr.ev, Fr.put, Fr.get, pkB, pkT, pkF, storeA, if_false, if_true, Nat.reduceEqDiff, reduceIte, Nat.reduceAdd, List.replicate, Nat.reduceLeDiff, Nat.reduceMul, Nat.reduceSub, Nat.reducePow, Int.reduceLT, Int.reduceLE, Int.reduceToNat, Int.reducePow, IntKind.bits, Int.reduceEq, Int.reduceMul, Int.reduceNeg, ne_eq, reduceCtorEq, BEq.rfl, beq_self_eq_true, Int.reduceAdd, Int.reduceSub, Int.reduceMod, Int.reduceDiv, Nat.reduceMod, Nat.reduceDiv, Nat.reduceLT, cond_true, cond_false, gt_iff_lt, ge_iff_le, decS, lstI, YtdknnaalfoongaaDoor.D122, ty1, ty4, ty91, ty93]
  refine callThen_of (hc _) ?_
  simp (maxSteps := 2000000) only [wk0, wk1, wk2, wk3, wk4, wk5, Fr.ev, Fr.put, Fr.get, pkB, pkT, pkF, storeA, if_false, if_true, Nat.reduceEqDiff, reduceIte, Nat.reduceAdd, List.replicate, Nat.reduceLeDiff, Nat.reduceMul, Nat.reduceSub, Nat.reducePow, Int.reduceLT, Int.reduceLE, Int.reduceToNat, Int.reducePow, IntKind.bits, Int.reduceEq, Int.reduceMul, Int.reduceNeg, ne_eq, reduceCtorEq, BEq.rfl, beq_self_eq_true, Int.reduceAdd, Int.reduceSub, Int.reduceMod, Int.reduceDiv, Nat.reduceMod, Nat.reduceDiv, Nat.reduceLT, cond_true, cond_false, gt_iff_lt, ge_iff_le, numA, lstI, YtdknnaalfoongaaDoor.D122, ty1, ty4, ty91, ty93]
  exact retB_plain (by simp [nmd_agg, nmd_bool, nmd_lst, lstI]) rfl (by simp)
theorem decNeg_ok (z : Int) (S : Heap) (hn : lenD z.natAbs ≤ 100000) : Call theE 122 [decA z] S (decA (-z)) S := by
  have := decNeg1_ok (decide (z < 0)) z.natAbs S hn
  rw [numA_S] at this
  rw [decA_S, decA_S, decS_eq (s := decide (-z < 0)) (t := (!decide (z < 0) && decide (0 < z.natAbs))) (n := (-z).natAbs) (m := z.natAbs) ?_ (by omega)]
  · exact this
  · by_cases h : z < 0
    · simp [h]; omega
    · by_cases h2 : 0 < z.natAbs
      · simp [h, h2]; omega
      · simp [h, h2]; omega
def addA (sx sy : Bool) (a b : Nat) : AV := if sx = sy then numA sx (a + b) else if a < b then numA sy (b - a) else numA sx (a - b)
noncomputable def c40 : Code := Tryd.f40.body.getD .skip
theorem b40 : Tryd.f40.body = some c40 := rfl
theorem d40 : fnOk Tryd.f40 c40 = true := by kernel_rfl
def D40 : Nat → List Tag
  | 2 => [.pure, .quiet, .pure, .quiet, .pure, .quiet, .quiet, .seq, .seq]
  | 4 => [.pure, .quiet, .pure, .quiet, .pure, .quiet, .quiet, .seq, .seq]
  | 5 => [.pure, .quiet, .pure, .quiet, .pure, .quiet, .quiet, .seq, .seq]
  | _ => []
theorem e40 : drawsOk D40 c40 = true := by kernel_rfl
theorem decAdd1_ok (sx sy : Bool) (a b : Nat) (S : Heap) (ha : lenD a ≤ 80000) (hb : lenD b ≤ 80000) : Call theE 40 [decS sx a, decS sy b] S (addA sx sy a b) S := by
  have l1 := lenD_add ha hb
  have l2 := lenD_sub a hb
  have l3 := lenD_sub b ha
  have hp := fun S => decPlus_ok a b S (by omega) (by omega)
  have hn1 := fun S => decNum1_ok sx (a + b) S (by omega)
  have hl := fun S => decLess_ok a b S (by omega) (by omega)
  have hn2 := fun S => decNum1_ok sy (b - a) S (by omega)
  have hn3 := fun S => decNum1_ok sx (a - b) S (by omega)
  have e1 : numA sx (a + b) = .agg [.bool (sx && decide (0 < a + b)), .lst ((digs (a + b)).map fun x => .int .i64 x) (digs (a + b)).length] := rfl
  unfold addA
  refine Call.ofC Tryd.func40 YtdknnaalfoongaaDoor.b40 YtdknnaalfoongaaDoor.d40 YtdknnaalfoongaaDoor.e40 (by simp [Tryd.f40]) ?_
  dsimp only [YtdknnaalfoongaaDoor.c40, Tryd.f40, Option.getD_some]
  by_cases hs : sx = sy
  · subst hs
    rw [if_pos rfl]
    simp (maxSteps := 2000000) only [wk0, wk1, wk2, wk3, wk4, wk5, Fr.ev, Fr.put, Fr.get, pkB, pkT, pkF, storeA, if_false, if_true, Nat.reduceEqDiff, reduceIte, Nat.reduceAdd, List.replicate, Nat.reduceLeDiff, Nat.reduceMul, Nat.reduceSub, Nat.reducePow, Int.reduceLT, Int.reduceLE, Int.reduceToNat, Int.reducePow, IntKind.bits, Int.reduceEq, Int.reduceMul, Int.reduceNeg, ne_eq, reduceCtorEq, BEq.rfl, beq_self_eq_true, Int.reduceAdd, Int.reduceSub, Int.reduceMod, Int.reduceDiv, Nat.reduceMod, Nat.reduceDiv, Nat.reduceLT, cond_true, cond_false, gt_iff_lt, ge_iff_le, decS, beq_self_eq_true, decide_true, YtdknnaalfoongaaDoor.D40, ty1, ty4, ty91, ty93]
    refine callThen_of (hp _) ?_
    simp (maxSteps := 2000000) only [wk0, wk1, wk2, wk3, wk4, wk5, Fr.ev, Fr.put, Fr.get, pkB, pkT, pkF, storeA, if_false, if_true, Nat.reduceEqDiff, reduceIte, Nat.reduceAdd, List.replicate, Nat.reduceLeDiff, Nat.reduceMul, Nat.reduceSub, Nat.reducePow, Int.reduceLT, Int.reduceLE, Int.reduceToNat, Int.reducePow, IntKind.bits, Int.reduceEq, Int.reduceMul, Int.reduceNeg, ne_eq, reduceCtorEq, BEq.rfl, beq_self_eq_true, Int.reduceAdd, Int.reduceSub, Int.reduceMod, Int.reduceDiv, Nat.reduceMod, Nat.reduceDiv, Nat.reduceLT, cond_true, cond_false, gt_iff_lt, ge_iff_le, decS, lstI, YtdknnaalfoongaaDoor.D40, ty1, ty4, ty91, ty93]
    refine callThen_of (hn1 _) ?_
    simp (maxSteps := 2000000) only [wk0, wk1, wk2, wk3, wk4, wk5, Fr.ev, Fr.put, Fr.get, pkB, pkT, pkF, storeA, if_false, if_true, Nat.reduceEqDiff, reduceIte, Nat.reduceAdd, List.replicate, Nat.reduceLeDiff, Nat.reduceMul, Nat.reduceSub, Nat.reducePow, Int.reduceLT, Int.reduceLE, Int.reduceToNat, Int.reducePow, IntKind.bits, Int.reduceEq, Int.reduceMul, Int.reduceNeg, ne_eq, reduceCtorEq, BEq.rfl, beq_self_eq_true, Int.reduceAdd, Int.reduceSub, Int.reduceMod, Int.reduceDiv, Nat.reduceMod, Nat.reduceDiv, Nat.reduceLT, cond_true, cond_false, gt_iff_lt, ge_iff_le, numA, lstI, YtdknnaalfoongaaDoor.D40, ty1, ty4, ty91, ty93]
    exact retB_plain (by simp [nmd_agg, nmd_bool, nmd_lst, lstI]) rfl (by simp)
  · rw [if_neg hs]
    have hs1 : decide (sx = sy) = false := decide_eq_false hs
    have hs2 : (sx == sy) = false := by simpa using hs
    simp (maxSteps := 2000000) only [wk0, wk1, wk2, wk3, wk4, wk5, Fr.ev, Fr.put, Fr.get, pkB, pkT, pkF, storeA, if_false, if_true, Nat.reduceEqDiff, reduceIte, Nat.reduceAdd, List.replicate, Nat.reduceLeDiff, Nat.reduceMul, Nat.reduceSub, Nat.reducePow, Int.reduceLT, Int.reduceLE, Int.reduceToNat, Int.reducePow, IntKind.bits, Int.reduceEq, Int.reduceMul, Int.reduceNeg, ne_eq, reduceCtorEq, BEq.rfl, beq_self_eq_true, Int.reduceAdd, Int.reduceSub, Int.reduceMod, Int.reduceDiv, Nat.reduceMod, Nat.reduceDiv, Nat.reduceLT, cond_true, cond_false, gt_iff_lt, ge_iff_le, decS, lstI, hs, hs1, hs2, YtdknnaalfoongaaDoor.D40, ty1, ty4, ty91, ty93]
    refine callThen_of (hl _) ?_
    by_cases hab : a < b
    · rw [if_pos hab]
      have hm := fun S => decMinus_ok b a S (by omega) (by omega)
      simp (maxSteps := 2000000) only [wk0, wk1, wk2, wk3, wk4, wk5, Fr.ev, Fr.put, Fr.get, pkB, pkT, pkF, storeA, if_false, if_true, Nat.reduceEqDiff, reduceIte, Nat.reduceAdd, List.replicate, Nat.reduceLeDiff, Nat.reduceMul, Nat.reduceSub, Nat.reducePow, Int.reduceLT, Int.reduceLE, Int.reduceToNat, Int.reducePow, IntKind.bits, Int.reduceEq, Int.reduceMul, Int.reduceNeg, ne_eq, reduceCtorEq, BEq.rfl, beq_self_eq_true, Int.reduceAdd, Int.reduceSub, Int.reduceMod, Int.reduceDiv, Nat.reduceMod, Nat.reduceDiv, Nat.reduceLT, cond_true, cond_false, gt_iff_lt, ge_iff_le, decS, lstI, hab, decide_true, YtdknnaalfoongaaDoor.D40, ty1, ty4, ty91, ty93]
      refine callThen_of (hm _) ?_
      simp (maxSteps := 2000000) only [wk0, wk1, wk2, wk3, wk4, wk5, Fr.ev, Fr.put, Fr.get, pkB, pkT, pkF, storeA, if_false, if_true, Nat.reduceEqDiff, reduceIte, Nat.reduceAdd, List.replicate, Nat.reduceLeDiff, Nat.reduceMul, Nat.reduceSub, Nat.reducePow, Int.reduceLT, Int.reduceLE, Int.reduceToNat, Int.reducePow, IntKind.bits, Int.reduceEq, Int.reduceMul, Int.reduceNeg, ne_eq, reduceCtorEq, BEq.rfl, beq_self_eq_true, Int.reduceAdd, Int.reduceSub, Int.reduceMod, Int.reduceDiv, Nat.reduceMod, Nat.reduceDiv, Nat.reduceLT, cond_true, cond_false, gt_iff_lt, ge_iff_le, decS, lstI, YtdknnaalfoongaaDoor.D40, ty1, ty4, ty91, ty93]
      refine callThen_of (hn2 _) ?_
      simp (maxSteps := 2000000) only [wk0, wk1, wk2, wk3, wk4, wk5, Fr.ev, Fr.put, Fr.get, pkB, pkT, pkF, storeA, if_false, if_true, Nat.reduceEqDiff, reduceIte, Nat.reduceAdd, List.replicate, Nat.reduceLeDiff, Nat.reduceMul, Nat.reduceSub, Nat.reducePow, Int.reduceLT, Int.reduceLE, Int.reduceToNat, Int.reducePow, IntKind.bits, Int.reduceEq, Int.reduceMul, Int.reduceNeg, ne_eq, reduceCtorEq, BEq.rfl, beq_self_eq_true, Int.reduceAdd, Int.reduceSub, Int.reduceMod, Int.reduceDiv, Nat.reduceMod, Nat.reduceDiv, Nat.reduceLT, cond_true, cond_false, gt_iff_lt, ge_iff_le, numA, lstI, YtdknnaalfoongaaDoor.D40, ty1, ty4, ty91, ty93]
      exact retB_plain (by simp [nmd_agg, nmd_bool, nmd_lst, lstI]) rfl (by simp)
    · rw [if_neg hab]
      have hm := fun S => decMinus_ok a b S (by omega) (by omega)
      simp (maxSteps := 2000000) only [wk0, wk1, wk2, wk3, wk4, wk5, Fr.ev, Fr.put, Fr.get, pkB, pkT, pkF, storeA, if_false, if_true, Nat.reduceEqDiff, reduceIte, Nat.reduceAdd, List.replicate, Nat.reduceLeDiff, Nat.reduceMul, Nat.reduceSub, Nat.reducePow, Int.reduceLT, Int.reduceLE, Int.reduceToNat, Int.reducePow, IntKind.bits, Int.reduceEq, Int.reduceMul, Int.reduceNeg, ne_eq, reduceCtorEq, BEq.rfl, beq_self_eq_true, Int.reduceAdd, Int.reduceSub, Int.reduceMod, Int.reduceDiv, Nat.reduceMod, Nat.reduceDiv, Nat.reduceLT, cond_true, cond_false, gt_iff_lt, ge_iff_le, decS, lstI, hab, decide_false, YtdknnaalfoongaaDoor.D40, ty1, ty4, ty91, ty93]
      refine callThen_of (hm _) ?_
      simp (maxSteps := 2000000) only [wk0, wk1, wk2, wk3, wk4, wk5, Fr.ev, Fr.put, Fr.get, pkB, pkT, pkF, storeA, if_false, if_true, Nat.reduceEqDiff, reduceIte, Nat.reduceAdd, List.replicate, Nat.reduceLeDiff, Nat.reduceMul, Nat.reduceSub, Nat.reducePow, Int.reduceLT, Int.reduceLE, Int.reduceToNat, Int.reducePow, IntKind.bits, Int.reduceEq, Int.reduceMul, Int.reduceNeg, ne_eq, reduceCtorEq, BEq.rfl, beq_self_eq_true, Int.reduceAdd, Int.reduceSub, Int.reduceMod, Int.reduceDiv, Nat.reduceMod, Nat.reduceDiv, Nat.reduceLT, cond_true, cond_false, gt_iff_lt, ge_iff_le, decS, lstI, YtdknnaalfoongaaDoor.D40, ty1, ty4, ty91, ty93]
      refine callThen_of (hn3 _) ?_
      simp (maxSteps := 2000000) only [wk0, wk1, wk2, wk3, wk4, wk5, Fr.ev, Fr.put, Fr.get, pkB, pkT, pkF, storeA, if_false, if_true, Nat.reduceEqDiff, reduceIte, Nat.reduceAdd, List.replicate, Nat.reduceLeDiff, Nat.reduceMul, Nat.reduceSub, Nat.reducePow, Int.reduceLT, Int.reduceLE, Int.reduceToNat, Int.reducePow, IntKind.bits, Int.reduceEq, Int.reduceMul, Int.reduceNeg, ne_eq, reduceCtorEq, BEq.rfl, beq_self_eq_true, Int.reduceAdd, Int.reduceSub, Int.reduceMod, Int.reduceDiv, Nat.reduceMod, Nat.reduceDiv, Nat.reduceLT, cond_true, cond_false, gt_iff_lt, ge_iff_le, numA, lstI, YtdknnaalfoongaaDoor.D40, ty1, ty4, ty91, ty93]
      exact retB_plain (by simp [nmd_agg, nmd_bool, nmd_lst, lstI]) rfl (by simp)
theorem decAdd_ok (x y : Int) (S : Heap) (hx : lenD x.natAbs ≤ 80000) (hy : lenD y.natAbs ≤ 80000) : Call theE 40 [decA x, decA y] S (decA (x + y)) S := by
  have := decAdd1_ok (decide (x < 0)) (decide (y < 0)) x.natAbs y.natAbs S hx hy
  have e : addA (decide (x < 0)) (decide (y < 0)) x.natAbs y.natAbs = decA (x + y) := by
    unfold addA
    rw [decA_S]
    by_cases h1 : x < 0 <;> by_cases h2 : y < 0
    · rw [decide_eq_true h1, decide_eq_true h2, if_pos rfl, numA_S, decide_eq_true (show x + y < 0 by omega)]
      exact decS_eq (by simp; omega) (by omega)
    · rw [decide_eq_true h1, decide_eq_false h2, if_neg (by decide)]
      split
      · rw [numA_S, decide_eq_false (show ¬ x + y < 0 by omega)]
        exact decS_eq (by simp) (by omega)
      · rw [numA_S]
        exact decS_eq (by rw [Bool.true_and]; congr 1; apply propext; omega) (by omega)
    · rw [decide_eq_false h1, decide_eq_true h2, if_neg (by decide)]
      split
      · rw [numA_S]
        exact decS_eq (by rw [Bool.true_and]; congr 1; apply propext; omega) (by omega)
      · rw [numA_S, decide_eq_false (show ¬ x + y < 0 by omega)]
        exact decS_eq (by simp) (by omega)
    · rw [decide_eq_false h1, decide_eq_false h2, if_pos rfl, numA_S, decide_eq_false (show ¬ x + y < 0 by omega)]
      exact decS_eq (by simp) (by omega)
  rwa [e] at this
theorem lenD_neg (z : Int) : lenD (-z).natAbs = lenD z.natAbs := by rw [Int.natAbs_neg]
noncomputable def c113 : Code := Tryd.f113.body.getD .skip
theorem b113 : Tryd.f113.body = some c113 := rfl
theorem d113 : fnOk Tryd.f113 c113 = true := by kernel_rfl
def D113 : Nat → List Tag
  | 1 => [.quiet, .quiet, .quiet, .seq, .seq]
  | _ => []
theorem e113 : drawsOk D113 c113 = true := by kernel_rfl
theorem decSub_ok (x y : Int) (S : Heap) (hx : lenD x.natAbs ≤ 80000) (hy : lenD y.natAbs ≤ 80000) : Call theE 113 [decA x, decA y] S (decA (x - y)) S := by
  have h1 := fun S => decNeg_ok y S (by omega)
  have h2 := fun S => decAdd_ok x (-y) S hx (by rw [lenD_neg]; exact hy)
  rw [← Int.sub_eq_add_neg] at h2
  refine Call.ofC Tryd.func113 YtdknnaalfoongaaDoor.b113 YtdknnaalfoongaaDoor.d113 YtdknnaalfoongaaDoor.e113 (by simp [Tryd.f113]) ?_
  dsimp only [YtdknnaalfoongaaDoor.c113, Tryd.f113, Option.getD_some]
  simp (maxSteps := 2000000) only [wk0, wk1, wk2, wk3, wk4, wk5, Fr.ev, Fr.put, Fr.get, pkB, pkT, pkF, storeA, if_false, if_true, Nat.reduceEqDiff, reduceIte, Nat.reduceAdd, List.replicate, Nat.reduceLeDiff, Nat.reduceMul, Nat.reduceSub, Nat.reducePow, Int.reduceLT, Int.reduceLE, Int.reduceToNat, Int.reducePow, IntKind.bits, Int.reduceEq, Int.reduceMul, Int.reduceNeg, ne_eq, reduceCtorEq, BEq.rfl, beq_self_eq_true, Int.reduceAdd, Int.reduceSub, Int.reduceMod, Int.reduceDiv, Nat.reduceMod, Nat.reduceDiv, Nat.reduceLT, cond_true, cond_false, gt_iff_lt, ge_iff_le, decA, lstI, YtdknnaalfoongaaDoor.D113, ty93]
  refine callThen_of (h1 _) ?_
  simp (maxSteps := 2000000) only [wk0, wk1, wk2, wk3, wk4, wk5, Fr.ev, Fr.put, Fr.get, pkB, pkT, pkF, storeA, if_false, if_true, Nat.reduceEqDiff, reduceIte, Nat.reduceAdd, List.replicate, Nat.reduceLeDiff, Nat.reduceMul, Nat.reduceSub, Nat.reducePow, Int.reduceLT, Int.reduceLE, Int.reduceToNat, Int.reducePow, IntKind.bits, Int.reduceEq, Int.reduceMul, Int.reduceNeg, ne_eq, reduceCtorEq, BEq.rfl, beq_self_eq_true, Int.reduceAdd, Int.reduceSub, Int.reduceMod, Int.reduceDiv, Nat.reduceMod, Nat.reduceDiv, Nat.reduceLT, cond_true, cond_false, gt_iff_lt, ge_iff_le, decA, lstI, YtdknnaalfoongaaDoor.D113, ty93]
  refine callThen_of (h2 _) ?_
  simp (maxSteps := 2000000) only [wk0, wk1, wk2, wk3, wk4, wk5, Fr.ev, Fr.put, Fr.get, pkB, pkT, pkF, storeA, if_false, if_true, Nat.reduceEqDiff, reduceIte, Nat.reduceAdd, List.replicate, Nat.reduceLeDiff, Nat.reduceMul, Nat.reduceSub, Nat.reducePow, Int.reduceLT, Int.reduceLE, Int.reduceToNat, Int.reducePow, IntKind.bits, Int.reduceEq, Int.reduceMul, Int.reduceNeg, ne_eq, reduceCtorEq, BEq.rfl, beq_self_eq_true, Int.reduceAdd, Int.reduceSub, Int.reduceMod, Int.reduceDiv, Nat.reduceMod, Nat.reduceDiv, Nat.reduceLT, cond_true, cond_false, gt_iff_lt, ge_iff_le, decA, lstI, YtdknnaalfoongaaDoor.D113, ty93]
  exact retB_plain (by simp [nmd_agg, nmd_bool, nmd_lst, lstI]) rfl (by simp)
end Go.Proofs.YtdknnaalfoongaaDoor
