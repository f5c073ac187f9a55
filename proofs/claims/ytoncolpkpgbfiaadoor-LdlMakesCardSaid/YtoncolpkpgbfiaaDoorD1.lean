/- Decimals: digits of a number, without noughts behind, lesser. -/
import Derived.Test.YtoncolpkpgbfiaaDoorD0
set_option linter.unusedSimpArgs false
set_option linter.unusedVariables false
set_option maxRecDepth 100000
set_option maxHeartbeats 4000000
namespace Go.Proofs.YtoncolpkpgbfiaaDoor
noncomputable def c82 : Code := Tryd.f82.body.getD .skip
theorem b82 : Tryd.f82.body = some c82 := rfl
theorem d82 : fnOk Tryd.f82 c82 = true := by kernel_rfl
def D82 : Nat → List Tag := fun _ => []
theorem e82 : drawsOk D82 c82 = true := by kernel_rfl
theorem dgN_getA (n : Nat) {i k : Nat} (h : k < i) : ((dgN n i).map fun x => AV.int .i64 x)[k]? = some (.int .i64 ((dgt n k : Nat) : Int)) := by rw [List.getElem?_map, dgN_get n h]; rfl
theorem trim_ok (id ver i cap n u : Nat) (S : Heap) (hi : i ≤ 100000) (hn : n < 10 ^ i) (hb : blkAt S id ver = some ⟨(dgN n i).map fun x => .int .i64 x, u⟩) :
    Call theE 82 [slD id ver i cap] S (slD id ver (lenD n) cap) S := by
  have hl : lenD n ≤ i := (lenD_le _ _).2 hn
  refine Call.ofC Tryd.func82 YtoncolpkpgbfiaaDoor.b82 YtoncolpkpgbfiaaDoor.d82 YtoncolpkpgbfiaaDoor.e82 (by simp [Tryd.f82]) ?_
  dsimp only [YtoncolpkpgbfiaaDoor.c82, Tryd.f82, Option.getD_some]
  simp (maxSteps := 2000000) only [wk0, wk1, wk2, wk3, wk4, wk5, Fr.ev, Fr.put, Fr.get, pkB, pkT, pkF, storeA, if_false, if_true, Nat.reduceEqDiff, reduceIte, Nat.reduceAdd, List.replicate, Nat.reduceLeDiff, Nat.reduceMul, Nat.reduceSub, Nat.reducePow, Int.reduceLT, Int.reduceLE, Int.reduceToNat, Int.reducePow, IntKind.bits, Int.reduceEq, Int.reduceMul, Int.reduceNeg, ne_eq, reduceCtorEq, BEq.rfl, beq_self_eq_true, Int.reduceAdd, Int.reduceSub, Int.reduceMod, Int.reduceDiv, Nat.reduceMod, Nat.reduceDiv, Nat.reduceLT, cond_true, cond_false, gt_iff_lt, ge_iff_le, lstI, YtoncolpkpgbfiaaDoor.D82, ty3, ty4, ty100]
  refine loopC_ind (fun m fr H => lenD n ≤ m ∧ m ≤ i ∧ fr.get 0 = slD id ver m cap ∧ H = S) ?_ (n := i) ⟨hl, by omega, rfl, rfl⟩
  rintro m fr H ⟨hlm, hmi, g0, rfl⟩ ih
  cases m with
  | zero =>
    rw [slD_zero] at g0
    have h0 : lenD n = 0 := by omega
    simp (maxSteps := 2000000) only [wk0, wk1, wk2, wk3, wk4, wk5, Fr.ev, Fr.put, Fr.get, pkB, pkT, pkF, storeA, if_false, if_true, Nat.reduceEqDiff, reduceIte, Nat.reduceAdd, List.replicate, Nat.reduceLeDiff, Nat.reduceMul, Nat.reduceSub, Nat.reducePow, Int.reduceLT, Int.reduceLE, Int.reduceToNat, Int.reducePow, IntKind.bits, Int.reduceEq, Int.reduceMul, Int.reduceNeg, ne_eq, reduceCtorEq, BEq.rfl, beq_self_eq_true, Int.reduceAdd, Int.reduceSub, Int.reduceMod, Int.reduceDiv, Nat.reduceMod, Nat.reduceDiv, Nat.reduceLT, cond_true, cond_false, gt_iff_lt, ge_iff_le, g0, h0, YtoncolpkpgbfiaaDoor.D82, ty3, ty4, ty100]
    exact retB_plain (by simp [slD, nmd_lst]) rfl (by simp)
  | succ k =>
    rw [slD_pos (by omega)] at g0
    have w1 : IntKind.i64.wrap (((k + 1 : Nat) : Int) - 1) = (k : Int) := by rw [wrapI (by omega)]; omega
    have gk := dgN_getA n (show k < i by omega)
    have p1 : (0 : Int) < ((k + 1 : Nat) : Int) := by omega
    have p2 : (0 : Int) ≤ (k : Int) := by omega
    have p3 : (k : Int) < ((k + 1 : Nat) : Int) := by omega
    have p4 : (k : Int) ≤ ((k + 1 : Nat) : Int) := by omega
    by_cases hz : ((dgt n k : Nat) : Int) = 0
    · have hn' : n < 10 ^ k := dgt_zero ((lenD_le _ _).1 hlm) (by omega)
      have hl' := (lenD_le _ _).2 hn'
      cases k with
      | zero =>
        simp (maxSteps := 2000000) only [wk0, wk1, wk2, wk3, wk4, wk5, Fr.ev, Fr.put, Fr.get, pkB, pkT, pkF, storeA, if_false, if_true, Nat.reduceEqDiff, reduceIte, Nat.reduceAdd, List.replicate, Nat.reduceLeDiff, Nat.reduceMul, Nat.reduceSub, Nat.reducePow, Int.reduceLT, Int.reduceLE, Int.reduceToNat, Int.reducePow, IntKind.bits, Int.reduceEq, Int.reduceMul, Int.reduceNeg, ne_eq, reduceCtorEq, BEq.rfl, beq_self_eq_true, Int.reduceAdd, Int.reduceSub, Int.reduceMod, Int.reduceDiv, Nat.reduceMod, Nat.reduceDiv, Nat.reduceLT, cond_true, cond_false, gt_iff_lt, ge_iff_le, g0, w1, gk, p1, p2, p3, p4, hb, hz, bd_none, bd_some, bv_int, sa_sl, Int.toNat_natCast, Nat.mul_one, Nat.zero_add, YtoncolpkpgbfiaaDoor.D82, ty3, ty4, ty100]
        exact ih 0 _ _ (by omega) ⟨hl', by omega, by simp [Fr.get, slD], rfl⟩
      | succ k =>
        have p5 : ¬ (0 : Int) = ((k + 1 : Nat) : Int) := by omega
        simp (maxSteps := 2000000) only [wk0, wk1, wk2, wk3, wk4, wk5, Fr.ev, Fr.put, Fr.get, pkB, pkT, pkF, storeA, if_false, if_true, Nat.reduceEqDiff, reduceIte, Nat.reduceAdd, List.replicate, Nat.reduceLeDiff, Nat.reduceMul, Nat.reduceSub, Nat.reducePow, Int.reduceLT, Int.reduceLE, Int.reduceToNat, Int.reducePow, IntKind.bits, Int.reduceEq, Int.reduceMul, Int.reduceNeg, ne_eq, reduceCtorEq, BEq.rfl, beq_self_eq_true, Int.reduceAdd, Int.reduceSub, Int.reduceMod, Int.reduceDiv, Nat.reduceMod, Nat.reduceDiv, Nat.reduceLT, cond_true, cond_false, gt_iff_lt, ge_iff_le, g0, w1, gk, p1, p2, p3, p4, p5, hb, hz, bd_none, bd_some, bv_int, sa_sl, Int.toNat_natCast, Nat.mul_one, Nat.zero_add, YtoncolpkpgbfiaaDoor.D82, ty3, ty4, ty100]
        exact ih (k + 1) _ _ (by omega) ⟨hl', by omega, by simp [Fr.get, slD], rfl⟩
    · have h0 : lenD n = k + 1 := by
        have := (lt_lenD n k).2 (by
          rcases Nat.lt_or_ge n (10 ^ k) with h | h
          · rw [dgt_zero_of_lt h] at hz; exact absurd rfl hz
          · exact h)
        omega
      simp (maxSteps := 2000000) only [wk0, wk1, wk2, wk3, wk4, wk5, Fr.ev, Fr.put, Fr.get, pkB, pkT, pkF, storeA, if_false, if_true, Nat.reduceEqDiff, reduceIte, Nat.reduceAdd, List.replicate, Nat.reduceLeDiff, Nat.reduceMul, Nat.reduceSub, Nat.reducePow, Int.reduceLT, Int.reduceLE, Int.reduceToNat, Int.reducePow, IntKind.bits, Int.reduceEq, Int.reduceMul, Int.reduceNeg, ne_eq, reduceCtorEq, BEq.rfl, beq_self_eq_true, Int.reduceAdd, Int.reduceSub, Int.reduceMod, Int.reduceDiv, Nat.reduceMod, Nat.reduceDiv, Nat.reduceLT, cond_true, cond_false, gt_iff_lt, ge_iff_le, g0, w1, gk, p1, p2, p3, p4, hb, hz, Int.toNat_natCast, Nat.mul_one, Nat.zero_add, YtoncolpkpgbfiaaDoor.D82, ty3, ty4, ty100]
      rw [h0, slD_pos (by omega)]
      exact retB_plain (by intro x hx; rw [List.mem_singleton.1 hx]; exact .sl _ _ _ _ _ _ (blk_lt hb)) rfl (by simp)
noncomputable def c44 : Code := Tryd.f44.body.getD .skip
theorem b44 : Tryd.f44.body = some c44 := rfl
theorem d44 : fnOk Tryd.f44 c44 = true := by kernel_rfl
def D44 : Nat → List Tag := fun _ => []
theorem e44 : drawsOk D44 c44 = true := by kernel_rfl
theorem decOf_ok (n : Int) (S : Heap) (hn : inI n) : Call theE 44 [.int .i64 n] S (decA n) S := by
  unfold inI at hn
  obtain ⟨N, hN⟩ : ∃ N, n.natAbs = N := ⟨_, rfl⟩
  have hN1 : N < 10 ^ 20 := by omega
  have hl := (lenD_le 20 N).2 hN1
  refine Call.ofC Tryd.func44 YtoncolpkpgbfiaaDoor.b44 YtoncolpkpgbfiaaDoor.d44 YtoncolpkpgbfiaaDoor.e44 (by simp [Tryd.f44]) ?_
  dsimp only [YtoncolpkpgbfiaaDoor.c44, Tryd.f44, Option.getD_some]
  have w0 : IntKind.u64.wrap n = n % 18446744073709551616 := wrapU64 n
  by_cases h0 : n < 0
  · have w1 : IntKind.u64.wrap (0 - n % 18446744073709551616) = (N : Int) := by rw [wrapU64]; omega
    simp (maxSteps := 2000000) only [wk0, wk1, wk2, wk3, wk4, wk5, Fr.ev, Fr.put, Fr.get, pkB, pkT, pkF, storeA, if_false, if_true, Nat.reduceEqDiff, reduceIte, Nat.reduceAdd, List.replicate, Nat.reduceLeDiff, Nat.reduceMul, Nat.reduceSub, Nat.reducePow, Int.reduceLT, Int.reduceLE, Int.reduceToNat, Int.reducePow, IntKind.bits, Int.reduceEq, Int.reduceMul, Int.reduceNeg, ne_eq, reduceCtorEq, BEq.rfl, beq_self_eq_true, Int.reduceAdd, Int.reduceSub, Int.reduceMod, Int.reduceDiv, Nat.reduceMod, Nat.reduceDiv, Nat.reduceLT, cond_true, cond_false, gt_iff_lt, ge_iff_le, w0, w1, h0, YtoncolpkpgbfiaaDoor.D44, ty1, ty2, ty3, ty4, ty100, ty102, ty151]
    refine loopC_ind (fun m fr H => ∃ i cap : Nat, i ≤ lenD N ∧ N / 10 ^ i = m ∧ fr.get 0 = .int .i64 n ∧ fr.get 2 = .ptr S.length 0 0 ∧ fr.get 3 = .int .u64 ((N / 10 ^ i : Nat) : Int) ∧ fr.get 4 = .sl (S.length + 1) i 0 i cap 1 ∧
      H = S ++ [some ⟨[.bool false, .nils], 0⟩, some ⟨(dgN N i).map fun x => .int .i64 x, i⟩]) ?_ (n := N) ⟨0, 0, by omega, by simp, rfl, rfl, by simp [Fr.get, hN], rfl, rfl⟩
    rintro m fr H ⟨i, cap, hil, him, g0, g2, g3, g4, rfl⟩ ih
    by_cases hv : (0 : Int) < ((N / 10 ^ i : Nat) : Int)
    · have hi : i < lenD N := (lt_lenD N i).2 (by
        rcases Nat.lt_or_ge N (10 ^ i) with h | h
        · rw [Nat.div_eq_of_lt h] at hv; exact absurd hv (by decide)
        · exact h)
      have cl : (dgN N i).length = i := dgN_len _ _
      have cs : (dgN N i).map (fun x => AV.int .i64 x) ++ [AV.int .i64 ((dgt N i : Nat) : Int)] = (dgN N (i + 1)).map fun x => .int .i64 x := by rw [dgN_succ, List.map_append]; rfl
      have a1 : (i + 1) * 8 ≤ maxBytes := by unfold maxBytes; omega
      have a2 : i + 1 ≤ 9223372036854775807 := by omega
      have e1 : Int.tmod ((N / 10 ^ i : Nat) : Int) 10 = ((dgt N i : Nat) : Int) := by rw [Int.tmod_eq_emod_of_nonneg (by omega)]; unfold dgt; omega
      have e2 : Int.tdiv ((N / 10 ^ i : Nat) : Int) 10 = ((N / 10 ^ (i + 1) : Nat) : Int) := by rw [Int.tdiv_eq_ediv_of_nonneg (by omega), Nat.pow_succ, ← Nat.div_div_eq_div_mul]; omega
      have e3 : IntKind.u64.wrap ((dgt N i : Nat) : Int) = ((dgt N i : Nat) : Int) := by have := dgt_lt N i; exact wrapU (by omega)
      have e4 : IntKind.i64.wrap ((dgt N i : Nat) : Int) = ((dgt N i : Nat) : Int) := by have := dgt_lt N i; exact wrapI (by omega)
      have e5 : IntKind.u64.wrap ((N / 10 ^ (i + 1) : Nat) : Int) = ((N / 10 ^ (i + 1) : Nat) : Int) := by
        have h1 := Nat.div_le_self N (10 ^ (i + 1))
        generalize N / 10 ^ (i + 1) = q at h1 ⊢
        exact wrapU (by omega)
      simp (maxSteps := 2000000) only [wk0, wk1, wk2, wk3, wk4, wk5, Fr.ev, Fr.put, Fr.get, pkB, pkT, pkF, storeA, if_false, if_true, Nat.reduceEqDiff, reduceIte, Nat.reduceAdd, List.replicate, Nat.reduceLeDiff, Nat.reduceMul, Nat.reduceSub, Nat.reducePow, Int.reduceLT, Int.reduceLE, Int.reduceToNat, Int.reducePow, IntKind.bits, Int.reduceEq, Int.reduceMul, Int.reduceNeg, ne_eq, reduceCtorEq, BEq.rfl, beq_self_eq_true, Int.reduceAdd, Int.reduceSub, Int.reduceMod, Int.reduceDiv, Nat.reduceMod, Nat.reduceDiv, Nat.reduceLT, cond_true, cond_false, gt_iff_lt, ge_iff_le, g0, g2, g3, g4, hv, e1, e2, e3, e4, e5, cl, cs, a1, a2, List.length_map, Nat.mul_one, YtoncolpkpgbfiaaDoor.D44, ty1, ty2, ty3, ty4, ty100, ty102, ty151]
      exact ih (N / 10 ^ (i + 1)) _ _ (by rw [← him, Nat.pow_succ, ← Nat.div_div_eq_div_mul]; exact Nat.div_lt_self (by omega) (by omega)) ⟨i + 1, i + 1, by omega, rfl, by simp [Fr.get, g0], by simp [Fr.get, g2], by simp [Fr.get], by simp [Fr.get], rfl⟩
    · have hi : lenD N ≤ i := (lenD_le i N).2 (by
        rcases Nat.lt_or_ge N (10 ^ i) with h | h
        · exact h
        · exact absurd (Nat.div_pos h (Nat.pow_pos (by omega))) (by omega))
      obtain rfl : i = lenD N := by omega
      simp (maxSteps := 2000000) only [wk0, wk1, wk2, wk3, wk4, wk5, Fr.ev, Fr.put, Fr.get, pkB, pkT, pkF, storeA, if_false, if_true, Nat.reduceEqDiff, reduceIte, Nat.reduceAdd, List.replicate, Nat.reduceLeDiff, Nat.reduceMul, Nat.reduceSub, Nat.reducePow, Int.reduceLT, Int.reduceLE, Int.reduceToNat, Int.reducePow, IntKind.bits, Int.reduceEq, Int.reduceMul, Int.reduceNeg, ne_eq, reduceCtorEq, BEq.rfl, beq_self_eq_true, Int.reduceAdd, Int.reduceSub, Int.reduceMod, Int.reduceDiv, Nat.reduceMod, Nat.reduceDiv, Nat.reduceLT, cond_true, cond_false, gt_iff_lt, ge_iff_le, g0, g2, g3, g4, hv, h0, YtoncolpkpgbfiaaDoor.D44, ty1, ty2, ty3, ty4, ty100, ty102, ty151]
      refine retB_one ?_ (by simp)
      have hd : decide (n < 0) = _ := decide_eq_true h0
      unfold decA
      rw [hN, hd]
      refine .agg _ _ (.cons _ _ _ _ (.same _ (.bool _)) (.cons _ _ _ _ ?_ .nil))
      have h := fin_sl (base := S.length) (id := S.length + 1) (ver := lenD N) (cap := cap) (u := lenD N) (L := digs N) (H := S ++ [some ⟨[.bool true, .sl (S.length + 1) (lenD N) 0 (lenD N) cap 1], 0⟩, some ⟨(dgN N (lenD N)).map fun x => .int .i64 x, lenD N⟩]) (by omega) (by rw [blkAt_app, show (1 : Nat) = 0 + 1 from rfl, blkAt_succ, blkAt_zero]; rfl)
      rw [digs_len] at h
      exact h
  · have w1 : n % 18446744073709551616 = (N : Int) := by omega
    simp (maxSteps := 2000000) only [wk0, wk1, wk2, wk3, wk4, wk5, Fr.ev, Fr.put, Fr.get, pkB, pkT, pkF, storeA, if_false, if_true, Nat.reduceEqDiff, reduceIte, Nat.reduceAdd, List.replicate, Nat.reduceLeDiff, Nat.reduceMul, Nat.reduceSub, Nat.reducePow, Int.reduceLT, Int.reduceLE, Int.reduceToNat, Int.reducePow, IntKind.bits, Int.reduceEq, Int.reduceMul, Int.reduceNeg, ne_eq, reduceCtorEq, BEq.rfl, beq_self_eq_true, Int.reduceAdd, Int.reduceSub, Int.reduceMod, Int.reduceDiv, Nat.reduceMod, Nat.reduceDiv, Nat.reduceLT, cond_true, cond_false, gt_iff_lt, ge_iff_le, w0, w1, h0, YtoncolpkpgbfiaaDoor.D44, ty1, ty2, ty3, ty4, ty100, ty102, ty151]
    refine loopC_ind (fun m fr H => ∃ i cap : Nat, i ≤ lenD N ∧ N / 10 ^ i = m ∧ fr.get 0 = .int .i64 n ∧ fr.get 2 = .ptr S.length 0 0 ∧ fr.get 3 = .int .u64 ((N / 10 ^ i : Nat) : Int) ∧ fr.get 4 = .sl (S.length + 1) i 0 i cap 1 ∧
      H = S ++ [some ⟨[.bool false, .nils], 0⟩, some ⟨(dgN N i).map fun x => .int .i64 x, i⟩]) ?_ (n := N) ⟨0, 0, by omega, by simp, rfl, rfl, by simp [Fr.get, hN], rfl, rfl⟩
    rintro m fr H ⟨i, cap, hil, him, g0, g2, g3, g4, rfl⟩ ih
    by_cases hv : (0 : Int) < ((N / 10 ^ i : Nat) : Int)
    · have hi : i < lenD N := (lt_lenD N i).2 (by
        rcases Nat.lt_or_ge N (10 ^ i) with h | h
        · rw [Nat.div_eq_of_lt h] at hv; exact absurd hv (by decide)
        · exact h)
      have cl : (dgN N i).length = i := dgN_len _ _
      have cs : (dgN N i).map (fun x => AV.int .i64 x) ++ [AV.int .i64 ((dgt N i : Nat) : Int)] = (dgN N (i + 1)).map fun x => .int .i64 x := by rw [dgN_succ, List.map_append]; rfl
      have a1 : (i + 1) * 8 ≤ maxBytes := by unfold maxBytes; omega
      have a2 : i + 1 ≤ 9223372036854775807 := by omega
      have e1 : Int.tmod ((N / 10 ^ i : Nat) : Int) 10 = ((dgt N i : Nat) : Int) := by rw [Int.tmod_eq_emod_of_nonneg (by omega)]; unfold dgt; omega
      have e2 : Int.tdiv ((N / 10 ^ i : Nat) : Int) 10 = ((N / 10 ^ (i + 1) : Nat) : Int) := by rw [Int.tdiv_eq_ediv_of_nonneg (by omega), Nat.pow_succ, ← Nat.div_div_eq_div_mul]; omega
      have e3 : IntKind.u64.wrap ((dgt N i : Nat) : Int) = ((dgt N i : Nat) : Int) := by have := dgt_lt N i; exact wrapU (by omega)
      have e4 : IntKind.i64.wrap ((dgt N i : Nat) : Int) = ((dgt N i : Nat) : Int) := by have := dgt_lt N i; exact wrapI (by omega)
      have e5 : IntKind.u64.wrap ((N / 10 ^ (i + 1) : Nat) : Int) = ((N / 10 ^ (i + 1) : Nat) : Int) := by
        have h1 := Nat.div_le_self N (10 ^ (i + 1))
        generalize N / 10 ^ (i + 1) = q at h1 ⊢
        exact wrapU (by omega)
      simp (maxSteps := 2000000) only [wk0, wk1, wk2, wk3, wk4, wk5, Fr.ev, Fr.put, Fr.get, pkB, pkT, pkF, storeA, if_false, if_true, Nat.reduceEqDiff, reduceIte, Nat.reduceAdd, List.replicate, Nat.reduceLeDiff, Nat.reduceMul, Nat.reduceSub, Nat.reducePow, Int.reduceLT, Int.reduceLE, Int.reduceToNat, Int.reducePow, IntKind.bits, Int.reduceEq, Int.reduceMul, Int.reduceNeg, ne_eq, reduceCtorEq, BEq.rfl, beq_self_eq_true, Int.reduceAdd, Int.reduceSub, Int.reduceMod, Int.reduceDiv, Nat.reduceMod, Nat.reduceDiv, Nat.reduceLT, cond_true, cond_false, gt_iff_lt, ge_iff_le, g0, g2, g3, g4, hv, e1, e2, e3, e4, e5, cl, cs, a1, a2, List.length_map, Nat.mul_one, YtoncolpkpgbfiaaDoor.D44, ty1, ty2, ty3, ty4, ty100, ty102, ty151]
      exact ih (N / 10 ^ (i + 1)) _ _ (by rw [← him, Nat.pow_succ, ← Nat.div_div_eq_div_mul]; exact Nat.div_lt_self (by omega) (by omega)) ⟨i + 1, i + 1, by omega, rfl, by simp [Fr.get, g0], by simp [Fr.get, g2], by simp [Fr.get], by simp [Fr.get], rfl⟩
    · have hi : lenD N ≤ i := (lenD_le i N).2 (by
        rcases Nat.lt_or_ge N (10 ^ i) with h | h
        · exact h
        · exact absurd (Nat.div_pos h (Nat.pow_pos (by omega))) (by omega))
      obtain rfl : i = lenD N := by omega
      simp (maxSteps := 2000000) only [wk0, wk1, wk2, wk3, wk4, wk5, Fr.ev, Fr.put, Fr.get, pkB, pkT, pkF, storeA, if_false, if_true, Nat.reduceEqDiff, reduceIte, Nat.reduceAdd, List.replicate, Nat.reduceLeDiff, Nat.reduceMul, Nat.reduceSub, Nat.reducePow, Int.reduceLT, Int.reduceLE, Int.reduceToNat, Int.reducePow, IntKind.bits, Int.reduceEq, Int.reduceMul, Int.reduceNeg, ne_eq, reduceCtorEq, BEq.rfl, beq_self_eq_true, Int.reduceAdd, Int.reduceSub, Int.reduceMod, Int.reduceDiv, Nat.reduceMod, Nat.reduceDiv, Nat.reduceLT, cond_true, cond_false, gt_iff_lt, ge_iff_le, g0, g2, g3, g4, hv, h0, YtoncolpkpgbfiaaDoor.D44, ty1, ty2, ty3, ty4, ty100, ty102, ty151]
      refine retB_one ?_ (by simp)
      have hd : decide (n < 0) = _ := decide_eq_false h0
      unfold decA
      rw [hN, hd]
      refine .agg _ _ (.cons _ _ _ _ (.same _ (.bool _)) (.cons _ _ _ _ ?_ .nil))
      have h := fin_sl (base := S.length) (id := S.length + 1) (ver := lenD N) (cap := cap) (u := lenD N) (L := digs N) (H := S ++ [some ⟨[.bool false, .sl (S.length + 1) (lenD N) 0 (lenD N) cap 1], 0⟩, some ⟨(dgN N (lenD N)).map fun x => .int .i64 x, lenD N⟩]) (by omega) (by rw [blkAt_app, show (1 : Nat) = 0 + 1 from rfl, blkAt_succ, blkAt_zero]; rfl)
      rw [digs_len] at h
      exact h
end Go.Proofs.YtoncolpkpgbfiaaDoor
