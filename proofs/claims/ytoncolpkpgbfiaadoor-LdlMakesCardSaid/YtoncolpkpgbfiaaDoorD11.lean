/- Decimals: a sum that begins with a number of no digits at all, and goes below nought. -/
import Derived.Test.YtoncolpkpgbfiaaDoorD9
set_option linter.unusedSimpArgs false
set_option linter.unusedVariables false
set_option maxRecDepth 100000
set_option maxHeartbeats 4000000
namespace Go.Proofs.YtoncolpkpgbfiaaDoor
theorem decLessN_ok (b : Nat) (S : Heap) (hb0 : 0 < b) : Call theE 48 [.nils, lstI (digs b)] S (.bool true) S := by
  have db := digs_len b
  have hl : 0 < lenD b := lenD_pos hb0
  have h1 : ¬ (0 : Int) = ((lenD b : Nat) : Int) := by omega
  have h2 : (0 : Int) < ((lenD b : Nat) : Int) := by omega
  refine Call.ofC Tryd.func48 YtoncolpkpgbfiaaDoor.b48 YtoncolpkpgbfiaaDoor.d48 YtoncolpkpgbfiaaDoor.e48 (by simp [Tryd.f48]) ?_
  dsimp only [YtoncolpkpgbfiaaDoor.c48, Tryd.f48, Option.getD_some]
  simp (maxSteps := 2000000) only [wk0, wk1, wk2, wk3, wk4, wk5, wk6, Fr.ev, Fr.put, Fr.get, storeA, List.replicate, IntKind.bits, sevalprocAttr, lstI, db, h1, h2, decide_true, YtoncolpkpgbfiaaDoor.D48, ty3, ty4, ty100]
  exact retB_plain (by simp [nmd_bool]) rfl (by simp)
theorem decMinusN_ok (b : Nat) (S : Heap) (hb0 : 0 < b) (hb : lenD b ≤ 90000) : Call theE 84 [lstI (digs b), .nils] S (lstI (digs b)) S := by
  have db := digs_len b
  have hl : 0 < lenD b := lenD_pos hb0
  refine Call.ofC Tryd.func84 YtoncolpkpgbfiaaDoor.b84 YtoncolpkpgbfiaaDoor.d84 YtoncolpkpgbfiaaDoor.e84 (by simp [Tryd.f84]) ?_
  dsimp only [YtoncolpkpgbfiaaDoor.c84, Tryd.f84, Option.getD_some]
  simp (maxSteps := 2000000) only [wk0, wk1, wk2, wk3, wk4, wk5, wk6, Fr.ev, Fr.put, Fr.get, storeA, List.replicate, IntKind.bits, sevalprocAttr, lstI, db, YtoncolpkpgbfiaaDoor.D84, ty1, ty3, ty4, ty100]
  refine loopC_ind (fun m fr H => ∃ i cap : Nat, i + m = lenD b ∧ fr.get 0 = .lst ((digs b).map fun x => .int .i64 x) (lenD b) ∧ fr.get 1 = .nils ∧ fr.get 5 = .sl S.length i 0 i cap 1 ∧ fr.get 6 = .int .i64 0 ∧ fr.get 7 = .int .i64 (i : Int) ∧
    H = S ++ [some ⟨(dgN b i).map fun x => .int .i64 x, i⟩]) ?_ (n := lenD b) ⟨0, 0, by omega, rfl, rfl, rfl, rfl, rfl, rfl⟩
  rintro m fr H ⟨i, cap, him, g0, g1, g5, g6, g7, rfl⟩ ih
  have cl : (dgN b i).length = i := dgN_len _ _
  have a1 : (i + 1) * 8 ≤ maxBytes := by unfold maxBytes; omega
  have a2 : i + 1 ≤ 9223372036854775807 := by omega
  have p1 : (0 : Int) ≤ (i : Int) := by omega
  have p0 : ¬ (i : Int) < 0 := by omega
  have wi : IntKind.i64.wrap ((i : Int) + 1) = ((i + 1 : Nat) : Int) := wrapI (by omega)
  by_cases hi : (i : Int) < ((lenD b : Nat) : Int)
  · have gb := digs_getA b (show i < lenD b by omega)
    have y1 := dgt_lt b i
    have cs := dgN_app b i
    have w1 : IntKind.i64.wrap (((dgt b i : Nat) : Int) - 0) = ((dgt b i : Nat) : Int) := by rw [wrapI (by omega)]; omega
    have q0 : ¬ ((dgt b i : Nat) : Int) < 0 := by omega
    simp (maxSteps := 2000000) only [wk0, wk1, wk2, wk3, wk4, wk5, wk6, Fr.ev, Fr.put, Fr.get, storeA, List.replicate, IntKind.bits, sevalprocAttr, g0, g1, g5, g6, g7, p0, hi, p1, w1, q0, gb, cl, cs, a1, a2, wi, List.length_map, Nat.mul_one, Int.toNat_natCast, YtoncolpkpgbfiaaDoor.D84, ty1, ty3, ty4, ty100]
    exact ih (m - 1) _ _ (by omega) ⟨i + 1, i + 1, by omega, by simp [Fr.get, g0], by simp [Fr.get, g1], by simp [Fr.get], by simp [Fr.get], by simp [Fr.get], rfl⟩
  · obtain rfl : i = lenD b := by omega
    have hn : b < 10 ^ lenD b := lt_pow_lenD b
    have hb0 : blkAt (S ++ [some ⟨(dgN b (lenD b)).map fun x => .int .i64 x, lenD b⟩]) S.length (lenD b) = some ⟨(dgN b (lenD b)).map fun x => .int .i64 x, lenD b⟩ := by rw [blkAt_app0, blkAt_zero]
    simp (maxSteps := 2000000) only [wk0, wk1, wk2, wk3, wk4, wk5, wk6, Fr.ev, Fr.put, Fr.get, storeA, List.replicate, IntKind.bits, sevalprocAttr, g0, g1, g5, g6, g7, hi, YtoncolpkpgbfiaaDoor.D84, ty1, ty3, ty4, ty100]
    have ht := trim_ok S.length (lenD b) (lenD b) cap b (lenD b) _ (by omega) hn hb0
    rw [slD_pos (by omega)] at ht
    refine callThen_of ht ?_
    simp (maxSteps := 2000000) only [wk0, wk1, wk2, wk3, wk4, wk5, wk6, Fr.ev, Fr.put, Fr.get, storeA, List.replicate, IntKind.bits, sevalprocAttr, mv_slD, YtoncolpkpgbfiaaDoor.D84, ty1, ty3, ty4, ty100]
    refine retB_one ?_ (by simp)
    have h := fin_slD (base := S.length) (cap := cap) (k := lenD b) (by omega) hb0 (by rw [dgN_len]; omega)
    rw [dgN_take _ (by omega)] at h
    have e : lstI (dgN b (lenD b)) = AV.lst ((digs b).map fun x => .int .i64 x) (lenD b) := by unfold lstI; rw [dgN_len]; rfl
    rw [e, slD_pos (by omega)] at h
    exact h
/-- The first sum of any. -/
theorem decAddZ_ok (y : Int) (S : Heap) (hl : lenD y.natAbs ≤ 80000) : Call theE 46 [.agg [.bool false, .nils], decA y] S (decA y) S := by
  by_cases hy : 0 ≤ y
  · exact decAddN_ok y S hy hl
  have hb : 0 < y.natAbs := by omega
  have p := fun S => decLessN_ok y.natAbs S hb
  have m := fun S => decMinusN_ok y.natAbs S hb (by omega)
  have n := fun S => decNum1_ok true y.natAbs S (by omega)
  have e : decA y = .agg [.bool true, lstI (digs y.natAbs)] := by unfold decA; rw [decide_eq_true (by omega)]
  rw [e]
  have hd : decide (0 < y.natAbs) = true := decide_eq_true hb
  have bf : (false == true) = false := rfl
  simp only [numA, lstI, digs_len, Bool.true_and, hd] at p m n ⊢
  refine Call.ofC Tryd.func46 YtoncolpkpgbfiaaDoor.b46 YtoncolpkpgbfiaaDoor.d46 YtoncolpkpgbfiaaDoor.e46 (by simp [Tryd.f46]) ?_
  dsimp only [YtoncolpkpgbfiaaDoor.c46, Tryd.f46, Option.getD_some]
  simp (maxSteps := 2000000) only [wk0, wk1, wk2, wk3, wk4, wk5, wk6, Fr.ev, Fr.put, Fr.get, storeA, List.replicate, IntKind.bits, sevalprocAttr, bf, decide_true, decide_false, Bool.false_eq_true, YtoncolpkpgbfiaaDoor.D46, ty1, ty4, ty100, ty102]
  refine callThen_of (p _) ?_
  simp (maxSteps := 2000000) only [wk0, wk1, wk2, wk3, wk4, wk5, wk6, Fr.ev, Fr.put, Fr.get, storeA, List.replicate, IntKind.bits, sevalprocAttr, decide_true, decide_false, YtoncolpkpgbfiaaDoor.D46, ty1, ty4, ty100, ty102]
  refine callThen_of (m _) ?_
  simp (maxSteps := 2000000) only [wk0, wk1, wk2, wk3, wk4, wk5, wk6, Fr.ev, Fr.put, Fr.get, storeA, List.replicate, IntKind.bits, sevalprocAttr, decide_true, decide_false, YtoncolpkpgbfiaaDoor.D46, ty1, ty4, ty100, ty102]
  refine callThen_of (n _) ?_
  simp (maxSteps := 2000000) only [wk0, wk1, wk2, wk3, wk4, wk5, wk6, Fr.ev, Fr.put, Fr.get, storeA, List.replicate, IntKind.bits, sevalprocAttr, decide_true, decide_false, YtoncolpkpgbfiaaDoor.D46, ty1, ty4, ty100, ty102]
  exact retB_plain (by simp [nmd_agg, nmd_bool, nmd_lst]) rfl (by simp)
end Go.Proofs.YtoncolpkpgbfiaaDoor

/- Decimals: what a number of no digits at all is bounded to. -/
set_option linter.unusedSimpArgs false
set_option linter.unusedVariables false
set_option maxRecDepth 100000
set_option maxHeartbeats 4000000
namespace Go.Proofs.YtoncolpkpgbfiaaDoor
theorem decSubZ_ok (y : Int) (S : Heap) (hy : lenD y.natAbs ≤ 80000) : Call theE 47 [.agg [.bool false, .nils], decA y] S (decA (-y)) S := by
  have h1 := fun S => decNeg_ok y S (by omega)
  have h2 := fun S => decAddZ_ok (-y) S (by rw [lenD_neg]; exact hy)
  refine Call.ofC Tryd.func47 YtoncolpkpgbfiaaDoor.b47 YtoncolpkpgbfiaaDoor.d47 YtoncolpkpgbfiaaDoor.e47 (by simp [Tryd.f47]) ?_
  dsimp only [YtoncolpkpgbfiaaDoor.c47, Tryd.f47, Option.getD_some]
  simp (maxSteps := 2000000) only [wk0, wk1, wk2, wk3, wk4, wk5, wk6, Fr.ev, Fr.put, Fr.get, storeA, List.replicate, IntKind.bits, sevalprocAttr, decA, lstI, YtoncolpkpgbfiaaDoor.D47, ty102]
  refine callThen_of (h1 _) ?_
  simp (maxSteps := 2000000) only [wk0, wk1, wk2, wk3, wk4, wk5, wk6, Fr.ev, Fr.put, Fr.get, storeA, List.replicate, IntKind.bits, sevalprocAttr, decA, lstI, YtoncolpkpgbfiaaDoor.D47, ty102]
  refine callThen_of (h2 _) ?_
  simp (maxSteps := 2000000) only [wk0, wk1, wk2, wk3, wk4, wk5, wk6, Fr.ev, Fr.put, Fr.get, storeA, List.replicate, IntKind.bits, sevalprocAttr, decA, lstI, YtoncolpkpgbfiaaDoor.D47, ty102]
  exact retB_plain (by simp [nmd_agg, nmd_bool, nmd_lst, lstI]) rfl (by simp)
end Go.Proofs.YtoncolpkpgbfiaaDoor
