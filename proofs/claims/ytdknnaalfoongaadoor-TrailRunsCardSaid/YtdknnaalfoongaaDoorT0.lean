/- trig: how far a place is. -/
import Derived.Test.YtdknnaalfoongaaDoorQ4
set_option linter.unusedSimpArgs false
set_option linter.unusedVariables false
set_option maxRecDepth 100000
set_option maxHeartbeats 4000000
namespace Go.Proofs.YtdknnaalfoongaaDoor
noncomputable def c70 : Code := Tryd.f70.body.getD .skip
theorem b70 : Tryd.f70.body = some c70 := rfl
theorem d70 : fnOk Tryd.f70 c70 = true := by kernel_rfl
def D70 : Nat → List Tag := fun _ => []
theorem e70 : drawsOk D70 c70 = true := by kernel_rfl
noncomputable def c106 : Code := Tryd.f106.body.getD .skip
theorem b106 : Tryd.f106.body = some c106 := rfl
theorem d106 : fnOk Tryd.f106 c106 = true := by kernel_rfl
def D106 : Nat → List Tag := fun _ => []
theorem e106 : drawsOk D106 c106 = true := by kernel_rfl
noncomputable def c71 : Code := Tryd.f71.body.getD .skip
theorem b71 : Tryd.f71.body = some c71 := rfl
theorem d71 : fnOk Tryd.f71 c71 = true := by kernel_rfl
def D71 : Nat → List Tag := fun _ => []
theorem e71 : drawsOk D71 c71 = true := by kernel_rfl
noncomputable def c35 : Code := Tryd.f35.body.getD .skip
theorem b35 : Tryd.f35.body = some c35 := rfl
theorem d35 : fnOk Tryd.f35 c35 = true := by kernel_rfl
def D35 : Nat → List Tag := fun _ => []
theorem e35 : drawsOk D35 c35 = true := by kernel_rfl
def topJ (n : Int) : Prop := -4611686018427387903 ≤ n ∧ n ≤ 4611686018427387903
instance (n : Int) : Decidable (topJ n) := by unfold topJ; exact inferInstance
theorem mayT_ok (n : Int) (S : Heap) : Call theE 70 [.int .i64 n] S (.bool (decide (topJ n))) S := by
  unfold topJ
  refine Call.ofC Tryd.func70 YtdknnaalfoongaaDoor.b70 YtdknnaalfoongaaDoor.d70 YtdknnaalfoongaaDoor.e70 (by simp [Tryd.f70]) ?_
  dsimp only [YtdknnaalfoongaaDoor.c70, Tryd.f70, Option.getD_some]
  by_cases h1 : -4611686018427387903 ≤ n
  · by_cases h2 : n ≤ 4611686018427387903
    · simp (maxSteps := 2000000) only [wk0, wk1, wk2, wk3, wk4, wk5, Fr.ev, Fr.put, Fr.get, pkB, pkT, pkF, storeA, if_false, if_true, Nat.reduceEqDiff, reduceIte, Nat.reduceAdd, List.replicate, Nat.reduceLeDiff, Nat.reduceMul, Nat.reduceSub, Nat.reducePow, Int.reduceLT, Int.reduceLE, Int.reduceToNat, Int.reducePow, IntKind.bits, Int.reduceEq, Int.reduceMul, Int.reduceNeg, ne_eq, reduceCtorEq, BEq.rfl, beq_self_eq_true, Int.reduceAdd, Int.reduceSub, Int.reduceMod, Int.reduceDiv, Nat.reduceMod, Nat.reduceDiv, Nat.reduceLT, cond_true, cond_false, gt_iff_lt, ge_iff_le, h1, h2, decide_true, YtdknnaalfoongaaDoor.D70, ty2, ty4]
      exact retB_plain (by simp [nmd_bool]) (by simp [packA, h1, h2]) (by simp)
    · simp (maxSteps := 2000000) only [wk0, wk1, wk2, wk3, wk4, wk5, Fr.ev, Fr.put, Fr.get, pkB, pkT, pkF, storeA, if_false, if_true, Nat.reduceEqDiff, reduceIte, Nat.reduceAdd, List.replicate, Nat.reduceLeDiff, Nat.reduceMul, Nat.reduceSub, Nat.reducePow, Int.reduceLT, Int.reduceLE, Int.reduceToNat, Int.reducePow, IntKind.bits, Int.reduceEq, Int.reduceMul, Int.reduceNeg, ne_eq, reduceCtorEq, BEq.rfl, beq_self_eq_true, Int.reduceAdd, Int.reduceSub, Int.reduceMod, Int.reduceDiv, Nat.reduceMod, Nat.reduceDiv, Nat.reduceLT, cond_true, cond_false, gt_iff_lt, ge_iff_le, h1, h2, decide_true, decide_false, YtdknnaalfoongaaDoor.D70, ty2, ty4]
      exact retB_plain (by simp [nmd_bool]) (by simp [packA, h1, h2]) (by simp)
  · simp (maxSteps := 2000000) only [wk0, wk1, wk2, wk3, wk4, wk5, Fr.ev, Fr.put, Fr.get, pkB, pkT, pkF, storeA, if_false, if_true, Nat.reduceEqDiff, reduceIte, Nat.reduceAdd, List.replicate, Nat.reduceLeDiff, Nat.reduceMul, Nat.reduceSub, Nat.reducePow, Int.reduceLT, Int.reduceLE, Int.reduceToNat, Int.reducePow, IntKind.bits, Int.reduceEq, Int.reduceMul, Int.reduceNeg, ne_eq, reduceCtorEq, BEq.rfl, beq_self_eq_true, Int.reduceAdd, Int.reduceSub, Int.reduceMod, Int.reduceDiv, Nat.reduceMod, Nat.reduceDiv, Nat.reduceLT, cond_true, cond_false, gt_iff_lt, ge_iff_le, h1, decide_false, YtdknnaalfoongaaDoor.D70, ty2, ty4]
    exact retB_plain (by simp [nmd_bool]) (by simp [packA, h1]) (by simp)
theorem sizeT_ok (n : Int) (S : Heap) (h : topJ n) : Call theE 106 [.int .i64 n] S (.int .i64 (max n (-n))) S := by
  unfold topJ at h
  have w : IntKind.i64.wrap (0 - n) = -n := by rw [wrapI (by omega)]; omega
  refine Call.ofC Tryd.func106 YtdknnaalfoongaaDoor.b106 YtdknnaalfoongaaDoor.d106 YtdknnaalfoongaaDoor.e106 (by simp [Tryd.f106]) ?_
  dsimp only [YtdknnaalfoongaaDoor.c106, Tryd.f106, Option.getD_some]
  simp (maxSteps := 2000000) only [wk0, wk1, wk2, wk3, wk4, wk5, Fr.ev, Fr.put, Fr.get, pkB, pkT, pkF, storeA, if_false, if_true, Nat.reduceEqDiff, reduceIte, Nat.reduceAdd, List.replicate, Nat.reduceLeDiff, Nat.reduceMul, Nat.reduceSub, Nat.reducePow, Int.reduceLT, Int.reduceLE, Int.reduceToNat, Int.reducePow, IntKind.bits, Int.reduceEq, Int.reduceMul, Int.reduceNeg, ne_eq, reduceCtorEq, BEq.rfl, beq_self_eq_true, Int.reduceAdd, Int.reduceSub, Int.reduceMod, Int.reduceDiv, Nat.reduceMod, Nat.reduceDiv, Nat.reduceLT, cond_true, cond_false, gt_iff_lt, ge_iff_le, w, YtdknnaalfoongaaDoor.D106, ty2]
  exact retB_plain (by simp [nmd_int]) rfl (by simp)
theorem rootT_ok (x y : Int) (S : Heap) (hx : topJ x) (hy : topJ y) :
    ∃ r : Int, (0 ≤ r ∧ r < 9223372036854775808) ∧ r * r ≤ x * x + y * y ∧ x * x + y * y < (r + 1) * (r + 1) ∧ Call theE 71 [.int .i64 x, .int .i64 y] S (.int .i64 (min r 4611686018427387903)) S := by
  have sx := fun S => sizeT_ok x S hx
  have sy := fun S => sizeT_ok y S hy
  unfold topJ at hx hy
  have ax : max x (-x) * max x (-x) = x * x := by
    rcases Int.le_total 0 x with h | h
    · rw [show max x (-x) = x by omega]
    · rw [show max x (-x) = -x by omega, Int.neg_mul_neg]
  have ay : max y (-y) * max y (-y) = y * y := by
    rcases Int.le_total 0 y with h | h
    · rw [show max y (-y) = y by omega]
    · rw [show max y (-y) = -y by omega, Int.neg_mul_neg]
  obtain ⟨a, ha⟩ : ∃ a, max x (-x) = a := ⟨_, rfl⟩
  obtain ⟨b, hb'⟩ : ∃ b, max y (-y) = b := ⟨_, rfl⟩
  have a0 : 0 ≤ a ∧ a ≤ 4611686018427387903 := by omega
  have b0 : 0 ≤ b ∧ b ≤ 4611686018427387903 := by omega
  rw [ha] at ax sx
  rw [hb'] at ay sy
  have ma := fun S => mul64_ok a a S (by omega) (by omega)
  have mb := fun S => mul64_ok b b S (by omega) (by omega)
  have wa : IntKind.u64.wrap a = a := wrapU (by omega)
  have wb : IntKind.u64.wrap b = b := wrapU (by omega)
  have hA := mulB (a := a) (b := a) (A := 4611686018427387903) (B := 4611686018427387903) a0.1 a0.2 a0.1 a0.2
  have hB2 := mulB (a := b) (b := b) (A := 4611686018427387903) (B := 4611686018427387903) b0.1 b0.2 b0.1 b0.2
  rw [ax] at ma hA
  rw [ay] at mb hB2
  generalize x * x = X2 at *
  generalize y * y = Y2 at *
  have d1 := add64A_ok (x := X2 % 18446744073709551616) (y := Y2 % 18446744073709551616) (c := 0) (by omega) (by omega) (by omega) (by omega)
  have d2 := add64A_ok (x := X2 / 18446744073709551616) (y := Y2 / 18446744073709551616) (c := (X2 % 18446744073709551616 + Y2 % 18446744073709551616 + 0) / 18446744073709551616) (by omega) (by omega) (by omega) (by omega)
  have e1 : (X2 % 18446744073709551616 + Y2 % 18446744073709551616 + 0) % 18446744073709551616 = (X2 + Y2) % 18446744073709551616 := by omega
  have e2 : (X2 / 18446744073709551616 + Y2 / 18446744073709551616 + (X2 % 18446744073709551616 + Y2 % 18446744073709551616 + 0) / 18446744073709551616) % 18446744073709551616 = (X2 + Y2) / 18446744073709551616 := by omega
  rw [e1] at d1
  rw [e2] at d2
  generalize hN : X2 + Y2 = N at *
  have hB : 0 ≤ N ∧ N ≤ 2 * (4611686018427387903 * 4611686018427387903) := by omega
  obtain ⟨r', h1', h2'⟩ := sqrt_ex N.toNat
  obtain ⟨r, hr⟩ : ∃ r : Int, r = r' := ⟨_, rfl⟩
  have h0 : 0 ≤ r := by omega
  have h1 : r * r ≤ N := by
    have : ((r' * r' : Nat) : Int) ≤ N := by omega
    rw [hr]; simpa using this
  have h2 : N < (r + 1) * (r + 1) := by
    have : N < (((r' + 1) * (r' + 1) : Nat) : Int) := by omega
    rw [hr]; simpa using this
  have h3 : r < 9223372036854775808 := by
    rcases Int.lt_or_le r 9223372036854775808 with h | h
    · exact h
    · have := (mulB (a := 9223372036854775808) (b := 9223372036854775808) (A := r) (B := r) (by omega) h (by omega) h).2
      omega
  refine ⟨r, ⟨h0, h3⟩, h1, h2, ?_⟩
  refine Call.ofC Tryd.func71 YtdknnaalfoongaaDoor.b71 YtdknnaalfoongaaDoor.d71 YtdknnaalfoongaaDoor.e71 (by simp [Tryd.f71]) ?_
  dsimp only [YtdknnaalfoongaaDoor.c71, Tryd.f71, Option.getD_some]
  simp (maxSteps := 2000000) only [wk0, wk1, wk2, wk3, wk4, wk5, Fr.ev, Fr.put, Fr.get, pkB, pkT, pkF, storeA, if_false, if_true, Nat.reduceEqDiff, reduceIte, Nat.reduceAdd, List.replicate, Nat.reduceLeDiff, Nat.reduceMul, Nat.reduceSub, Nat.reducePow, Int.reduceLT, Int.reduceLE, Int.reduceToNat, Int.reducePow, IntKind.bits, Int.reduceEq, Int.reduceMul, Int.reduceNeg, ne_eq, reduceCtorEq, BEq.rfl, beq_self_eq_true, Int.reduceAdd, Int.reduceSub, Int.reduceMod, Int.reduceDiv, Nat.reduceMod, Nat.reduceDiv, Nat.reduceLT, cond_true, cond_false, gt_iff_lt, ge_iff_le, wa, wb, d1, d2, YtdknnaalfoongaaDoor.D71, ty2, ty4, ty64, ty122]
  refine callThen_of (sx _) ?_
  simp (maxSteps := 2000000) only [wk0, wk1, wk2, wk3, wk4, wk5, Fr.ev, Fr.put, Fr.get, pkB, pkT, pkF, storeA, if_false, if_true, Nat.reduceEqDiff, reduceIte, Nat.reduceAdd, List.replicate, Nat.reduceLeDiff, Nat.reduceMul, Nat.reduceSub, Nat.reducePow, Int.reduceLT, Int.reduceLE, Int.reduceToNat, Int.reducePow, IntKind.bits, Int.reduceEq, Int.reduceMul, Int.reduceNeg, ne_eq, reduceCtorEq, BEq.rfl, beq_self_eq_true, Int.reduceAdd, Int.reduceSub, Int.reduceMod, Int.reduceDiv, Nat.reduceMod, Nat.reduceDiv, Nat.reduceLT, cond_true, cond_false, gt_iff_lt, ge_iff_le, wa, wb, d1, d2, YtdknnaalfoongaaDoor.D71, ty2, ty4, ty64, ty122]
  refine callThen_of (sy _) ?_
  simp (maxSteps := 2000000) only [wk0, wk1, wk2, wk3, wk4, wk5, Fr.ev, Fr.put, Fr.get, pkB, pkT, pkF, storeA, if_false, if_true, Nat.reduceEqDiff, reduceIte, Nat.reduceAdd, List.replicate, Nat.reduceLeDiff, Nat.reduceMul, Nat.reduceSub, Nat.reducePow, Int.reduceLT, Int.reduceLE, Int.reduceToNat, Int.reducePow, IntKind.bits, Int.reduceEq, Int.reduceMul, Int.reduceNeg, ne_eq, reduceCtorEq, BEq.rfl, beq_self_eq_true, Int.reduceAdd, Int.reduceSub, Int.reduceMod, Int.reduceDiv, Nat.reduceMod, Nat.reduceDiv, Nat.reduceLT, cond_true, cond_false, gt_iff_lt, ge_iff_le, wa, wb, d1, d2, YtdknnaalfoongaaDoor.D71, ty2, ty4, ty64, ty122]
  refine callThen_of (ma _) ?_
  simp (maxSteps := 2000000) only [wk0, wk1, wk2, wk3, wk4, wk5, Fr.ev, Fr.put, Fr.get, pkB, pkT, pkF, storeA, if_false, if_true, Nat.reduceEqDiff, reduceIte, Nat.reduceAdd, List.replicate, Nat.reduceLeDiff, Nat.reduceMul, Nat.reduceSub, Nat.reducePow, Int.reduceLT, Int.reduceLE, Int.reduceToNat, Int.reducePow, IntKind.bits, Int.reduceEq, Int.reduceMul, Int.reduceNeg, ne_eq, reduceCtorEq, BEq.rfl, beq_self_eq_true, Int.reduceAdd, Int.reduceSub, Int.reduceMod, Int.reduceDiv, Nat.reduceMod, Nat.reduceDiv, Nat.reduceLT, cond_true, cond_false, gt_iff_lt, ge_iff_le, wa, wb, d1, d2, YtdknnaalfoongaaDoor.D71, ty2, ty4, ty64, ty122]
  refine callThen_of (mb _) ?_
  simp (maxSteps := 2000000) only [wk0, wk1, wk2, wk3, wk4, wk5, Fr.ev, Fr.put, Fr.get, pkB, pkT, pkF, storeA, if_false, if_true, Nat.reduceEqDiff, reduceIte, Nat.reduceAdd, List.replicate, Nat.reduceLeDiff, Nat.reduceMul, Nat.reduceSub, Nat.reducePow, Int.reduceLT, Int.reduceLE, Int.reduceToNat, Int.reducePow, IntKind.bits, Int.reduceEq, Int.reduceMul, Int.reduceNeg, ne_eq, reduceCtorEq, BEq.rfl, beq_self_eq_true, Int.reduceAdd, Int.reduceSub, Int.reduceMod, Int.reduceDiv, Nat.reduceMod, Nat.reduceDiv, Nat.reduceLT, cond_true, cond_false, gt_iff_lt, ge_iff_le, wa, wb, d1, d2, YtdknnaalfoongaaDoor.D71, ty2, ty4, ty64, ty122]
  refine loopC_ind (fun m fr H => m ≤ 63 ∧ fr.get 13 = .int .u64 (if m = 0 then 0 else 2 ^ (m - 1)) ∧ fr.get 12 = .int .u64 (r / 2 ^ m * 2 ^ m) ∧ fr.get 8 = .int .u64 (N % 18446744073709551616) ∧ fr.get 7 = .int .u64 (N / 18446744073709551616) ∧ H = S) ?_ (n := 63)
    ⟨by decide, rfl, by rw [show r / 2 ^ 63 = 0 from Int.ediv_eq_zero_of_lt h0 h3]; rfl, rfl, rfl, rfl⟩
  rintro m fr H ⟨hm, g9, g8, g7, g6, rfl⟩ ih
  match m, hm, g9, g8, ih with
  | 0, _, g9, g8, _ =>
    rw [if_pos rfl] at g9
    have e : r / 2 ^ 0 * 2 ^ 0 = r := by simp
    rw [e] at g8
    have w : IntKind.i64.wrap (min r 4611686018427387903) = min r 4611686018427387903 := wrapI (by omega)
    simp (maxSteps := 2000000) only [wk0, wk1, wk2, wk3, wk4, wk5, Fr.ev, Fr.put, Fr.get, pkB, pkT, pkF, storeA, if_false, if_true, Nat.reduceEqDiff, reduceIte, Nat.reduceAdd, List.replicate, Nat.reduceLeDiff, Nat.reduceMul, Nat.reduceSub, Nat.reducePow, Int.reduceLT, Int.reduceLE, Int.reduceToNat, Int.reducePow, IntKind.bits, Int.reduceEq, Int.reduceMul, Int.reduceNeg, ne_eq, reduceCtorEq, BEq.rfl, beq_self_eq_true, Int.reduceAdd, Int.reduceSub, Int.reduceMod, Int.reduceDiv, Nat.reduceMod, Nat.reduceDiv, Nat.reduceLT, cond_true, cond_false, gt_iff_lt, ge_iff_le, g9, g8, g7, g6, Int.lt_irrefl, w, YtdknnaalfoongaaDoor.D71, ty2, ty4, ty64, ty122]
    exact retB_plain (by simp [nmd_int]) rfl (by simp)
  | j + 1, hm, g9, g8, ih =>
    rw [if_neg (by omega), Nat.add_sub_cancel] at g9
    have hpj := pow62 j (by omega)
    have hpp : (2 : Int) ^ (j + 1) = 2 ^ j * 2 := Int.pow_succ ..
    have hor := fun (y : Int) => @orU (2 ^ j) y (j + 1)
    have hnx : ((2 : Int) ^ j).fdiv 2 = if j = 0 then 0 else 2 ^ (j - 1) := by
      rw [shr0 (by decide)]
      by_cases hj : j = 0
      · subst hj; rfl
      · obtain ⟨i, rfl⟩ : ∃ i, j = i + 1 := ⟨j - 1, by omega⟩
        rw [if_neg hj, Nat.add_sub_cancel, Int.pow_succ]; omega
    have hih := ih j
    clear ih
    rw [hpp] at g8 hor
    generalize hpd : (2 : Int) ^ j = p at *
    have hd2 : r / (p * 2) = r / p / 2 := by rw [Int.ediv_ediv_of_nonneg (by omega)]
    rw [hd2] at g8
    obtain ⟨d, hd⟩ : ∃ d, r / p = d := ⟨_, rfl⟩
    rw [hd] at g8
    have hdp : d * p ≤ r ∧ r < (d + 1) * p := by
      rw [← hd]
      have e1 := Int.mul_ediv_add_emod r p
      have e2 := Int.emod_nonneg r (show p ≠ 0 by omega)
      have e3 := Int.emod_lt_of_pos r (show 0 < p by omega)
      rw [Int.mul_comm] at e1
      rw [Int.add_mul]
      omega
    have hd0 : 0 ≤ d := by rw [← hd]; exact Int.ediv_nonneg h0 (by omega)
    have hx1 : d / 2 * (p * 2) = (d / 2 * 2) * p := by grind
    have hx2 : (d / 2 * 2) * p ≤ d * p := Int.mul_le_mul_of_nonneg_right (by omega) (by omega)
    have hx0 : 0 ≤ (d / 2 * 2) * p := Int.mul_nonneg (by omega) (by omega)
    obtain ⟨x, hx⟩ : ∃ x, x = d / 2 * (p * 2) + p := ⟨_, rfl⟩
    have hO : bitsI .or .u64 (d / 2 * (p * 2)) p = some (.int .u64 x) := by
      rw [orC (by omega) (by omega), hor _ ⟨by omega, by omega⟩ (by omega) (by omega), hx, Int.add_comm]
    have hm64 := fun S => mul64_ok x x S (by omega) (by omega)
    have hle : x * x ≤ N ↔ x ≤ r := sq_le (by omega) h0 h1 h2
    generalize hX : x * x = X at *
    have hb : (0 : Int) < p := by omega
    simp (maxSteps := 2000000) only [wk0, wk1, wk2, wk3, wk4, wk5, Fr.ev, Fr.put, Fr.get, pkB, pkT, pkF, storeA, if_false, if_true, Nat.reduceEqDiff, reduceIte, Nat.reduceAdd, List.replicate, Nat.reduceLeDiff, Nat.reduceMul, Nat.reduceSub, Nat.reducePow, Int.reduceLT, Int.reduceLE, Int.reduceToNat, Int.reducePow, IntKind.bits, Int.reduceEq, Int.reduceMul, Int.reduceNeg, ne_eq, reduceCtorEq, BEq.rfl, beq_self_eq_true, Int.reduceAdd, Int.reduceSub, Int.reduceMod, Int.reduceDiv, Nat.reduceMod, Nat.reduceDiv, Nat.reduceLT, cond_true, cond_false, gt_iff_lt, ge_iff_le, g9, g8, g7, g6, hb, hO, YtdknnaalfoongaaDoor.D71, ty2, ty4, ty64, ty122]
    refine callThen_of (hm64 _) ?_
    by_cases q : x ≤ r
    · have hxd : x = d * p := by
        have e1 : (d / 2 * 2 + 1) * p < (d + 1) * p := by rw [Int.add_mul (d / 2 * 2)]; omega
        have e2 := Int.lt_of_mul_lt_mul_right e1 (by omega)
        have e3 : d / 2 * 2 + 1 = d := by omega
        rw [hx, hx1, ← e3, Int.add_mul (d / 2 * 2)]
        rw [show (d / 2 * 2 + 1) / 2 = d / 2 by omega]
        omega
      have hXN := hle.2 q
      by_cases u1 : X / 18446744073709551616 < N / 18446744073709551616
      · skip
        simp (maxSteps := 2000000) only [wk0, wk1, wk2, wk3, wk4, wk5, Fr.ev, Fr.put, Fr.get, pkB, pkT, pkF, storeA, if_false, if_true, Nat.reduceEqDiff, reduceIte, Nat.reduceAdd, List.replicate, Nat.reduceLeDiff, Nat.reduceMul, Nat.reduceSub, Nat.reducePow, Int.reduceLT, Int.reduceLE, Int.reduceToNat, Int.reducePow, IntKind.bits, Int.reduceEq, Int.reduceMul, Int.reduceNeg, ne_eq, reduceCtorEq, BEq.rfl, beq_self_eq_true, Int.reduceAdd, Int.reduceSub, Int.reduceMod, Int.reduceDiv, Nat.reduceMod, Nat.reduceDiv, Nat.reduceLT, cond_true, cond_false, gt_iff_lt, ge_iff_le, g9, g8, g7, g6, u1, hnx, Int.lt_irrefl, YtdknnaalfoongaaDoor.D71, ty2, ty4, ty64, ty122]
        exact hih _ _ (by omega) ⟨by omega, by simp [Fr.get], by simp [Fr.get, hxd, hd], by simp [Fr.get, g7], by simp [Fr.get, g6], rfl⟩
      · have u2 : X / 18446744073709551616 = N / 18446744073709551616 := by omega
        have u3 : X % 18446744073709551616 ≤ N % 18446744073709551616 := by omega
        simp (maxSteps := 2000000) only [wk0, wk1, wk2, wk3, wk4, wk5, Fr.ev, Fr.put, Fr.get, pkB, pkT, pkF, storeA, if_false, if_true, Nat.reduceEqDiff, reduceIte, Nat.reduceAdd, List.replicate, Nat.reduceLeDiff, Nat.reduceMul, Nat.reduceSub, Nat.reducePow, Int.reduceLT, Int.reduceLE, Int.reduceToNat, Int.reducePow, IntKind.bits, Int.reduceEq, Int.reduceMul, Int.reduceNeg, ne_eq, reduceCtorEq, BEq.rfl, beq_self_eq_true, Int.reduceAdd, Int.reduceSub, Int.reduceMod, Int.reduceDiv, Nat.reduceMod, Nat.reduceDiv, Nat.reduceLT, cond_true, cond_false, gt_iff_lt, ge_iff_le, g9, g8, g7, g6, u1, u2, u3, hnx, Int.lt_irrefl, YtdknnaalfoongaaDoor.D71, ty2, ty4, ty64, ty122]
        exact hih _ _ (by omega) ⟨by omega, by simp [Fr.get], by simp [Fr.get, hxd, hd], by simp [Fr.get, g7], by simp [Fr.get, g6], rfl⟩
    · have hxd : d / 2 * (p * 2) = d * p := by
        have e1 : d * p < (d / 2 * 2 + 1) * p := by rw [Int.add_mul (d / 2 * 2)]; omega
        have e2 := Int.lt_of_mul_lt_mul_right e1 (by omega)
        rw [hx1, show d / 2 * 2 = d by omega]
      have hXN : ¬ X ≤ N := fun h => q (hle.1 h)
      have u1 : ¬ X / 18446744073709551616 < N / 18446744073709551616 := by omega
      by_cases u2 : X / 18446744073709551616 = N / 18446744073709551616
      · have u3 : ¬ X % 18446744073709551616 ≤ N % 18446744073709551616 := by omega
        simp (maxSteps := 2000000) only [wk0, wk1, wk2, wk3, wk4, wk5, Fr.ev, Fr.put, Fr.get, pkB, pkT, pkF, storeA, if_false, if_true, Nat.reduceEqDiff, reduceIte, Nat.reduceAdd, List.replicate, Nat.reduceLeDiff, Nat.reduceMul, Nat.reduceSub, Nat.reducePow, Int.reduceLT, Int.reduceLE, Int.reduceToNat, Int.reducePow, IntKind.bits, Int.reduceEq, Int.reduceMul, Int.reduceNeg, ne_eq, reduceCtorEq, BEq.rfl, beq_self_eq_true, Int.reduceAdd, Int.reduceSub, Int.reduceMod, Int.reduceDiv, Nat.reduceMod, Nat.reduceDiv, Nat.reduceLT, cond_true, cond_false, gt_iff_lt, ge_iff_le, g9, g8, g7, g6, u1, u2, u3, hnx, Int.lt_irrefl, YtdknnaalfoongaaDoor.D71, ty2, ty4, ty64, ty122]
        exact hih _ _ (by omega) ⟨by omega, by simp [Fr.get], by simp [Fr.get, g8, hxd, hd], by simp [Fr.get, g7], by simp [Fr.get, g6], rfl⟩
      · skip
        simp (maxSteps := 2000000) only [wk0, wk1, wk2, wk3, wk4, wk5, Fr.ev, Fr.put, Fr.get, pkB, pkT, pkF, storeA, if_false, if_true, Nat.reduceEqDiff, reduceIte, Nat.reduceAdd, List.replicate, Nat.reduceLeDiff, Nat.reduceMul, Nat.reduceSub, Nat.reducePow, Int.reduceLT, Int.reduceLE, Int.reduceToNat, Int.reducePow, IntKind.bits, Int.reduceEq, Int.reduceMul, Int.reduceNeg, ne_eq, reduceCtorEq, BEq.rfl, beq_self_eq_true, Int.reduceAdd, Int.reduceSub, Int.reduceMod, Int.reduceDiv, Nat.reduceMod, Nat.reduceDiv, Nat.reduceLT, cond_true, cond_false, gt_iff_lt, ge_iff_le, g9, g8, g7, g6, u1, u2, hnx, Int.lt_irrefl, YtdknnaalfoongaaDoor.D71, ty2, ty4, ty64, ty122]
        exact hih _ _ (by omega) ⟨by omega, by simp [Fr.get], by simp [Fr.get, g8, hxd, hd], by simp [Fr.get, g7], by simp [Fr.get, g6], rfl⟩
theorem far_ok (x y : Int) (S : Heap) (hx : topJ x) (hy : topJ y) :
    ∃ r : Int, (0 ≤ r ∧ r < 9223372036854775808) ∧ r * r ≤ x * x + y * y ∧ x * x + y * y < (r + 1) * (r + 1) ∧ ∀ S, Call theE 35 [.int .i64 x, .int .i64 y] S (.tup [.int .i64 (min r 4611686018427387903), .nili]) S := by
  obtain ⟨r, h0, h1, h2, _⟩ := rootT_ok x y S hx hy
  refine ⟨r, h0, h1, h2, fun S => ?_⟩
  obtain ⟨r', h0', h1', h2', h3⟩ := rootT_ok x y S hx hy
  have e : r = r' := by
    have a1 := (sq_le (x := r) h0.1 h0'.1 h1' h2').1 h1
    have a2 := (sq_le (x := r') h0'.1 h0.1 h1 h2).1 h1'
    omega
  subst e
  have m1 := fun S => mayT_ok x S
  have m2 := fun S => mayT_ok y S
  rw [decide_eq_true hx] at m1
  rw [decide_eq_true hy] at m2
  refine Call.ofC Tryd.func35 YtdknnaalfoongaaDoor.b35 YtdknnaalfoongaaDoor.d35 YtdknnaalfoongaaDoor.e35 (by simp [Tryd.f35]) ?_
  dsimp only [YtdknnaalfoongaaDoor.c35, Tryd.f35, Option.getD_some]
  simp (maxSteps := 2000000) only [wk0, wk1, wk2, wk3, wk4, wk5, Fr.ev, Fr.put, Fr.get, pkB, pkT, pkF, storeA, if_false, if_true, Nat.reduceEqDiff, reduceIte, Nat.reduceAdd, List.replicate, Nat.reduceLeDiff, Nat.reduceMul, Nat.reduceSub, Nat.reducePow, Int.reduceLT, Int.reduceLE, Int.reduceToNat, Int.reducePow, IntKind.bits, Int.reduceEq, Int.reduceMul, Int.reduceNeg, ne_eq, reduceCtorEq, BEq.rfl, beq_self_eq_true, Int.reduceAdd, Int.reduceSub, Int.reduceMod, Int.reduceDiv, Nat.reduceMod, Nat.reduceDiv, Nat.reduceLT, cond_true, cond_false, gt_iff_lt, ge_iff_le, YtdknnaalfoongaaDoor.D35, ty2, ty4, ty25, ty79]
  refine callThen_of (m1 _) ?_
  simp (maxSteps := 2000000) only [wk0, wk1, wk2, wk3, wk4, wk5, Fr.ev, Fr.put, Fr.get, pkB, pkT, pkF, storeA, if_false, if_true, Nat.reduceEqDiff, reduceIte, Nat.reduceAdd, List.replicate, Nat.reduceLeDiff, Nat.reduceMul, Nat.reduceSub, Nat.reducePow, Int.reduceLT, Int.reduceLE, Int.reduceToNat, Int.reducePow, IntKind.bits, Int.reduceEq, Int.reduceMul, Int.reduceNeg, ne_eq, reduceCtorEq, BEq.rfl, beq_self_eq_true, Int.reduceAdd, Int.reduceSub, Int.reduceMod, Int.reduceDiv, Nat.reduceMod, Nat.reduceDiv, Nat.reduceLT, cond_true, cond_false, gt_iff_lt, ge_iff_le, YtdknnaalfoongaaDoor.D35, ty2, ty4, ty25, ty79]
  refine callThen_of (m2 _) ?_
  simp (maxSteps := 2000000) only [wk0, wk1, wk2, wk3, wk4, wk5, Fr.ev, Fr.put, Fr.get, pkB, pkT, pkF, storeA, if_false, if_true, Nat.reduceEqDiff, reduceIte, Nat.reduceAdd, List.replicate, Nat.reduceLeDiff, Nat.reduceMul, Nat.reduceSub, Nat.reducePow, Int.reduceLT, Int.reduceLE, Int.reduceToNat, Int.reducePow, IntKind.bits, Int.reduceEq, Int.reduceMul, Int.reduceNeg, ne_eq, reduceCtorEq, BEq.rfl, beq_self_eq_true, Int.reduceAdd, Int.reduceSub, Int.reduceMod, Int.reduceDiv, Nat.reduceMod, Nat.reduceDiv, Nat.reduceLT, cond_true, cond_false, gt_iff_lt, ge_iff_le, YtdknnaalfoongaaDoor.D35, ty2, ty4, ty25, ty79]
  refine callThen_of (h3) ?_
  simp (maxSteps := 2000000) only [wk0, wk1, wk2, wk3, wk4, wk5, Fr.ev, Fr.put, Fr.get, pkB, pkT, pkF, storeA, if_false, if_true, Nat.reduceEqDiff, reduceIte, Nat.reduceAdd, List.replicate, Nat.reduceLeDiff, Nat.reduceMul, Nat.reduceSub, Nat.reducePow, Int.reduceLT, Int.reduceLE, Int.reduceToNat, Int.reducePow, IntKind.bits, Int.reduceEq, Int.reduceMul, Int.reduceNeg, ne_eq, reduceCtorEq, BEq.rfl, beq_self_eq_true, Int.reduceAdd, Int.reduceSub, Int.reduceMod, Int.reduceDiv, Nat.reduceMod, Nat.reduceDiv, Nat.reduceLT, cond_true, cond_false, gt_iff_lt, ge_iff_le, YtdknnaalfoongaaDoor.D35, ty2, ty4, ty25, ty79]
  exact retB_plain (by simp [nmd_int, nmd_nili]) rfl (by simp)
end Go.Proofs.YtdknnaalfoongaaDoor
