/- Decimals: which is greater; numbers of 64 bits; what is bounded. -/
import Derived.Test.YtdknnaalfoongaaGreatDoorD3
set_option linter.unusedSimpArgs false
set_option linter.unusedVariables false
set_option maxRecDepth 100000
set_option maxHeartbeats 4000000
namespace Go.Proofs.YtdknnaalfoongaaGreatDoor
theorem lenD_pos {n : Nat} (h : 0 < n) : 0 < lenD n := (lt_lenD n 0).2 (by omega)
noncomputable def c129 : Code := Tryz.f129.body.getD .skip
theorem b129 : Tryz.f129.body = some c129 := rfl
theorem d129 : fnOk Tryz.f129 c129 = true := by kernel_rfl
def D129 : Nat → List Tag := fun _ => []
theorem e129 : drawsOk D129 c129 = true := by kernel_rfl
theorem decSign_ok (z : Int) (S : Heap) (hz : lenD z.natAbs ≤ 100000) : Call theE 129 [decA z] S (.int .i64 z.sign) S := by
  have dn := digs_len z.natAbs
  refine Call.ofC Tryz.func129 YtdknnaalfoongaaGreatDoor.b129 YtdknnaalfoongaaGreatDoor.d129 YtdknnaalfoongaaGreatDoor.e129 (by simp [Tryz.f129]) ?_
  dsimp only [YtdknnaalfoongaaGreatDoor.c129, Tryz.f129, Option.getD_some]
  rcases Int.lt_trichotomy z 0 with h | h | h
  · have p1 : ¬ ((lenD z.natAbs : Nat) : Int) = 0 := by have := lenD_pos (show 0 < z.natAbs by omega); omega
    have p2 : decide (z < 0) = true := decide_eq_true h
    simp (maxSteps := 2000000) only [wk0, wk1, wk2, wk3, wk4, wk5, Fr.ev, Fr.put, Fr.get, pkB, pkT, pkF, storeA, if_false, if_true, Nat.reduceEqDiff, reduceIte, Nat.reduceAdd, List.replicate, Nat.reduceLeDiff, Nat.reduceMul, Nat.reduceSub, Nat.reducePow, Int.reduceLT, Int.reduceLE, Int.reduceToNat, Int.reducePow, IntKind.bits, Int.reduceEq, Int.reduceMul, Int.reduceNeg, ne_eq, reduceCtorEq, BEq.rfl, beq_self_eq_true, Int.reduceAdd, Int.reduceSub, Int.reduceMod, Int.reduceDiv, Nat.reduceMod, Nat.reduceDiv, Nat.reduceLT, cond_true, cond_false, gt_iff_lt, ge_iff_le, decA, lstI, dn, p1, p2, YtdknnaalfoongaaGreatDoor.D129, ty1, ty3, ty4, ty113, ty115]
    exact retB_plain (by simp [nmd_int]) (by rw [Int.sign_eq_neg_one_of_neg h]; rfl) (by simp)
  · subst h
    have p1 : ((lenD (0 : Int).natAbs : Nat) : Int) = 0 := by simp [lenD_zero]
    simp (maxSteps := 2000000) only [wk0, wk1, wk2, wk3, wk4, wk5, Fr.ev, Fr.put, Fr.get, pkB, pkT, pkF, storeA, if_false, if_true, Nat.reduceEqDiff, reduceIte, Nat.reduceAdd, List.replicate, Nat.reduceLeDiff, Nat.reduceMul, Nat.reduceSub, Nat.reducePow, Int.reduceLT, Int.reduceLE, Int.reduceToNat, Int.reducePow, IntKind.bits, Int.reduceEq, Int.reduceMul, Int.reduceNeg, ne_eq, reduceCtorEq, BEq.rfl, beq_self_eq_true, Int.reduceAdd, Int.reduceSub, Int.reduceMod, Int.reduceDiv, Nat.reduceMod, Nat.reduceDiv, Nat.reduceLT, cond_true, cond_false, gt_iff_lt, ge_iff_le, decA, lstI, dn, p1, YtdknnaalfoongaaGreatDoor.D129, ty1, ty3, ty4, ty113, ty115]
    exact retB_plain (by simp [nmd_int]) rfl (by simp)
  · have p1 : ¬ ((lenD z.natAbs : Nat) : Int) = 0 := by have := lenD_pos (show 0 < z.natAbs by omega); omega
    have p2 : decide (z < 0) = false := decide_eq_false (by omega)
    simp (maxSteps := 2000000) only [wk0, wk1, wk2, wk3, wk4, wk5, Fr.ev, Fr.put, Fr.get, pkB, pkT, pkF, storeA, if_false, if_true, Nat.reduceEqDiff, reduceIte, Nat.reduceAdd, List.replicate, Nat.reduceLeDiff, Nat.reduceMul, Nat.reduceSub, Nat.reducePow, Int.reduceLT, Int.reduceLE, Int.reduceToNat, Int.reducePow, IntKind.bits, Int.reduceEq, Int.reduceMul, Int.reduceNeg, ne_eq, reduceCtorEq, BEq.rfl, beq_self_eq_true, Int.reduceAdd, Int.reduceSub, Int.reduceMod, Int.reduceDiv, Nat.reduceMod, Nat.reduceDiv, Nat.reduceLT, cond_true, cond_false, gt_iff_lt, ge_iff_le, decA, lstI, dn, p1, p2, YtdknnaalfoongaaGreatDoor.D129, ty1, ty3, ty4, ty113, ty115]
    exact retB_plain (by simp [nmd_int]) (by rw [Int.sign_eq_one_of_pos h]; rfl) (by simp)
theorem lenD_subI {x y : Int} {k : Nat} (hx : lenD x.natAbs ≤ k) (hy : lenD y.natAbs ≤ k) : lenD (x - y).natAbs ≤ k + 1 := lenD_mono (show (x - y).natAbs ≤ x.natAbs + y.natAbs by omega) (lenD_add hx hy)
noncomputable def c100 : Code := Tryz.f100.body.getD .skip
theorem b100 : Tryz.f100.body = some c100 := rfl
theorem d100 : fnOk Tryz.f100 c100 = true := by kernel_rfl
def D100 : Nat → List Tag := fun _ => []
theorem e100 : drawsOk D100 c100 = true := by kernel_rfl
theorem decCmp_ok (x y : Int) (S : Heap) (hx : lenD x.natAbs ≤ 80000) (hy : lenD y.natAbs ≤ 80000) : Call theE 100 [decA x, decA y] S (.int .i64 (x - y).sign) S := by
  have h1 := fun S => decSub_ok x y S hx hy
  have h2 := fun S => decSign_ok (x - y) S (by have := lenD_subI hx hy; omega)
  simp only [decA, lstI] at h1 h2
  refine Call.ofC Tryz.func100 YtdknnaalfoongaaGreatDoor.b100 YtdknnaalfoongaaGreatDoor.d100 YtdknnaalfoongaaGreatDoor.e100 (by simp [Tryz.f100]) ?_
  dsimp only [YtdknnaalfoongaaGreatDoor.c100, Tryz.f100, Option.getD_some]
  simp (maxSteps := 2000000) only [wk0, wk1, wk2, wk3, wk4, wk5, Fr.ev, Fr.put, Fr.get, pkB, pkT, pkF, storeA, if_false, if_true, Nat.reduceEqDiff, reduceIte, Nat.reduceAdd, List.replicate, Nat.reduceLeDiff, Nat.reduceMul, Nat.reduceSub, Nat.reducePow, Int.reduceLT, Int.reduceLE, Int.reduceToNat, Int.reducePow, IntKind.bits, Int.reduceEq, Int.reduceMul, Int.reduceNeg, ne_eq, reduceCtorEq, BEq.rfl, beq_self_eq_true, Int.reduceAdd, Int.reduceSub, Int.reduceMod, Int.reduceDiv, Nat.reduceMod, Nat.reduceDiv, Nat.reduceLT, cond_true, cond_false, gt_iff_lt, ge_iff_le, decA, lstI, YtdknnaalfoongaaGreatDoor.D100, ty3, ty115]
  refine callThen_of (h1 _) ?_
  simp (maxSteps := 2000000) only [wk0, wk1, wk2, wk3, wk4, wk5, Fr.ev, Fr.put, Fr.get, pkB, pkT, pkF, storeA, if_false, if_true, Nat.reduceEqDiff, reduceIte, Nat.reduceAdd, List.replicate, Nat.reduceLeDiff, Nat.reduceMul, Nat.reduceSub, Nat.reducePow, Int.reduceLT, Int.reduceLE, Int.reduceToNat, Int.reducePow, IntKind.bits, Int.reduceEq, Int.reduceMul, Int.reduceNeg, ne_eq, reduceCtorEq, BEq.rfl, beq_self_eq_true, Int.reduceAdd, Int.reduceSub, Int.reduceMod, Int.reduceDiv, Nat.reduceMod, Nat.reduceDiv, Nat.reduceLT, cond_true, cond_false, gt_iff_lt, ge_iff_le, YtdknnaalfoongaaGreatDoor.D100, ty3, ty115]
  refine callThen_of (h2 _) ?_
  simp (maxSteps := 2000000) only [wk0, wk1, wk2, wk3, wk4, wk5, Fr.ev, Fr.put, Fr.get, pkB, pkT, pkF, storeA, if_false, if_true, Nat.reduceEqDiff, reduceIte, Nat.reduceAdd, List.replicate, Nat.reduceLeDiff, Nat.reduceMul, Nat.reduceSub, Nat.reducePow, Int.reduceLT, Int.reduceLE, Int.reduceToNat, Int.reducePow, IntKind.bits, Int.reduceEq, Int.reduceMul, Int.reduceNeg, ne_eq, reduceCtorEq, BEq.rfl, beq_self_eq_true, Int.reduceAdd, Int.reduceSub, Int.reduceMod, Int.reduceDiv, Nat.reduceMod, Nat.reduceDiv, Nat.reduceLT, cond_true, cond_false, gt_iff_lt, ge_iff_le, YtdknnaalfoongaaGreatDoor.D100, ty3, ty115]
  exact retB_plain (by simp [nmd_int]) rfl (by simp)
noncomputable def c96 : Code := Tryz.f96.body.getD .skip
theorem b96 : Tryz.f96.body = some c96 := rfl
theorem d96 : fnOk Tryz.f96 c96 = true := by kernel_rfl
def D96 : Nat → List Tag := fun _ => []
theorem e96 : drawsOk D96 c96 = true := by kernel_rfl
theorem decSmall_ok (z : Int) (S : Heap) (hz : inI z) : Call theE 96 [decA z] S (.int .i64 z) S := by
  unfold inI at hz
  have dn := digs_len z.natAbs
  obtain ⟨N, hN⟩ : ∃ N, z.natAbs = N := ⟨_, rfl⟩
  have hl : lenD N ≤ 20 := (lenD_le _ _).2 (by omega)
  rw [hN] at dn
  refine Call.ofC Tryz.func96 YtdknnaalfoongaaGreatDoor.b96 YtdknnaalfoongaaGreatDoor.d96 YtdknnaalfoongaaGreatDoor.e96 (by simp [Tryz.f96]) ?_
  dsimp only [YtdknnaalfoongaaGreatDoor.c96, Tryz.f96, Option.getD_some]
  have w0 : IntKind.i64.wrap (((lenD N : Nat) : Int) - 1) = ((lenD N : Nat) : Int) - 1 := wrapI (by omega)
  simp (maxSteps := 2000000) only [wk0, wk1, wk2, wk3, wk4, wk5, Fr.ev, Fr.put, Fr.get, pkB, pkT, pkF, storeA, if_false, if_true, Nat.reduceEqDiff, reduceIte, Nat.reduceAdd, List.replicate, Nat.reduceLeDiff, Nat.reduceMul, Nat.reduceSub, Nat.reducePow, Int.reduceLT, Int.reduceLE, Int.reduceToNat, Int.reducePow, IntKind.bits, Int.reduceEq, Int.reduceMul, Int.reduceNeg, ne_eq, reduceCtorEq, BEq.rfl, beq_self_eq_true, Int.reduceAdd, Int.reduceSub, Int.reduceMod, Int.reduceDiv, Nat.reduceMod, Nat.reduceDiv, Nat.reduceLT, cond_true, cond_false, gt_iff_lt, ge_iff_le, decA, lstI, hN, dn, w0, YtdknnaalfoongaaGreatDoor.D96, ty1, ty2, ty3, ty4, ty113, ty115]
  refine loopC_ind (fun m fr H => m ≤ lenD N ∧ fr.get 1 = .ptr S.length 0 0 ∧ fr.get 3 = .int .i64 (-((N / 10 ^ m : Nat) : Int)) ∧ fr.get 4 = .int .i64 ((m : Int) - 1) ∧ H = S ++ [some ⟨[.bool (decide (z < 0)), .lst ((digs N).map fun x => .int .i64 x) (lenD N)], 0⟩]) ?_ (n := lenD N)
    ⟨Nat.le_refl _, rfl, by rw [Nat.div_eq_of_lt (lt_pow_lenD N)]; rfl, rfl, rfl⟩
  rintro m fr H ⟨hm, g1, g3, g4, rfl⟩ ih
  cases m with
  | zero =>
    have p1 : ¬ (0 : Int) ≤ ((0 : Nat) : Int) - 1 := by omega
    have hq : -((N / 10 ^ 0 : Nat) : Int) = -(N : Int) := by simp
    rw [hq] at g3
    by_cases h0 : z < 0
    · have p2 : decide (z < 0) = true := decide_eq_true h0
      simp (maxSteps := 2000000) only [wk0, wk1, wk2, wk3, wk4, wk5, Fr.ev, Fr.put, Fr.get, pkB, pkT, pkF, storeA, if_false, if_true, Nat.reduceEqDiff, reduceIte, Nat.reduceAdd, List.replicate, Nat.reduceLeDiff, Nat.reduceMul, Nat.reduceSub, Nat.reducePow, Int.reduceLT, Int.reduceLE, Int.reduceToNat, Int.reducePow, IntKind.bits, Int.reduceEq, Int.reduceMul, Int.reduceNeg, ne_eq, reduceCtorEq, BEq.rfl, beq_self_eq_true, Int.reduceAdd, Int.reduceSub, Int.reduceMod, Int.reduceDiv, Nat.reduceMod, Nat.reduceDiv, Nat.reduceLT, cond_true, cond_false, gt_iff_lt, ge_iff_le, g1, g3, g4, p1, p2, YtdknnaalfoongaaGreatDoor.D96, ty1, ty2, ty3, ty4, ty113, ty115]
      exact retB_plain (by simp [nmd_int]) (by simp only [packA]; congr 1; omega) (by simp)
    · have p2 : decide (z < 0) = false := decide_eq_false h0
      have w1 : IntKind.i64.wrap (0 - -(N : Int)) = z := by rw [wrapI (by omega)]; omega
      simp (maxSteps := 2000000) only [wk0, wk1, wk2, wk3, wk4, wk5, Fr.ev, Fr.put, Fr.get, pkB, pkT, pkF, storeA, if_false, if_true, Nat.reduceEqDiff, reduceIte, Nat.reduceAdd, List.replicate, Nat.reduceLeDiff, Nat.reduceMul, Nat.reduceSub, Nat.reducePow, Int.reduceLT, Int.reduceLE, Int.reduceToNat, Int.reducePow, IntKind.bits, Int.reduceEq, Int.reduceMul, Int.reduceNeg, ne_eq, reduceCtorEq, BEq.rfl, beq_self_eq_true, Int.reduceAdd, Int.reduceSub, Int.reduceMod, Int.reduceDiv, Nat.reduceMod, Nat.reduceDiv, Nat.reduceLT, cond_true, cond_false, gt_iff_lt, ge_iff_le, g1, g3, g4, p1, p2, w1, YtdknnaalfoongaaGreatDoor.D96, ty1, ty2, ty3, ty4, ty113, ty115]
      exact retB_plain (by simp [nmd_int]) rfl (by simp)
  | succ k =>
    have p0 : ((k + 1 : Nat) : Int) - 1 = (k : Int) := by omega
    rw [p0] at g4
    have p1 : (0 : Int) ≤ (k : Int) := by omega
    have w1 : IntKind.i64.wrap ((k : Int) - 1) = (k : Int) - 1 := wrapI (by omega)
    have ga := digs_getA N (show k < lenD N by omega)
    have p2 : (k : Int) < ((lenD N : Nat) : Int) := by omega
    have hs := div_step N k
    have h1 := Nat.div_le_self N (10 ^ k)
    obtain ⟨q, hq⟩ : ∃ q, N / 10 ^ (k + 1) = q := ⟨_, rfl⟩
    obtain ⟨r, hr⟩ : ∃ r, N / 10 ^ k = r := ⟨_, rfl⟩
    rw [hq] at hs g3
    rw [hr] at hs h1
    have w2 : IntKind.i64.wrap (10 * -(q : Int)) = 10 * -(q : Int) := wrapI (by omega)
    have w3 : IntKind.i64.wrap (10 * -(q : Int) - ((dgt N k : Nat) : Int)) = -(r : Int) := by rw [wrapI (by omega)]; omega
    simp (maxSteps := 2000000) only [wk0, wk1, wk2, wk3, wk4, wk5, Fr.ev, Fr.put, Fr.get, pkB, pkT, pkF, storeA, if_false, if_true, Nat.reduceEqDiff, reduceIte, Nat.reduceAdd, List.replicate, Nat.reduceLeDiff, Nat.reduceMul, Nat.reduceSub, Nat.reducePow, Int.reduceLT, Int.reduceLE, Int.reduceToNat, Int.reducePow, IntKind.bits, Int.reduceEq, Int.reduceMul, Int.reduceNeg, ne_eq, reduceCtorEq, BEq.rfl, beq_self_eq_true, Int.reduceAdd, Int.reduceSub, Int.reduceMod, Int.reduceDiv, Nat.reduceMod, Nat.reduceDiv, Nat.reduceLT, cond_true, cond_false, gt_iff_lt, ge_iff_le, g1, g3, g4, p1, p2, w1, w2, w3, ga, Int.toNat_natCast, Nat.mul_one, YtdknnaalfoongaaGreatDoor.D96, ty1, ty2, ty3, ty4, ty113, ty115]
    exact ih k _ _ (by omega) ⟨by omega, by simp [Fr.get, g1], by rw [hr]; simp [Fr.get], by simp [Fr.get], rfl⟩
noncomputable def c67 : Code := Tryz.f67.body.getD .skip
theorem b67 : Tryz.f67.body = some c67 := rfl
theorem d67 : fnOk Tryz.f67 c67 = true := by kernel_rfl
def D67 : Nat → List Tag
  | 1 => [.quiet, .quiet, .seq, .pure]
  | 3 => [.quiet, .quiet, .seq, .pure]
  | _ => []
theorem e67 : drawsOk D67 c67 = true := by kernel_rfl
theorem decBound_ok (z : Int) (S : Heap) (hz : lenD z.natAbs ≤ 80000) : Call theE 67 [decA z] S (.tup [.int .i64 (bndI z), .bool (ovrB z)]) S := by
  have l1 : lenD (4611686018427387903 : Int).natAbs ≤ 80000 := by have := (lenD_le 20 4611686018427387903).2 (by omega); simp; omega
  have l2 : lenD (-4611686018427387903 : Int).natAbs ≤ 80000 := by have := (lenD_le 20 4611686018427387903).2 (by omega); simp; omega
  have o1 := fun S => decOf_ok 4611686018427387903 S (by unfold inI; omega)
  have o2 := fun S => decOf_ok (-4611686018427387903) S (by unfold inI; omega)
  have c1 := fun S => decCmp_ok z 4611686018427387903 S hz l1
  have c2 := fun S => decCmp_ok z (-4611686018427387903) S hz l2
  simp only [decA, lstI] at o1 o2 c1 c2
  unfold bndI ovrB
  refine Call.ofC Tryz.func67 YtdknnaalfoongaaGreatDoor.b67 YtdknnaalfoongaaGreatDoor.d67 YtdknnaalfoongaaGreatDoor.e67 (by simp [Tryz.f67]) ?_
  dsimp only [YtdknnaalfoongaaGreatDoor.c67, Tryz.f67, Option.getD_some]
  simp (maxSteps := 2000000) only [wk0, wk1, wk2, wk3, wk4, wk5, Fr.ev, Fr.put, Fr.get, pkB, pkT, pkF, storeA, if_false, if_true, Nat.reduceEqDiff, reduceIte, Nat.reduceAdd, List.replicate, Nat.reduceLeDiff, Nat.reduceMul, Nat.reduceSub, Nat.reducePow, Int.reduceLT, Int.reduceLE, Int.reduceToNat, Int.reducePow, IntKind.bits, Int.reduceEq, Int.reduceMul, Int.reduceNeg, ne_eq, reduceCtorEq, BEq.rfl, beq_self_eq_true, Int.reduceAdd, Int.reduceSub, Int.reduceMod, Int.reduceDiv, Nat.reduceMod, Nat.reduceDiv, Nat.reduceLT, cond_true, cond_false, gt_iff_lt, ge_iff_le, decA, lstI, YtdknnaalfoongaaGreatDoor.D67, ty2, ty3, ty4, ty115]
  refine callThen_of (o1 _) ?_
  simp (maxSteps := 2000000) only [wk0, wk1, wk2, wk3, wk4, wk5, Fr.ev, Fr.put, Fr.get, pkB, pkT, pkF, storeA, if_false, if_true, Nat.reduceEqDiff, reduceIte, Nat.reduceAdd, List.replicate, Nat.reduceLeDiff, Nat.reduceMul, Nat.reduceSub, Nat.reducePow, Int.reduceLT, Int.reduceLE, Int.reduceToNat, Int.reducePow, IntKind.bits, Int.reduceEq, Int.reduceMul, Int.reduceNeg, ne_eq, reduceCtorEq, BEq.rfl, beq_self_eq_true, Int.reduceAdd, Int.reduceSub, Int.reduceMod, Int.reduceDiv, Nat.reduceMod, Nat.reduceDiv, Nat.reduceLT, cond_true, cond_false, gt_iff_lt, ge_iff_le, YtdknnaalfoongaaGreatDoor.D67, ty2, ty3, ty4, ty115]
  refine callThen_of (c1 _) ?_
  by_cases h1 : 4611686018427387903 < z
  · have e1 : (z - 4611686018427387903).sign = 1 := Int.sign_eq_one_of_pos (by omega)
    simp (maxSteps := 2000000) only [wk0, wk1, wk2, wk3, wk4, wk5, Fr.ev, Fr.put, Fr.get, pkB, pkT, pkF, storeA, if_false, if_true, Nat.reduceEqDiff, reduceIte, Nat.reduceAdd, List.replicate, Nat.reduceLeDiff, Nat.reduceMul, Nat.reduceSub, Nat.reducePow, Int.reduceLT, Int.reduceLE, Int.reduceToNat, Int.reducePow, IntKind.bits, Int.reduceEq, Int.reduceMul, Int.reduceNeg, ne_eq, reduceCtorEq, BEq.rfl, beq_self_eq_true, Int.reduceAdd, Int.reduceSub, Int.reduceMod, Int.reduceDiv, Nat.reduceMod, Nat.reduceDiv, Nat.reduceLT, cond_true, cond_false, gt_iff_lt, ge_iff_le, e1, YtdknnaalfoongaaGreatDoor.D67, ty2, ty3, ty4, ty115]
    exact retB_plain (by simp [nmd_int, nmd_bool]) (by simp only [packA]; rw [show max (-4611686018427387903) (min z 4611686018427387903) = 4611686018427387903 by omega, decide_eq_true (by omega)]) (by simp)
  · have e1 : (z - 4611686018427387903).sign = 0 ∨ (z - 4611686018427387903).sign = -1 := by
      rcases Int.lt_or_eq_of_le (show z - 4611686018427387903 ≤ 0 by omega) with h | h
      · exact .inr (Int.sign_eq_neg_one_of_neg h)
      · exact .inl (by rw [h]; rfl)
    have e2 : ¬ (0 : Int) < (z - 4611686018427387903).sign := by omega
    generalize (z - 4611686018427387903).sign = s at e2 ⊢
    simp (maxSteps := 2000000) only [wk0, wk1, wk2, wk3, wk4, wk5, Fr.ev, Fr.put, Fr.get, pkB, pkT, pkF, storeA, if_false, if_true, Nat.reduceEqDiff, reduceIte, Nat.reduceAdd, List.replicate, Nat.reduceLeDiff, Nat.reduceMul, Nat.reduceSub, Nat.reducePow, Int.reduceLT, Int.reduceLE, Int.reduceToNat, Int.reducePow, IntKind.bits, Int.reduceEq, Int.reduceMul, Int.reduceNeg, ne_eq, reduceCtorEq, BEq.rfl, beq_self_eq_true, Int.reduceAdd, Int.reduceSub, Int.reduceMod, Int.reduceDiv, Nat.reduceMod, Nat.reduceDiv, Nat.reduceLT, cond_true, cond_false, gt_iff_lt, ge_iff_le, e2, YtdknnaalfoongaaGreatDoor.D67, ty2, ty3, ty4, ty115]
    refine callThen_of (o2 _) ?_
    simp (maxSteps := 2000000) only [wk0, wk1, wk2, wk3, wk4, wk5, Fr.ev, Fr.put, Fr.get, pkB, pkT, pkF, storeA, if_false, if_true, Nat.reduceEqDiff, reduceIte, Nat.reduceAdd, List.replicate, Nat.reduceLeDiff, Nat.reduceMul, Nat.reduceSub, Nat.reducePow, Int.reduceLT, Int.reduceLE, Int.reduceToNat, Int.reducePow, IntKind.bits, Int.reduceEq, Int.reduceMul, Int.reduceNeg, ne_eq, reduceCtorEq, BEq.rfl, beq_self_eq_true, Int.reduceAdd, Int.reduceSub, Int.reduceMod, Int.reduceDiv, Nat.reduceMod, Nat.reduceDiv, Nat.reduceLT, cond_true, cond_false, gt_iff_lt, ge_iff_le, YtdknnaalfoongaaGreatDoor.D67, ty2, ty3, ty4, ty115]
    refine callThen_of (c2 _) ?_
    by_cases h2 : z < -4611686018427387903
    · have e3 : (z - -4611686018427387903).sign = -1 := Int.sign_eq_neg_one_of_neg (by omega)
      simp (maxSteps := 2000000) only [wk0, wk1, wk2, wk3, wk4, wk5, Fr.ev, Fr.put, Fr.get, pkB, pkT, pkF, storeA, if_false, if_true, Nat.reduceEqDiff, reduceIte, Nat.reduceAdd, List.replicate, Nat.reduceLeDiff, Nat.reduceMul, Nat.reduceSub, Nat.reducePow, Int.reduceLT, Int.reduceLE, Int.reduceToNat, Int.reducePow, IntKind.bits, Int.reduceEq, Int.reduceMul, Int.reduceNeg, ne_eq, reduceCtorEq, BEq.rfl, beq_self_eq_true, Int.reduceAdd, Int.reduceSub, Int.reduceMod, Int.reduceDiv, Nat.reduceMod, Nat.reduceDiv, Nat.reduceLT, cond_true, cond_false, gt_iff_lt, ge_iff_le, e3, YtdknnaalfoongaaGreatDoor.D67, ty2, ty3, ty4, ty115]
      exact retB_plain (by simp [nmd_int, nmd_bool]) (by simp only [packA]; rw [show max (-4611686018427387903) (min z 4611686018427387903) = -4611686018427387903 by omega, decide_eq_true (by omega)]) (by simp)
    · have e4 : ¬ (z - -4611686018427387903).sign < 0 := by
        rcases Int.lt_or_eq_of_le (show 0 ≤ z - -4611686018427387903 by omega) with h | h
        · rw [Int.sign_eq_one_of_pos h]; decide
        · rw [← h]; decide
      have hs := fun S => decSmall_ok z S (by unfold inI; omega)
      simp only [decA, lstI] at hs
      generalize (z - -4611686018427387903).sign = s2 at e4 ⊢
      simp (maxSteps := 2000000) only [wk0, wk1, wk2, wk3, wk4, wk5, Fr.ev, Fr.put, Fr.get, pkB, pkT, pkF, storeA, if_false, if_true, Nat.reduceEqDiff, reduceIte, Nat.reduceAdd, List.replicate, Nat.reduceLeDiff, Nat.reduceMul, Nat.reduceSub, Nat.reducePow, Int.reduceLT, Int.reduceLE, Int.reduceToNat, Int.reducePow, IntKind.bits, Int.reduceEq, Int.reduceMul, Int.reduceNeg, ne_eq, reduceCtorEq, BEq.rfl, beq_self_eq_true, Int.reduceAdd, Int.reduceSub, Int.reduceMod, Int.reduceDiv, Nat.reduceMod, Nat.reduceDiv, Nat.reduceLT, cond_true, cond_false, gt_iff_lt, ge_iff_le, e4, YtdknnaalfoongaaGreatDoor.D67, ty2, ty3, ty4, ty115]
      refine callThen_of (hs _) ?_
      simp (maxSteps := 2000000) only [wk0, wk1, wk2, wk3, wk4, wk5, Fr.ev, Fr.put, Fr.get, pkB, pkT, pkF, storeA, if_false, if_true, Nat.reduceEqDiff, reduceIte, Nat.reduceAdd, List.replicate, Nat.reduceLeDiff, Nat.reduceMul, Nat.reduceSub, Nat.reducePow, Int.reduceLT, Int.reduceLE, Int.reduceToNat, Int.reducePow, IntKind.bits, Int.reduceEq, Int.reduceMul, Int.reduceNeg, ne_eq, reduceCtorEq, BEq.rfl, beq_self_eq_true, Int.reduceAdd, Int.reduceSub, Int.reduceMod, Int.reduceDiv, Nat.reduceMod, Nat.reduceDiv, Nat.reduceLT, cond_true, cond_false, gt_iff_lt, ge_iff_le, YtdknnaalfoongaaGreatDoor.D67, ty2, ty3, ty4, ty115]
      exact retB_plain (by simp [nmd_int, nmd_bool]) (by simp only [packA]; rw [show max (-4611686018427387903) (min z 4611686018427387903) = z by omega, decide_eq_false (by omega)]) (by simp)
end Go.Proofs.YtdknnaalfoongaaGreatDoor
