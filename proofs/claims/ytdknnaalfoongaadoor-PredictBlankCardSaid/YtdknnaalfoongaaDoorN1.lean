/- mat: what can't be. -/
import Derived.Test.YtdknnaalfoongaaDoorN0
set_option linter.unusedSimpArgs false
set_option linter.unusedVariables false
set_option maxRecDepth 100000
set_option maxHeartbeats 4000000
namespace Go.Proofs.YtdknnaalfoongaaDoor
def fineM (r c : Int) (L : List Int) : Prop := (1 ≤ r ∧ r ≤ 6) ∧ (1 ≤ c ∧ c ≤ 6) ∧ ∀ k : Nat, r * c ≤ k → k < 36 → L.getD k 0 = 0
theorem fine_mk {r c : Int} {L : List Int} (hL : L.length = 36) (h : fineM r c L) : ∃ (R C : Nat) (f : Nat → Nat → Int), (1 ≤ R ∧ R ≤ 6) ∧ (1 ≤ C ∧ C ≤ 6) ∧ r = R ∧ c = C ∧ matA r c L = mk R C f ∧ f = fun i j => L.getD (i * C + j) 0 := by
  obtain ⟨h1, h2, h3⟩ := h
  obtain ⟨R, rfl⟩ : ∃ R : Nat, r = R := ⟨r.toNat, by omega⟩
  obtain ⟨C, rfl⟩ : ∃ C : Nat, c = C := ⟨c.toNat, by omega⟩
  refine ⟨R, C, fun i j => L.getD (i * C + j) 0, by omega, by omega, rfl, rfl, ?_, rfl⟩
  unfold mk
  congr 1
  apply List.ext_getElem
  · rw [gridP_len, hL]
  · intro k h4 h5
    have hk : k < 36 := by omega
    simp only [gridP, List.getElem_map, List.getElem_range]
    split
    · rw [Nat.mul_comm, Nat.div_add_mod, List.getD_eq_getElem?_getD, List.getElem?_eq_getElem h4]; rfl
    · rename_i hq
      have := h3 k (by rw [← Int.natCast_mul]; omega) hk
      rw [List.getD_eq_getElem?_getD, List.getElem?_eq_getElem h4] at this
      exact this
theorem check_bad (r c : Int) (L : List Int) (S : Heap) (hL : L.length = 36) (h : ¬ fineM r c L) : Call theE 89 [matA r c L] S (errA 1) S := by
  have s1 := fun S => sizedM_ok r S
  have s2 := fun S => sizedM_ok c S
  refine Call.ofC Tryd.func89 YtdknnaalfoongaaDoor.b89 YtdknnaalfoongaaDoor.d89 YtdknnaalfoongaaDoor.e89 (by simp [Tryd.f89]) ?_
  dsimp only [YtdknnaalfoongaaDoor.c89, Tryd.f89, Option.getD_some]
  simp (maxSteps := 2000000) only [wk0, wk1, wk2, wk3, wk4, wk5, Fr.ev, Fr.put, Fr.get, pkB, pkT, pkF, storeA, if_false, if_true, Nat.reduceEqDiff, reduceIte, Nat.reduceAdd, List.replicate, Nat.reduceLeDiff, Nat.reduceMul, Nat.reduceSub, Nat.reducePow, Int.reduceLT, Int.reduceLE, Int.reduceToNat, Int.reducePow, IntKind.bits, Int.reduceEq, Int.reduceMul, Int.reduceNeg, ne_eq, reduceCtorEq, BEq.rfl, beq_self_eq_true, Int.reduceAdd, Int.reduceSub, Int.reduceMod, Int.reduceDiv, Nat.reduceMod, Nat.reduceDiv, Nat.reduceLT, cond_true, cond_false, gt_iff_lt, ge_iff_le, matA, YtdknnaalfoongaaDoor.D89, ty1, ty2, ty3, ty4, ty25, ty52, ty54, ty60, ty79]
  refine callThen_of (s1 _) ?_
  by_cases hr : 1 ≤ r ∧ r ≤ 6
  · rw [decide_eq_true hr]
    simp (maxSteps := 2000000) only [wk0, wk1, wk2, wk3, wk4, wk5, Fr.ev, Fr.put, Fr.get, pkB, pkT, pkF, storeA, if_false, if_true, Nat.reduceEqDiff, reduceIte, Nat.reduceAdd, List.replicate, Nat.reduceLeDiff, Nat.reduceMul, Nat.reduceSub, Nat.reducePow, Int.reduceLT, Int.reduceLE, Int.reduceToNat, Int.reducePow, IntKind.bits, Int.reduceEq, Int.reduceMul, Int.reduceNeg, ne_eq, reduceCtorEq, BEq.rfl, beq_self_eq_true, Int.reduceAdd, Int.reduceSub, Int.reduceMod, Int.reduceDiv, Nat.reduceMod, Nat.reduceDiv, Nat.reduceLT, cond_true, cond_false, gt_iff_lt, ge_iff_le, matA, YtdknnaalfoongaaDoor.D89, ty1, ty2, ty3, ty4, ty25, ty52, ty54, ty60, ty79]
    refine callThen_of (s2 _) ?_
    by_cases hc : 1 ≤ c ∧ c ≤ 6
    · rw [decide_eq_true hc]
      obtain ⟨R, rfl⟩ : ∃ R : Nat, r = R := ⟨r.toNat, by omega⟩
      obtain ⟨C, rfl⟩ : ∃ C : Nat, c = C := ⟨c.toNat, by omega⟩
      have h36 : R * C ≤ 36 := by have := Nat.mul_le_mul (show R ≤ 6 by omega) (show C ≤ 6 by omega); omega
      have w1 : IntKind.i64.wrap ((R : Int) * C) = ((R * C : Nat) : Int) := by rw [wrapI (by rw [← Int.natCast_mul]; omega)]; simp
      have hne : ∃ k : Nat, R * C ≤ k ∧ k < 36 ∧ ¬ L.getD k 0 = 0 := by
        refine Classical.byContradiction fun hn => h ⟨hr, hc, fun k h1 h2 => Classical.byContradiction fun h3 => hn ⟨k, by rw [← Int.natCast_mul] at h1; omega, h2, h3⟩⟩
      obtain ⟨p, hp⟩ : ∃ p, R * C = p := ⟨_, rfl⟩
      rw [hp] at w1 h36 hne
      have k1 : (0 : Int) ≤ (p : Int) := by omega
      have k2 : (p : Int) ≤ 36 := by omega
      have h' : ¬ (p : Int) = 36 := by obtain ⟨k, h1, h2, _⟩ := hne; omega
      have tz : ∀ k : Nat, k < 36 - p → (AV.int .i64 R :: AV.int .i64 C :: L.map fun x => AV.int .i64 x)[2 + p + k]? = some (.int .i64 (L.getD (p + k) 0)) := by
        intro k hk
        rw [Nat.add_assoc]
        refine get38 ?_
        rw [List.getD_eq_getElem?_getD, List.getElem?_eq_getElem (by omega)]; rfl
      simp (maxSteps := 2000000) only [wk0, wk1, wk2, wk3, wk4, wk5, Fr.ev, Fr.put, Fr.get, pkB, pkT, pkF, storeA, if_false, if_true, Nat.reduceEqDiff, reduceIte, Nat.reduceAdd, List.replicate, Nat.reduceLeDiff, Nat.reduceMul, Nat.reduceSub, Nat.reducePow, Int.reduceLT, Int.reduceLE, Int.reduceToNat, Int.reducePow, IntKind.bits, Int.reduceEq, Int.reduceMul, Int.reduceNeg, ne_eq, reduceCtorEq, BEq.rfl, beq_self_eq_true, Int.reduceAdd, Int.reduceSub, Int.reduceMod, Int.reduceDiv, Nat.reduceMod, Nat.reduceDiv, Nat.reduceLT, cond_true, cond_false, gt_iff_lt, ge_iff_le, bd_none, bd_some, bv_int, sa_arr, w1, k1, k2, h', List.length_map, hL, Int.le_refl, Nat.le_refl, Int.toNat_natCast, Nat.mul_one, YtdknnaalfoongaaDoor.D89, ty1, ty2, ty3, ty4, ty25, ty52, ty54, ty60, ty79]
      refine loopC_ind (fun m fr H => ∃ k : Nat, k + m = 36 - p ∧ (∃ q : Nat, p + k ≤ q ∧ q < 36 ∧ ¬ L.getD q 0 = 0) ∧ fr.get 24 = .int .i64 k ∧ fr.get 23 = .int .i64 ((36 - p : Nat) : Int) ∧ fr.get 22 = .sl S.length 0 (2 + p) (36 - p) (36 - p) 1 ∧ H = S ++ [some ⟨.int .i64 R :: .int .i64 C :: L.map fun x => .int .i64 x, 0⟩]) ?_ (n := 36 - p) ⟨0, by omega, hne, rfl, rfl, rfl, rfl⟩
      rintro m fr H ⟨k, hkm, ⟨q, hq1, hq2, hq3⟩, g24, g23, g22, rfl⟩ ih
      have hk : (k : Int) < ((36 - p : Nat) : Int) := by omega
      have q1 : (0 : Int) ≤ k := by omega
      have q2 := tz k (by omega)
      have wk : IntKind.i64.wrap ((k : Int) + 1) = ((k + 1 : Nat) : Int) := wrapI (by omega)
      by_cases hz : L.getD (p + k) 0 = 0
      · rw [hz] at q2
        simp (maxSteps := 2000000) only [wk0, wk1, wk2, wk3, wk4, wk5, Fr.ev, Fr.put, Fr.get, pkB, pkT, pkF, storeA, if_false, if_true, Nat.reduceEqDiff, reduceIte, Nat.reduceAdd, List.replicate, Nat.reduceLeDiff, Nat.reduceMul, Nat.reduceSub, Nat.reducePow, Int.reduceLT, Int.reduceLE, Int.reduceToNat, Int.reducePow, IntKind.bits, Int.reduceEq, Int.reduceMul, Int.reduceNeg, ne_eq, reduceCtorEq, BEq.rfl, beq_self_eq_true, Int.reduceAdd, Int.reduceSub, Int.reduceMod, Int.reduceDiv, Nat.reduceMod, Nat.reduceDiv, Nat.reduceLT, cond_true, cond_false, gt_iff_lt, ge_iff_le, g24, g23, g22, hk, q1, q2, Int.toNat_natCast, Nat.mul_one, wk, YtdknnaalfoongaaDoor.D89, ty1, ty2, ty3, ty4, ty25, ty52, ty54, ty60, ty79]
        refine ih (m - 1) _ _ (by omega) ⟨k + 1, by omega, ⟨q, ?_, hq2, hq3⟩, by simp [Fr.get], by simp [Fr.get, g23], by simp [Fr.get, g22], rfl⟩
        rcases Nat.lt_or_ge (p + k) q with h1 | h1
        · omega
        · obtain rfl : q = p + k := by omega
          exact absurd hz hq3
      · simp (maxSteps := 2000000) only [wk0, wk1, wk2, wk3, wk4, wk5, Fr.ev, Fr.put, Fr.get, pkB, pkT, pkF, storeA, if_false, if_true, Nat.reduceEqDiff, reduceIte, Nat.reduceAdd, List.replicate, Nat.reduceLeDiff, Nat.reduceMul, Nat.reduceSub, Nat.reducePow, Int.reduceLT, Int.reduceLE, Int.reduceToNat, Int.reducePow, IntKind.bits, Int.reduceEq, Int.reduceMul, Int.reduceNeg, ne_eq, reduceCtorEq, BEq.rfl, beq_self_eq_true, Int.reduceAdd, Int.reduceSub, Int.reduceMod, Int.reduceDiv, Nat.reduceMod, Nat.reduceDiv, Nat.reduceLT, cond_true, cond_false, gt_iff_lt, ge_iff_le, g24, g23, g22, hk, q1, q2, Int.toNat_natCast, Nat.mul_one, wk, hz, YtdknnaalfoongaaDoor.D89, ty1, ty2, ty3, ty4, ty25, ty52, ty54, ty60, ty79]
        exact retB_plain (by simp [nmd_ifc, nmd_int]) rfl (by simp)
    · rw [decide_eq_false hc]
      simp (maxSteps := 2000000) only [wk0, wk1, wk2, wk3, wk4, wk5, Fr.ev, Fr.put, Fr.get, pkB, pkT, pkF, storeA, if_false, if_true, Nat.reduceEqDiff, reduceIte, Nat.reduceAdd, List.replicate, Nat.reduceLeDiff, Nat.reduceMul, Nat.reduceSub, Nat.reducePow, Int.reduceLT, Int.reduceLE, Int.reduceToNat, Int.reducePow, IntKind.bits, Int.reduceEq, Int.reduceMul, Int.reduceNeg, ne_eq, reduceCtorEq, BEq.rfl, beq_self_eq_true, Int.reduceAdd, Int.reduceSub, Int.reduceMod, Int.reduceDiv, Nat.reduceMod, Nat.reduceDiv, Nat.reduceLT, cond_true, cond_false, gt_iff_lt, ge_iff_le, matA, YtdknnaalfoongaaDoor.D89, ty1, ty2, ty3, ty4, ty25, ty52, ty54, ty60, ty79]
      exact retB_plain (by simp [nmd_ifc, nmd_int]) rfl (by simp)
  · rw [decide_eq_false hr]
    simp (maxSteps := 2000000) only [wk0, wk1, wk2, wk3, wk4, wk5, Fr.ev, Fr.put, Fr.get, pkB, pkT, pkF, storeA, if_false, if_true, Nat.reduceEqDiff, reduceIte, Nat.reduceAdd, List.replicate, Nat.reduceLeDiff, Nat.reduceMul, Nat.reduceSub, Nat.reducePow, Int.reduceLT, Int.reduceLE, Int.reduceToNat, Int.reducePow, IntKind.bits, Int.reduceEq, Int.reduceMul, Int.reduceNeg, ne_eq, reduceCtorEq, BEq.rfl, beq_self_eq_true, Int.reduceAdd, Int.reduceSub, Int.reduceMod, Int.reduceDiv, Nat.reduceMod, Nat.reduceDiv, Nat.reduceLT, cond_true, cond_false, gt_iff_lt, ge_iff_le, matA, YtdknnaalfoongaaDoor.D89, ty1, ty2, ty3, ty4, ty25, ty52, ty54, ty60, ty79]
    exact retB_plain (by simp [nmd_ifc, nmd_int]) rfl (by simp)
def zeroM : AV := matA 0 0 (List.replicate 36 0)
theorem zeroM_bad : ¬ fineM 0 0 (List.replicate 36 0) := fun h => by have := h.1.1; omega
/-! a matrix that can't be -/
section
variable (r c : Int) (L : List Int) (S : Heap) (hL : L.length = 36) (h : ¬ fineM r c L)
include hL h
theorem turn_bad : Call theE 53 [matA r c L] S (.tup [zeroM, errA 1]) S := by
  have tk := take36 hL
  have ck := fun S => check_bad r c L S hL h
  simp only [matA, errA] at ck
  refine Call.ofC Tryd.func53 YtdknnaalfoongaaDoor.b53 YtdknnaalfoongaaDoor.d53 YtdknnaalfoongaaDoor.e53 (by simp [Tryd.f53]) ?_
  dsimp only [YtdknnaalfoongaaDoor.c53, Tryd.f53, Option.getD_some]
  simp (maxSteps := 2000000) only [wk0, wk1, wk2, wk3, wk4, wk5, Fr.ev, Fr.put, Fr.get, pkB, pkT, pkF, storeA, if_false, if_true, Nat.reduceEqDiff, reduceIte, Nat.reduceAdd, List.replicate, Nat.reduceLeDiff, Nat.reduceMul, Nat.reduceSub, Nat.reducePow, Int.reduceLT, Int.reduceLE, Int.reduceToNat, Int.reducePow, IntKind.bits, Int.reduceEq, Int.reduceMul, Int.reduceNeg, ne_eq, reduceCtorEq, BEq.rfl, beq_self_eq_true, Int.reduceAdd, Int.reduceSub, Int.reduceMod, Int.reduceDiv, Nat.reduceMod, Nat.reduceDiv, Nat.reduceLT, cond_true, cond_false, gt_iff_lt, ge_iff_le, matA, List.length_map, hL, tk, YtdknnaalfoongaaDoor.D53, ty1, ty3, ty4, ty25, ty54, ty157]
  refine callThen_of (ck _) ?_
  simp (maxSteps := 2000000) only [wk0, wk1, wk2, wk3, wk4, wk5, Fr.ev, Fr.put, Fr.get, pkB, pkT, pkF, storeA, if_false, if_true, Nat.reduceEqDiff, reduceIte, Nat.reduceAdd, List.replicate, Nat.reduceLeDiff, Nat.reduceMul, Nat.reduceSub, Nat.reducePow, Int.reduceLT, Int.reduceLE, Int.reduceToNat, Int.reducePow, IntKind.bits, Int.reduceEq, Int.reduceMul, Int.reduceNeg, ne_eq, reduceCtorEq, BEq.rfl, beq_self_eq_true, Int.reduceAdd, Int.reduceSub, Int.reduceMod, Int.reduceDiv, Nat.reduceMod, Nat.reduceDiv, Nat.reduceLT, cond_true, cond_false, gt_iff_lt, ge_iff_le, matA, List.length_map, hL, tk, YtdknnaalfoongaaDoor.D53, ty1, ty3, ty4, ty25, ty54, ty157]
  exact retB_plain (by simp [nmd_agg, nmd_int, nmd_ifc]) rfl (by simp)
theorem even_bad : Call theE 117 [matA r c L] S (.tup [zeroM, .bool false, errA 1]) S := by
  have tk := take36 hL
  have ck := fun S => check_bad r c L S hL h
  simp only [matA, errA] at ck
  refine Call.ofC Tryd.func117 YtdknnaalfoongaaDoor.b117 YtdknnaalfoongaaDoor.d117 YtdknnaalfoongaaDoor.e117 (by simp [Tryd.f117]) ?_
  dsimp only [YtdknnaalfoongaaDoor.c117, Tryd.f117, Option.getD_some]
  simp (maxSteps := 2000000) only [wk0, wk1, wk2, wk3, wk4, wk5, Fr.ev, Fr.put, Fr.get, pkB, pkT, pkF, storeA, if_false, if_true, Nat.reduceEqDiff, reduceIte, Nat.reduceAdd, List.replicate, Nat.reduceLeDiff, Nat.reduceMul, Nat.reduceSub, Nat.reducePow, Int.reduceLT, Int.reduceLE, Int.reduceToNat, Int.reducePow, IntKind.bits, Int.reduceEq, Int.reduceMul, Int.reduceNeg, ne_eq, reduceCtorEq, BEq.rfl, beq_self_eq_true, Int.reduceAdd, Int.reduceSub, Int.reduceMod, Int.reduceDiv, Nat.reduceMod, Nat.reduceDiv, Nat.reduceLT, cond_true, cond_false, gt_iff_lt, ge_iff_le, matA, List.length_map, hL, tk, YtdknnaalfoongaaDoor.D117, ty1, ty3, ty4, ty25, ty54, ty79, ty157]
  refine callThen_of (ck _) ?_
  simp (maxSteps := 2000000) only [wk0, wk1, wk2, wk3, wk4, wk5, Fr.ev, Fr.put, Fr.get, pkB, pkT, pkF, storeA, if_false, if_true, Nat.reduceEqDiff, reduceIte, Nat.reduceAdd, List.replicate, Nat.reduceLeDiff, Nat.reduceMul, Nat.reduceSub, Nat.reducePow, Int.reduceLT, Int.reduceLE, Int.reduceToNat, Int.reducePow, IntKind.bits, Int.reduceEq, Int.reduceMul, Int.reduceNeg, ne_eq, reduceCtorEq, BEq.rfl, beq_self_eq_true, Int.reduceAdd, Int.reduceSub, Int.reduceMod, Int.reduceDiv, Nat.reduceMod, Nat.reduceDiv, Nat.reduceLT, cond_true, cond_false, gt_iff_lt, ge_iff_le, matA, List.length_map, hL, tk, YtdknnaalfoongaaDoor.D117, ty1, ty3, ty4, ty25, ty54, ty79, ty157]
  exact retB_plain (by simp [nmd_agg, nmd_int, nmd_ifc, nmd_bool]) rfl (by simp)
theorem rowM_bad (i : Int) : Call theE 90 [matA r c L, .int .i64 i] S (.tup [.nils, errA 1]) S := by
  have tk := take36 hL
  have ck := fun S => check_bad r c L S hL h
  simp only [matA, errA] at ck
  refine Call.ofC Tryd.func90 YtdknnaalfoongaaDoor.b90 YtdknnaalfoongaaDoor.d90 YtdknnaalfoongaaDoor.e90 (by simp [Tryd.f90]) ?_
  dsimp only [YtdknnaalfoongaaDoor.c90, Tryd.f90, Option.getD_some]
  simp (maxSteps := 2000000) only [wk0, wk1, wk2, wk3, wk4, wk5, Fr.ev, Fr.put, Fr.get, pkB, pkT, pkF, storeA, if_false, if_true, Nat.reduceEqDiff, reduceIte, Nat.reduceAdd, List.replicate, Nat.reduceLeDiff, Nat.reduceMul, Nat.reduceSub, Nat.reducePow, Int.reduceLT, Int.reduceLE, Int.reduceToNat, Int.reducePow, IntKind.bits, Int.reduceEq, Int.reduceMul, Int.reduceNeg, ne_eq, reduceCtorEq, BEq.rfl, beq_self_eq_true, Int.reduceAdd, Int.reduceSub, Int.reduceMod, Int.reduceDiv, Nat.reduceMod, Nat.reduceDiv, Nat.reduceLT, cond_true, cond_false, gt_iff_lt, ge_iff_le, matA, List.length_map, hL, tk, YtdknnaalfoongaaDoor.D90, ty1, ty2, ty3, ty4, ty25, ty52, ty54, ty60, ty79]
  refine callThen_of (ck _) ?_
  simp (maxSteps := 2000000) only [wk0, wk1, wk2, wk3, wk4, wk5, Fr.ev, Fr.put, Fr.get, pkB, pkT, pkF, storeA, if_false, if_true, Nat.reduceEqDiff, reduceIte, Nat.reduceAdd, List.replicate, Nat.reduceLeDiff, Nat.reduceMul, Nat.reduceSub, Nat.reducePow, Int.reduceLT, Int.reduceLE, Int.reduceToNat, Int.reducePow, IntKind.bits, Int.reduceEq, Int.reduceMul, Int.reduceNeg, ne_eq, reduceCtorEq, BEq.rfl, beq_self_eq_true, Int.reduceAdd, Int.reduceSub, Int.reduceMod, Int.reduceDiv, Nat.reduceMod, Nat.reduceDiv, Nat.reduceLT, cond_true, cond_false, gt_iff_lt, ge_iff_le, matA, List.length_map, hL, tk, YtdknnaalfoongaaDoor.D90, ty1, ty2, ty3, ty4, ty25, ty52, ty54, ty60, ty79]
  exact retB_plain (by simp [nmd_nils, nmd_int, nmd_ifc]) rfl (by simp)
theorem apply_bad (v : AV) : Call theE 87 [matA r c L, v] S (.tup [.nils, .bool false, errA 1]) S := by
  have tk := take36 hL
  have ck := fun S => check_bad r c L S hL h
  simp only [matA, errA] at ck
  refine Call.ofC Tryd.func87 YtdknnaalfoongaaDoor.b87 YtdknnaalfoongaaDoor.d87 YtdknnaalfoongaaDoor.e87 (by simp [Tryd.f87]) ?_
  dsimp only [YtdknnaalfoongaaDoor.c87, Tryd.f87, Option.getD_some]
  simp (maxSteps := 2000000) only [wk0, wk1, wk2, wk3, wk4, wk5, Fr.ev, Fr.put, Fr.get, pkB, pkT, pkF, storeA, if_false, if_true, Nat.reduceEqDiff, reduceIte, Nat.reduceAdd, List.replicate, Nat.reduceLeDiff, Nat.reduceMul, Nat.reduceSub, Nat.reducePow, Int.reduceLT, Int.reduceLE, Int.reduceToNat, Int.reducePow, IntKind.bits, Int.reduceEq, Int.reduceMul, Int.reduceNeg, ne_eq, reduceCtorEq, BEq.rfl, beq_self_eq_true, Int.reduceAdd, Int.reduceSub, Int.reduceMod, Int.reduceDiv, Nat.reduceMod, Nat.reduceDiv, Nat.reduceLT, cond_true, cond_false, gt_iff_lt, ge_iff_le, matA, List.length_map, hL, tk, YtdknnaalfoongaaDoor.D87, ty1, ty2, ty3, ty4, ty25, ty52, ty54, ty60, ty79]
  refine callThen_of (ck _) ?_
  simp (maxSteps := 2000000) only [wk0, wk1, wk2, wk3, wk4, wk5, Fr.ev, Fr.put, Fr.get, pkB, pkT, pkF, storeA, if_false, if_true, Nat.reduceEqDiff, reduceIte, Nat.reduceAdd, List.replicate, Nat.reduceLeDiff, Nat.reduceMul, Nat.reduceSub, Nat.reducePow, Int.reduceLT, Int.reduceLE, Int.reduceToNat, Int.reducePow, IntKind.bits, Int.reduceEq, Int.reduceMul, Int.reduceNeg, ne_eq, reduceCtorEq, BEq.rfl, beq_self_eq_true, Int.reduceAdd, Int.reduceSub, Int.reduceMod, Int.reduceDiv, Nat.reduceMod, Nat.reduceDiv, Nat.reduceLT, cond_true, cond_false, gt_iff_lt, ge_iff_le, matA, List.length_map, hL, tk, YtdknnaalfoongaaDoor.D87, ty1, ty2, ty3, ty4, ty25, ty52, ty54, ty60, ty79]
  exact retB_plain (by simp [nmd_nils, nmd_int, nmd_ifc, nmd_bool]) rfl (by simp)
theorem alike_bad1 (r' c' : Int) (L' : List Int) (hL' : L'.length = 36) : Call theE 125 [matA r c L, matA r' c' L'] S (errA 1) S := by
  have tk := take36 hL
  have ck := fun S => check_bad r c L S hL h
  simp only [matA, errA] at ck
  refine Call.ofC Tryd.func125 YtdknnaalfoongaaDoor.b125 YtdknnaalfoongaaDoor.d125 YtdknnaalfoongaaDoor.e125 (by simp [Tryd.f125]) ?_
  dsimp only [YtdknnaalfoongaaDoor.c125, Tryd.f125, Option.getD_some]
  simp (maxSteps := 2000000) only [wk0, wk1, wk2, wk3, wk4, wk5, Fr.ev, Fr.put, Fr.get, pkB, pkT, pkF, storeA, if_false, if_true, Nat.reduceEqDiff, reduceIte, Nat.reduceAdd, List.replicate, Nat.reduceLeDiff, Nat.reduceMul, Nat.reduceSub, Nat.reducePow, Int.reduceLT, Int.reduceLE, Int.reduceToNat, Int.reducePow, IntKind.bits, Int.reduceEq, Int.reduceMul, Int.reduceNeg, ne_eq, reduceCtorEq, BEq.rfl, beq_self_eq_true, Int.reduceAdd, Int.reduceSub, Int.reduceMod, Int.reduceDiv, Nat.reduceMod, Nat.reduceDiv, Nat.reduceLT, cond_true, cond_false, gt_iff_lt, ge_iff_le, matA, List.length_map, hL, tk, YtdknnaalfoongaaDoor.D125, ty1, ty3, ty4, ty25, ty54, ty79]
  refine callThen_of (ck _) ?_
  simp (maxSteps := 2000000) only [wk0, wk1, wk2, wk3, wk4, wk5, Fr.ev, Fr.put, Fr.get, pkB, pkT, pkF, storeA, if_false, if_true, Nat.reduceEqDiff, reduceIte, Nat.reduceAdd, List.replicate, Nat.reduceLeDiff, Nat.reduceMul, Nat.reduceSub, Nat.reducePow, Int.reduceLT, Int.reduceLE, Int.reduceToNat, Int.reducePow, IntKind.bits, Int.reduceEq, Int.reduceMul, Int.reduceNeg, ne_eq, reduceCtorEq, BEq.rfl, beq_self_eq_true, Int.reduceAdd, Int.reduceSub, Int.reduceMod, Int.reduceDiv, Nat.reduceMod, Nat.reduceDiv, Nat.reduceLT, cond_true, cond_false, gt_iff_lt, ge_iff_le, matA, List.length_map, hL, tk, YtdknnaalfoongaaDoor.D125, ty1, ty3, ty4, ty25, ty54, ty79]
  exact retB_plain (by simp [nmd_ifc, nmd_int]) rfl (by simp)
theorem mul_bad1 (r' c' : Int) (L' : List Int) (hL' : L'.length = 36) : Call theE 115 [matA r c L, matA r' c' L'] S (.tup [zeroM, .bool false, errA 1]) S := by
  have tk := take36 hL
  have ck := fun S => check_bad r c L S hL h
  simp only [matA, errA] at ck
  refine Call.ofC Tryd.func115 YtdknnaalfoongaaDoor.b115 YtdknnaalfoongaaDoor.d115 YtdknnaalfoongaaDoor.e115 (by simp [Tryd.f115]) ?_
  dsimp only [YtdknnaalfoongaaDoor.c115, Tryd.f115, Option.getD_some]
  simp (maxSteps := 2000000) only [wk0, wk1, wk2, wk3, wk4, wk5, Fr.ev, Fr.put, Fr.get, pkB, pkT, pkF, storeA, if_false, if_true, Nat.reduceEqDiff, reduceIte, Nat.reduceAdd, List.replicate, Nat.reduceLeDiff, Nat.reduceMul, Nat.reduceSub, Nat.reducePow, Int.reduceLT, Int.reduceLE, Int.reduceToNat, Int.reducePow, IntKind.bits, Int.reduceEq, Int.reduceMul, Int.reduceNeg, ne_eq, reduceCtorEq, BEq.rfl, beq_self_eq_true, Int.reduceAdd, Int.reduceSub, Int.reduceMod, Int.reduceDiv, Nat.reduceMod, Nat.reduceDiv, Nat.reduceLT, cond_true, cond_false, gt_iff_lt, ge_iff_le, matA, List.length_map, hL, tk, YtdknnaalfoongaaDoor.D115, ty1, ty3, ty4, ty25, ty54, ty79, ty157]
  refine callThen_of (ck _) ?_
  simp (maxSteps := 2000000) only [wk0, wk1, wk2, wk3, wk4, wk5, Fr.ev, Fr.put, Fr.get, pkB, pkT, pkF, storeA, if_false, if_true, Nat.reduceEqDiff, reduceIte, Nat.reduceAdd, List.replicate, Nat.reduceLeDiff, Nat.reduceMul, Nat.reduceSub, Nat.reducePow, Int.reduceLT, Int.reduceLE, Int.reduceToNat, Int.reducePow, IntKind.bits, Int.reduceEq, Int.reduceMul, Int.reduceNeg, ne_eq, reduceCtorEq, BEq.rfl, beq_self_eq_true, Int.reduceAdd, Int.reduceSub, Int.reduceMod, Int.reduceDiv, Nat.reduceMod, Nat.reduceDiv, Nat.reduceLT, cond_true, cond_false, gt_iff_lt, ge_iff_le, matA, List.length_map, hL, tk, YtdknnaalfoongaaDoor.D115, ty1, ty3, ty4, ty25, ty54, ty79, ty157]
  exact retB_plain (by simp [nmd_agg, nmd_int, nmd_ifc, nmd_bool]) rfl (by simp)
theorem alike_bad2 (R C : Nat) (f : Nat → Nat → Int) (hR : 1 ≤ R ∧ R ≤ 6) (hC : 1 ≤ C ∧ C ≤ 6) : Call theE 125 [mk R C f, matA r c L] S (errA 1) S := by
  have tk := take36 hL
  have tk2 := take36 (gridP_len C f (R * C))
  have ck := fun S => check_bad r c L S hL h
  have ck2 := fun S => check_ok R C f S hR hC
  simp only [mk, matA, errA] at ck ck2
  refine Call.ofC Tryd.func125 YtdknnaalfoongaaDoor.b125 YtdknnaalfoongaaDoor.d125 YtdknnaalfoongaaDoor.e125 (by simp [Tryd.f125]) ?_
  dsimp only [YtdknnaalfoongaaDoor.c125, Tryd.f125, Option.getD_some]
  simp (maxSteps := 2000000) only [wk0, wk1, wk2, wk3, wk4, wk5, Fr.ev, Fr.put, Fr.get, pkB, pkT, pkF, storeA, if_false, if_true, Nat.reduceEqDiff, reduceIte, Nat.reduceAdd, List.replicate, Nat.reduceLeDiff, Nat.reduceMul, Nat.reduceSub, Nat.reducePow, Int.reduceLT, Int.reduceLE, Int.reduceToNat, Int.reducePow, IntKind.bits, Int.reduceEq, Int.reduceMul, Int.reduceNeg, ne_eq, reduceCtorEq, BEq.rfl, beq_self_eq_true, Int.reduceAdd, Int.reduceSub, Int.reduceMod, Int.reduceDiv, Nat.reduceMod, Nat.reduceDiv, Nat.reduceLT, cond_true, cond_false, gt_iff_lt, ge_iff_le, mk, matA, List.length_map, hL, gridP_len, tk, tk2, YtdknnaalfoongaaDoor.D125, ty1, ty3, ty4, ty25, ty54, ty79]
  refine callThen_of (ck2 _) ?_
  simp (maxSteps := 2000000) only [wk0, wk1, wk2, wk3, wk4, wk5, Fr.ev, Fr.put, Fr.get, pkB, pkT, pkF, storeA, if_false, if_true, Nat.reduceEqDiff, reduceIte, Nat.reduceAdd, List.replicate, Nat.reduceLeDiff, Nat.reduceMul, Nat.reduceSub, Nat.reducePow, Int.reduceLT, Int.reduceLE, Int.reduceToNat, Int.reducePow, IntKind.bits, Int.reduceEq, Int.reduceMul, Int.reduceNeg, ne_eq, reduceCtorEq, BEq.rfl, beq_self_eq_true, Int.reduceAdd, Int.reduceSub, Int.reduceMod, Int.reduceDiv, Nat.reduceMod, Nat.reduceDiv, Nat.reduceLT, cond_true, cond_false, gt_iff_lt, ge_iff_le, mk, matA, List.length_map, hL, gridP_len, tk, tk2, YtdknnaalfoongaaDoor.D125, ty1, ty3, ty4, ty25, ty54, ty79]
  refine callThen_of (ck _) ?_
  simp (maxSteps := 2000000) only [wk0, wk1, wk2, wk3, wk4, wk5, Fr.ev, Fr.put, Fr.get, pkB, pkT, pkF, storeA, if_false, if_true, Nat.reduceEqDiff, reduceIte, Nat.reduceAdd, List.replicate, Nat.reduceLeDiff, Nat.reduceMul, Nat.reduceSub, Nat.reducePow, Int.reduceLT, Int.reduceLE, Int.reduceToNat, Int.reducePow, IntKind.bits, Int.reduceEq, Int.reduceMul, Int.reduceNeg, ne_eq, reduceCtorEq, BEq.rfl, beq_self_eq_true, Int.reduceAdd, Int.reduceSub, Int.reduceMod, Int.reduceDiv, Nat.reduceMod, Nat.reduceDiv, Nat.reduceLT, cond_true, cond_false, gt_iff_lt, ge_iff_le, mk, matA, List.length_map, hL, gridP_len, tk, tk2, YtdknnaalfoongaaDoor.D125, ty1, ty3, ty4, ty25, ty54, ty79]
  exact retB_plain (by simp [nmd_ifc, nmd_int]) rfl (by simp)
theorem mul_bad2 (R C : Nat) (f : Nat → Nat → Int) (hR : 1 ≤ R ∧ R ≤ 6) (hC : 1 ≤ C ∧ C ≤ 6) : Call theE 115 [mk R C f, matA r c L] S (.tup [zeroM, .bool false, errA 1]) S := by
  have tk := take36 hL
  have tk2 := take36 (gridP_len C f (R * C))
  have ck := fun S => check_bad r c L S hL h
  have ck2 := fun S => check_ok R C f S hR hC
  simp only [mk, matA, errA] at ck ck2
  refine Call.ofC Tryd.func115 YtdknnaalfoongaaDoor.b115 YtdknnaalfoongaaDoor.d115 YtdknnaalfoongaaDoor.e115 (by simp [Tryd.f115]) ?_
  dsimp only [YtdknnaalfoongaaDoor.c115, Tryd.f115, Option.getD_some]
  simp (maxSteps := 2000000) only [wk0, wk1, wk2, wk3, wk4, wk5, Fr.ev, Fr.put, Fr.get, pkB, pkT, pkF, storeA, if_false, if_true, Nat.reduceEqDiff, reduceIte, Nat.reduceAdd, List.replicate, Nat.reduceLeDiff, Nat.reduceMul, Nat.reduceSub, Nat.reducePow, Int.reduceLT, Int.reduceLE, Int.reduceToNat, Int.reducePow, IntKind.bits, Int.reduceEq, Int.reduceMul, Int.reduceNeg, ne_eq, reduceCtorEq, BEq.rfl, beq_self_eq_true, Int.reduceAdd, Int.reduceSub, Int.reduceMod, Int.reduceDiv, Nat.reduceMod, Nat.reduceDiv, Nat.reduceLT, cond_true, cond_false, gt_iff_lt, ge_iff_le, mk, matA, List.length_map, hL, gridP_len, tk, tk2, YtdknnaalfoongaaDoor.D115, ty1, ty3, ty4, ty25, ty54, ty79, ty157]
  refine callThen_of (ck2 _) ?_
  simp (maxSteps := 2000000) only [wk0, wk1, wk2, wk3, wk4, wk5, Fr.ev, Fr.put, Fr.get, pkB, pkT, pkF, storeA, if_false, if_true, Nat.reduceEqDiff, reduceIte, Nat.reduceAdd, List.replicate, Nat.reduceLeDiff, Nat.reduceMul, Nat.reduceSub, Nat.reducePow, Int.reduceLT, Int.reduceLE, Int.reduceToNat, Int.reducePow, IntKind.bits, Int.reduceEq, Int.reduceMul, Int.reduceNeg, ne_eq, reduceCtorEq, BEq.rfl, beq_self_eq_true, Int.reduceAdd, Int.reduceSub, Int.reduceMod, Int.reduceDiv, Nat.reduceMod, Nat.reduceDiv, Nat.reduceLT, cond_true, cond_false, gt_iff_lt, ge_iff_le, mk, matA, List.length_map, hL, gridP_len, tk, tk2, YtdknnaalfoongaaDoor.D115, ty1, ty3, ty4, ty25, ty54, ty79, ty157]
  refine callThen_of (ck _) ?_
  simp (maxSteps := 2000000) only [wk0, wk1, wk2, wk3, wk4, wk5, Fr.ev, Fr.put, Fr.get, pkB, pkT, pkF, storeA, if_false, if_true, Nat.reduceEqDiff, reduceIte, Nat.reduceAdd, List.replicate, Nat.reduceLeDiff, Nat.reduceMul, Nat.reduceSub, Nat.reducePow, Int.reduceLT, Int.reduceLE, Int.reduceToNat, Int.reducePow, IntKind.bits, Int.reduceEq, Int.reduceMul, Int.reduceNeg, ne_eq, reduceCtorEq, BEq.rfl, beq_self_eq_true, Int.reduceAdd, Int.reduceSub, Int.reduceMod, Int.reduceDiv, Nat.reduceMod, Nat.reduceDiv, Nat.reduceLT, cond_true, cond_false, gt_iff_lt, ge_iff_le, mk, matA, List.length_map, hL, gridP_len, tk, tk2, YtdknnaalfoongaaDoor.D115, ty1, ty3, ty4, ty25, ty54, ty79, ty157]
  exact retB_plain (by simp [nmd_agg, nmd_int, nmd_ifc, nmd_bool]) rfl (by simp)
end
/-! what does not fit together -/
theorem alike_bad3 (r c r' c' : Nat) (f g : Nat → Nat → Int) (S : Heap) (hr : 1 ≤ r ∧ r ≤ 6) (hc : 1 ≤ c ∧ c ≤ 6) (hr' : 1 ≤ r' ∧ r' ≤ 6) (hc' : 1 ≤ c' ∧ c' ≤ 6) (h : ¬ (r = r' ∧ c = c')) : Call theE 125 [mk r c f, mk r' c' g] S (errA 1) S := by
  have tk1 := take36 (gridP_len c f (r * c))
  have tk2 := take36 (gridP_len c' g (r' * c'))
  have k1 := fun S => check_ok r c f S hr hc
  have k2 := fun S => check_ok r' c' g S hr' hc'
  simp only [mk, matA] at k1 k2
  refine Call.ofC Tryd.func125 YtdknnaalfoongaaDoor.b125 YtdknnaalfoongaaDoor.d125 YtdknnaalfoongaaDoor.e125 (by simp [Tryd.f125]) ?_
  dsimp only [YtdknnaalfoongaaDoor.c125, Tryd.f125, Option.getD_some]
  by_cases h1 : r = r'
  · have h2 : ((c : Int) = c') = False := eq_false (by omega)
    have h1' : ((r : Int) = r') = True := eq_true (by omega)
    simp (maxSteps := 2000000) only [wk0, wk1, wk2, wk3, wk4, wk5, Fr.ev, Fr.put, Fr.get, pkB, pkT, pkF, storeA, if_false, if_true, Nat.reduceEqDiff, reduceIte, Nat.reduceAdd, List.replicate, Nat.reduceLeDiff, Nat.reduceMul, Nat.reduceSub, Nat.reducePow, Int.reduceLT, Int.reduceLE, Int.reduceToNat, Int.reducePow, IntKind.bits, Int.reduceEq, Int.reduceMul, Int.reduceNeg, ne_eq, reduceCtorEq, BEq.rfl, beq_self_eq_true, Int.reduceAdd, Int.reduceSub, Int.reduceMod, Int.reduceDiv, Nat.reduceMod, Nat.reduceDiv, Nat.reduceLT, cond_true, cond_false, gt_iff_lt, ge_iff_le, mk, matA, List.length_map, gridP_len, tk1, tk2, h1', h2, YtdknnaalfoongaaDoor.D125, ty1, ty3, ty4, ty25, ty54, ty79]
    refine callThen_of (k1 _) ?_
    simp (maxSteps := 2000000) only [wk0, wk1, wk2, wk3, wk4, wk5, Fr.ev, Fr.put, Fr.get, pkB, pkT, pkF, storeA, if_false, if_true, Nat.reduceEqDiff, reduceIte, Nat.reduceAdd, List.replicate, Nat.reduceLeDiff, Nat.reduceMul, Nat.reduceSub, Nat.reducePow, Int.reduceLT, Int.reduceLE, Int.reduceToNat, Int.reducePow, IntKind.bits, Int.reduceEq, Int.reduceMul, Int.reduceNeg, ne_eq, reduceCtorEq, BEq.rfl, beq_self_eq_true, Int.reduceAdd, Int.reduceSub, Int.reduceMod, Int.reduceDiv, Nat.reduceMod, Nat.reduceDiv, Nat.reduceLT, cond_true, cond_false, gt_iff_lt, ge_iff_le, mk, matA, List.length_map, gridP_len, tk1, tk2, h1', h2, YtdknnaalfoongaaDoor.D125, ty1, ty3, ty4, ty25, ty54, ty79]
    refine callThen_of (k2 _) ?_
    simp (maxSteps := 2000000) only [wk0, wk1, wk2, wk3, wk4, wk5, Fr.ev, Fr.put, Fr.get, pkB, pkT, pkF, storeA, if_false, if_true, Nat.reduceEqDiff, reduceIte, Nat.reduceAdd, List.replicate, Nat.reduceLeDiff, Nat.reduceMul, Nat.reduceSub, Nat.reducePow, Int.reduceLT, Int.reduceLE, Int.reduceToNat, Int.reducePow, IntKind.bits, Int.reduceEq, Int.reduceMul, Int.reduceNeg, ne_eq, reduceCtorEq, BEq.rfl, beq_self_eq_true, Int.reduceAdd, Int.reduceSub, Int.reduceMod, Int.reduceDiv, Nat.reduceMod, Nat.reduceDiv, Nat.reduceLT, cond_true, cond_false, gt_iff_lt, ge_iff_le, mk, matA, List.length_map, gridP_len, tk1, tk2, h1', h2, YtdknnaalfoongaaDoor.D125, ty1, ty3, ty4, ty25, ty54, ty79]
    exact retB_plain (by simp [nmd_ifc, nmd_int]) rfl (by simp)
  · have h1' : ((r : Int) = r') = False := eq_false (by omega)
    simp (maxSteps := 2000000) only [wk0, wk1, wk2, wk3, wk4, wk5, Fr.ev, Fr.put, Fr.get, pkB, pkT, pkF, storeA, if_false, if_true, Nat.reduceEqDiff, reduceIte, Nat.reduceAdd, List.replicate, Nat.reduceLeDiff, Nat.reduceMul, Nat.reduceSub, Nat.reducePow, Int.reduceLT, Int.reduceLE, Int.reduceToNat, Int.reducePow, IntKind.bits, Int.reduceEq, Int.reduceMul, Int.reduceNeg, ne_eq, reduceCtorEq, BEq.rfl, beq_self_eq_true, Int.reduceAdd, Int.reduceSub, Int.reduceMod, Int.reduceDiv, Nat.reduceMod, Nat.reduceDiv, Nat.reduceLT, cond_true, cond_false, gt_iff_lt, ge_iff_le, mk, matA, List.length_map, gridP_len, tk1, tk2, h1', YtdknnaalfoongaaDoor.D125, ty1, ty3, ty4, ty25, ty54, ty79]
    refine callThen_of (k1 _) ?_
    simp (maxSteps := 2000000) only [wk0, wk1, wk2, wk3, wk4, wk5, Fr.ev, Fr.put, Fr.get, pkB, pkT, pkF, storeA, if_false, if_true, Nat.reduceEqDiff, reduceIte, Nat.reduceAdd, List.replicate, Nat.reduceLeDiff, Nat.reduceMul, Nat.reduceSub, Nat.reducePow, Int.reduceLT, Int.reduceLE, Int.reduceToNat, Int.reducePow, IntKind.bits, Int.reduceEq, Int.reduceMul, Int.reduceNeg, ne_eq, reduceCtorEq, BEq.rfl, beq_self_eq_true, Int.reduceAdd, Int.reduceSub, Int.reduceMod, Int.reduceDiv, Nat.reduceMod, Nat.reduceDiv, Nat.reduceLT, cond_true, cond_false, gt_iff_lt, ge_iff_le, mk, matA, List.length_map, gridP_len, tk1, tk2, h1', YtdknnaalfoongaaDoor.D125, ty1, ty3, ty4, ty25, ty54, ty79]
    refine callThen_of (k2 _) ?_
    simp (maxSteps := 2000000) only [wk0, wk1, wk2, wk3, wk4, wk5, Fr.ev, Fr.put, Fr.get, pkB, pkT, pkF, storeA, if_false, if_true, Nat.reduceEqDiff, reduceIte, Nat.reduceAdd, List.replicate, Nat.reduceLeDiff, Nat.reduceMul, Nat.reduceSub, Nat.reducePow, Int.reduceLT, Int.reduceLE, Int.reduceToNat, Int.reducePow, IntKind.bits, Int.reduceEq, Int.reduceMul, Int.reduceNeg, ne_eq, reduceCtorEq, BEq.rfl, beq_self_eq_true, Int.reduceAdd, Int.reduceSub, Int.reduceMod, Int.reduceDiv, Nat.reduceMod, Nat.reduceDiv, Nat.reduceLT, cond_true, cond_false, gt_iff_lt, ge_iff_le, mk, matA, List.length_map, gridP_len, tk1, tk2, h1', YtdknnaalfoongaaDoor.D125, ty1, ty3, ty4, ty25, ty54, ty79]
    exact retB_plain (by simp [nmd_ifc, nmd_int]) rfl (by simp)
theorem mul_bad3 (r c r' c' : Nat) (f g : Nat → Nat → Int) (S : Heap) (hr : 1 ≤ r ∧ r ≤ 6) (hc : 1 ≤ c ∧ c ≤ 6) (hr' : 1 ≤ r' ∧ r' ≤ 6) (hc' : 1 ≤ c' ∧ c' ≤ 6) (h : ¬ c = r') : Call theE 115 [mk r c f, mk r' c' g] S (.tup [zeroM, .bool false, errA 1]) S := by
  have tk1 := take36 (gridP_len c f (r * c))
  have tk2 := take36 (gridP_len c' g (r' * c'))
  have k1 := fun S => check_ok r c f S hr hc
  have k2 := fun S => check_ok r' c' g S hr' hc'
  have h' : ((c : Int) = r') = False := eq_false (by omega)
  simp only [mk, matA] at k1 k2
  refine Call.ofC Tryd.func115 YtdknnaalfoongaaDoor.b115 YtdknnaalfoongaaDoor.d115 YtdknnaalfoongaaDoor.e115 (by simp [Tryd.f115]) ?_
  dsimp only [YtdknnaalfoongaaDoor.c115, Tryd.f115, Option.getD_some]
  simp (maxSteps := 2000000) only [wk0, wk1, wk2, wk3, wk4, wk5, Fr.ev, Fr.put, Fr.get, pkB, pkT, pkF, storeA, if_false, if_true, Nat.reduceEqDiff, reduceIte, Nat.reduceAdd, List.replicate, Nat.reduceLeDiff, Nat.reduceMul, Nat.reduceSub, Nat.reducePow, Int.reduceLT, Int.reduceLE, Int.reduceToNat, Int.reducePow, IntKind.bits, Int.reduceEq, Int.reduceMul, Int.reduceNeg, ne_eq, reduceCtorEq, BEq.rfl, beq_self_eq_true, Int.reduceAdd, Int.reduceSub, Int.reduceMod, Int.reduceDiv, Nat.reduceMod, Nat.reduceDiv, Nat.reduceLT, cond_true, cond_false, gt_iff_lt, ge_iff_le, mk, matA, List.length_map, gridP_len, tk1, tk2, h', YtdknnaalfoongaaDoor.D115, ty1, ty3, ty4, ty25, ty54, ty79, ty157]
  refine callThen_of (k1 _) ?_
  simp (maxSteps := 2000000) only [wk0, wk1, wk2, wk3, wk4, wk5, Fr.ev, Fr.put, Fr.get, pkB, pkT, pkF, storeA, if_false, if_true, Nat.reduceEqDiff, reduceIte, Nat.reduceAdd, List.replicate, Nat.reduceLeDiff, Nat.reduceMul, Nat.reduceSub, Nat.reducePow, Int.reduceLT, Int.reduceLE, Int.reduceToNat, Int.reducePow, IntKind.bits, Int.reduceEq, Int.reduceMul, Int.reduceNeg, ne_eq, reduceCtorEq, BEq.rfl, beq_self_eq_true, Int.reduceAdd, Int.reduceSub, Int.reduceMod, Int.reduceDiv, Nat.reduceMod, Nat.reduceDiv, Nat.reduceLT, cond_true, cond_false, gt_iff_lt, ge_iff_le, mk, matA, List.length_map, gridP_len, tk1, tk2, h', YtdknnaalfoongaaDoor.D115, ty1, ty3, ty4, ty25, ty54, ty79, ty157]
  refine callThen_of (k2 _) ?_
  simp (maxSteps := 2000000) only [wk0, wk1, wk2, wk3, wk4, wk5, Fr.ev, Fr.put, Fr.get, pkB, pkT, pkF, storeA, if_false, if_true, Nat.reduceEqDiff, reduceIte, Nat.reduceAdd, List.replicate, Nat.reduceLeDiff, Nat.reduceMul, Nat.reduceSub, Nat.reducePow, Int.reduceLT, Int.reduceLE, Int.reduceToNat, Int.reducePow, IntKind.bits, Int.reduceEq, Int.reduceMul, Int.reduceNeg, ne_eq, reduceCtorEq, BEq.rfl, beq_self_eq_true, Int.reduceAdd, Int.reduceSub, Int.reduceMod, Int.reduceDiv, Nat.reduceMod, Nat.reduceDiv, Nat.reduceLT, cond_true, cond_false, gt_iff_lt, ge_iff_le, mk, matA, List.length_map, gridP_len, tk1, tk2, h', YtdknnaalfoongaaDoor.D115, ty1, ty3, ty4, ty25, ty54, ty79, ty157]
  exact retB_plain (by simp [nmd_agg, nmd_int, nmd_ifc, nmd_bool]) rfl (by simp)
theorem even_bad3 (r c : Nat) (f : Nat → Nat → Int) (S : Heap) (hr : 1 ≤ r ∧ r ≤ 6) (hc : 1 ≤ c ∧ c ≤ 6) (h : ¬ r = c) : Call theE 117 [mk r c f] S (.tup [zeroM, .bool false, errA 1]) S := by
  have tk1 := take36 (gridP_len c f (r * c))
  have k1 := fun S => check_ok r c f S hr hc
  have h' : ((r : Int) = c) = False := eq_false (by omega)
  simp only [mk, matA] at k1
  refine Call.ofC Tryd.func117 YtdknnaalfoongaaDoor.b117 YtdknnaalfoongaaDoor.d117 YtdknnaalfoongaaDoor.e117 (by simp [Tryd.f117]) ?_
  dsimp only [YtdknnaalfoongaaDoor.c117, Tryd.f117, Option.getD_some]
  simp (maxSteps := 2000000) only [wk0, wk1, wk2, wk3, wk4, wk5, Fr.ev, Fr.put, Fr.get, pkB, pkT, pkF, storeA, if_false, if_true, Nat.reduceEqDiff, reduceIte, Nat.reduceAdd, List.replicate, Nat.reduceLeDiff, Nat.reduceMul, Nat.reduceSub, Nat.reducePow, Int.reduceLT, Int.reduceLE, Int.reduceToNat, Int.reducePow, IntKind.bits, Int.reduceEq, Int.reduceMul, Int.reduceNeg, ne_eq, reduceCtorEq, BEq.rfl, beq_self_eq_true, Int.reduceAdd, Int.reduceSub, Int.reduceMod, Int.reduceDiv, Nat.reduceMod, Nat.reduceDiv, Nat.reduceLT, cond_true, cond_false, gt_iff_lt, ge_iff_le, mk, matA, List.length_map, gridP_len, tk1, h', YtdknnaalfoongaaDoor.D117, ty1, ty3, ty4, ty25, ty54, ty79, ty157]
  refine callThen_of (k1 _) ?_
  simp (maxSteps := 2000000) only [wk0, wk1, wk2, wk3, wk4, wk5, Fr.ev, Fr.put, Fr.get, pkB, pkT, pkF, storeA, if_false, if_true, Nat.reduceEqDiff, reduceIte, Nat.reduceAdd, List.replicate, Nat.reduceLeDiff, Nat.reduceMul, Nat.reduceSub, Nat.reducePow, Int.reduceLT, Int.reduceLE, Int.reduceToNat, Int.reducePow, IntKind.bits, Int.reduceEq, Int.reduceMul, Int.reduceNeg, ne_eq, reduceCtorEq, BEq.rfl, beq_self_eq_true, Int.reduceAdd, Int.reduceSub, Int.reduceMod, Int.reduceDiv, Nat.reduceMod, Nat.reduceDiv, Nat.reduceLT, cond_true, cond_false, gt_iff_lt, ge_iff_le, mk, matA, List.length_map, gridP_len, tk1, h', YtdknnaalfoongaaDoor.D117, ty1, ty3, ty4, ty25, ty54, ty79, ty157]
  exact retB_plain (by simp [nmd_agg, nmd_int, nmd_ifc, nmd_bool]) rfl (by simp)
theorem apply_bad3 (r c : Nat) (f : Nat → Nat → Int) (v : List Int) (S : Heap) (hr : 1 ≤ r ∧ r ≤ 6) (hc : 1 ≤ c ∧ c ≤ 6) (h : ¬ v.length = c) : Call theE 87 [mk r c f, lstI v] S (.tup [.nils, .bool false, errA 1]) S := by
  have tk1 := take36 (gridP_len c f (r * c))
  have k1 := fun S => check_ok r c f S hr hc
  have h' : ((v.length : Int) = c) = False := eq_false (by omega)
  simp only [mk, matA] at k1
  refine Call.ofC Tryd.func87 YtdknnaalfoongaaDoor.b87 YtdknnaalfoongaaDoor.d87 YtdknnaalfoongaaDoor.e87 (by simp [Tryd.f87]) ?_
  dsimp only [YtdknnaalfoongaaDoor.c87, Tryd.f87, Option.getD_some]
  simp (maxSteps := 2000000) only [wk0, wk1, wk2, wk3, wk4, wk5, Fr.ev, Fr.put, Fr.get, pkB, pkT, pkF, storeA, if_false, if_true, Nat.reduceEqDiff, reduceIte, Nat.reduceAdd, List.replicate, Nat.reduceLeDiff, Nat.reduceMul, Nat.reduceSub, Nat.reducePow, Int.reduceLT, Int.reduceLE, Int.reduceToNat, Int.reducePow, IntKind.bits, Int.reduceEq, Int.reduceMul, Int.reduceNeg, ne_eq, reduceCtorEq, BEq.rfl, beq_self_eq_true, Int.reduceAdd, Int.reduceSub, Int.reduceMod, Int.reduceDiv, Nat.reduceMod, Nat.reduceDiv, Nat.reduceLT, cond_true, cond_false, gt_iff_lt, ge_iff_le, mk, matA, lstI, List.length_map, gridP_len, tk1, h', YtdknnaalfoongaaDoor.D87, ty1, ty2, ty3, ty4, ty25, ty52, ty54, ty60, ty79]
  refine callThen_of (k1 _) ?_
  simp (maxSteps := 2000000) only [wk0, wk1, wk2, wk3, wk4, wk5, Fr.ev, Fr.put, Fr.get, pkB, pkT, pkF, storeA, if_false, if_true, Nat.reduceEqDiff, reduceIte, Nat.reduceAdd, List.replicate, Nat.reduceLeDiff, Nat.reduceMul, Nat.reduceSub, Nat.reducePow, Int.reduceLT, Int.reduceLE, Int.reduceToNat, Int.reducePow, IntKind.bits, Int.reduceEq, Int.reduceMul, Int.reduceNeg, ne_eq, reduceCtorEq, BEq.rfl, beq_self_eq_true, Int.reduceAdd, Int.reduceSub, Int.reduceMod, Int.reduceDiv, Nat.reduceMod, Nat.reduceDiv, Nat.reduceLT, cond_true, cond_false, gt_iff_lt, ge_iff_le, mk, matA, lstI, List.length_map, gridP_len, tk1, h', YtdknnaalfoongaaDoor.D87, ty1, ty2, ty3, ty4, ty25, ty52, ty54, ty60, ty79]
  exact retB_plain (by simp [nmd_nils, nmd_int, nmd_ifc, nmd_bool]) rfl (by simp)
theorem rowM_bad3 (r c : Nat) (i : Int) (f : Nat → Nat → Int) (S : Heap) (hr : 1 ≤ r ∧ r ≤ 6) (hc : 1 ≤ c ∧ c ≤ 6) (h : ¬ (0 ≤ i ∧ i < r)) : Call theE 90 [mk r c f, .int .i64 i] S (.tup [.nils, errA 1]) S := by
  have tk1 := take36 (gridP_len c f (r * c))
  have k1 := fun S => check_ok r c f S hr hc
  simp only [mk, matA] at k1
  refine Call.ofC Tryd.func90 YtdknnaalfoongaaDoor.b90 YtdknnaalfoongaaDoor.d90 YtdknnaalfoongaaDoor.e90 (by simp [Tryd.f90]) ?_
  dsimp only [YtdknnaalfoongaaDoor.c90, Tryd.f90, Option.getD_some]
  by_cases h1 : i < 0
  · simp (maxSteps := 2000000) only [wk0, wk1, wk2, wk3, wk4, wk5, Fr.ev, Fr.put, Fr.get, pkB, pkT, pkF, storeA, if_false, if_true, Nat.reduceEqDiff, reduceIte, Nat.reduceAdd, List.replicate, Nat.reduceLeDiff, Nat.reduceMul, Nat.reduceSub, Nat.reducePow, Int.reduceLT, Int.reduceLE, Int.reduceToNat, Int.reducePow, IntKind.bits, Int.reduceEq, Int.reduceMul, Int.reduceNeg, ne_eq, reduceCtorEq, BEq.rfl, beq_self_eq_true, Int.reduceAdd, Int.reduceSub, Int.reduceMod, Int.reduceDiv, Nat.reduceMod, Nat.reduceDiv, Nat.reduceLT, cond_true, cond_false, gt_iff_lt, ge_iff_le, mk, matA, List.length_map, gridP_len, tk1, h1, YtdknnaalfoongaaDoor.D90, ty1, ty2, ty3, ty4, ty25, ty52, ty54, ty60, ty79]
    refine callThen_of (k1 _) ?_
    simp (maxSteps := 2000000) only [wk0, wk1, wk2, wk3, wk4, wk5, Fr.ev, Fr.put, Fr.get, pkB, pkT, pkF, storeA, if_false, if_true, Nat.reduceEqDiff, reduceIte, Nat.reduceAdd, List.replicate, Nat.reduceLeDiff, Nat.reduceMul, Nat.reduceSub, Nat.reducePow, Int.reduceLT, Int.reduceLE, Int.reduceToNat, Int.reducePow, IntKind.bits, Int.reduceEq, Int.reduceMul, Int.reduceNeg, ne_eq, reduceCtorEq, BEq.rfl, beq_self_eq_true, Int.reduceAdd, Int.reduceSub, Int.reduceMod, Int.reduceDiv, Nat.reduceMod, Nat.reduceDiv, Nat.reduceLT, cond_true, cond_false, gt_iff_lt, ge_iff_le, mk, matA, List.length_map, gridP_len, tk1, h1, YtdknnaalfoongaaDoor.D90, ty1, ty2, ty3, ty4, ty25, ty52, ty54, ty60, ty79]
    exact retB_plain (by simp [nmd_nils, nmd_int, nmd_ifc]) rfl (by simp)
  · have h2 : (r : Int) ≤ i := by omega
    simp (maxSteps := 2000000) only [wk0, wk1, wk2, wk3, wk4, wk5, Fr.ev, Fr.put, Fr.get, pkB, pkT, pkF, storeA, if_false, if_true, Nat.reduceEqDiff, reduceIte, Nat.reduceAdd, List.replicate, Nat.reduceLeDiff, Nat.reduceMul, Nat.reduceSub, Nat.reducePow, Int.reduceLT, Int.reduceLE, Int.reduceToNat, Int.reducePow, IntKind.bits, Int.reduceEq, Int.reduceMul, Int.reduceNeg, ne_eq, reduceCtorEq, BEq.rfl, beq_self_eq_true, Int.reduceAdd, Int.reduceSub, Int.reduceMod, Int.reduceDiv, Nat.reduceMod, Nat.reduceDiv, Nat.reduceLT, cond_true, cond_false, gt_iff_lt, ge_iff_le, mk, matA, List.length_map, gridP_len, tk1, h1, h2, YtdknnaalfoongaaDoor.D90, ty1, ty2, ty3, ty4, ty25, ty52, ty54, ty60, ty79]
    refine callThen_of (k1 _) ?_
    simp (maxSteps := 2000000) only [wk0, wk1, wk2, wk3, wk4, wk5, Fr.ev, Fr.put, Fr.get, pkB, pkT, pkF, storeA, if_false, if_true, Nat.reduceEqDiff, reduceIte, Nat.reduceAdd, List.replicate, Nat.reduceLeDiff, Nat.reduceMul, Nat.reduceSub, Nat.reducePow, Int.reduceLT, Int.reduceLE, Int.reduceToNat, Int.reducePow, IntKind.bits, Int.reduceEq, Int.reduceMul, Int.reduceNeg, ne_eq, reduceCtorEq, BEq.rfl, beq_self_eq_true, Int.reduceAdd, Int.reduceSub, Int.reduceMod, Int.reduceDiv, Nat.reduceMod, Nat.reduceDiv, Nat.reduceLT, cond_true, cond_false, gt_iff_lt, ge_iff_le, mk, matA, List.length_map, gridP_len, tk1, h1, h2, YtdknnaalfoongaaDoor.D90, ty1, ty2, ty3, ty4, ty25, ty52, ty54, ty60, ty79]
    exact retB_plain (by simp [nmd_nils, nmd_int, nmd_ifc]) rfl (by simp)
/-! sums of what does not fit -/
theorem matAdd_bad (x y : AV) (rx cx ry cy : Int) (lx ly : List Int) (S : Heap) (hx : x = matA rx cx lx) (hy : y = matA ry cy ly) (lx36 : lx.length = 36) (ly36 : ly.length = 36) (h : ∀ S, Call theE 125 [x, y] S (errA 1) S) :
    Call theE 116 [x, y] S (.tup [zeroM, .bool false, errA 1]) S := by
  have tk1 := take36 lx36
  have tk2 := take36 ly36
  subst hx hy
  simp only [matA, errA] at h
  refine Call.ofC Tryd.func116 YtdknnaalfoongaaDoor.b116 YtdknnaalfoongaaDoor.d116 YtdknnaalfoongaaDoor.e116 (by simp [Tryd.f116]) ?_
  dsimp only [YtdknnaalfoongaaDoor.c116, Tryd.f116, Option.getD_some]
  simp (maxSteps := 2000000) only [wk0, wk1, wk2, wk3, wk4, wk5, Fr.ev, Fr.put, Fr.get, pkB, pkT, pkF, storeA, if_false, if_true, Nat.reduceEqDiff, reduceIte, Nat.reduceAdd, List.replicate, Nat.reduceLeDiff, Nat.reduceMul, Nat.reduceSub, Nat.reducePow, Int.reduceLT, Int.reduceLE, Int.reduceToNat, Int.reducePow, IntKind.bits, Int.reduceEq, Int.reduceMul, Int.reduceNeg, ne_eq, reduceCtorEq, BEq.rfl, beq_self_eq_true, Int.reduceAdd, Int.reduceSub, Int.reduceMod, Int.reduceDiv, Nat.reduceMod, Nat.reduceDiv, Nat.reduceLT, cond_true, cond_false, gt_iff_lt, ge_iff_le, matA, List.length_map, lx36, ly36, tk1, tk2, YtdknnaalfoongaaDoor.D116, ty1, ty3, ty4, ty25, ty54, ty157]
  refine callThen_of (h _) ?_
  simp (maxSteps := 2000000) only [wk0, wk1, wk2, wk3, wk4, wk5, Fr.ev, Fr.put, Fr.get, pkB, pkT, pkF, storeA, if_false, if_true, Nat.reduceEqDiff, reduceIte, Nat.reduceAdd, List.replicate, Nat.reduceLeDiff, Nat.reduceMul, Nat.reduceSub, Nat.reducePow, Int.reduceLT, Int.reduceLE, Int.reduceToNat, Int.reducePow, IntKind.bits, Int.reduceEq, Int.reduceMul, Int.reduceNeg, ne_eq, reduceCtorEq, BEq.rfl, beq_self_eq_true, Int.reduceAdd, Int.reduceSub, Int.reduceMod, Int.reduceDiv, Nat.reduceMod, Nat.reduceDiv, Nat.reduceLT, cond_true, cond_false, gt_iff_lt, ge_iff_le, matA, List.length_map, lx36, ly36, tk1, tk2, YtdknnaalfoongaaDoor.D116, ty1, ty3, ty4, ty25, ty54, ty157]
  exact retB_plain (by simp [nmd_agg, nmd_int, nmd_ifc, nmd_bool]) rfl (by simp)
end Go.Proofs.YtdknnaalfoongaaDoor
