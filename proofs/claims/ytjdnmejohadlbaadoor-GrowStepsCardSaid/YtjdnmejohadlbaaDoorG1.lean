/- grow: logarithms. -/
import Derived.Test.YtjdnmejohadlbaaDoorG0
set_option linter.unusedSimpArgs false
set_option linter.unusedVariables false
set_option maxRecDepth 100000
set_option maxHeartbeats 4000000
namespace Go.Proofs.YtjdnmejohadlbaaDoor
theorem lt_lenU {k n : Nat} (hn : n ≠ 0) : k < lenU n ↔ 2 ^ k ≤ n := by
  unfold lenU
  rw [if_neg hn, Nat.lt_succ_iff, Nat.le_log2 hn]
def logM (X : Nat) : Nat := X / 2 ^ (lenU X - 51) * 2 ^ (51 - lenU X)
theorem lenG_in {X : Nat} (h0 : X ≠ 0) (h1 : X < 4611686018427387904) : 1 ≤ lenU X ∧ lenU X ≤ 62 := by
  have a := (lt_lenU (k := 0) h0).2 (by omega)
  have b : ¬ 62 < lenU X := fun h => by have := (lt_lenU h0).1 h; omega
  omega
theorem logM_in {X : Nat} (h0 : X ≠ 0) : 1125899906842624 ≤ logM X ∧ logM X < 2251799813685248 := by
  have hB := (lt_lenU (k := 0) h0).2 (by omega)
  obtain ⟨B, hBe⟩ : ∃ B, lenU X = B + 1 := ⟨lenU X - 1, by omega⟩
  have lo := (lt_lenU (k := B) h0).1 (by omega)
  have hi : X < 2 ^ (B + 1) := by
    rcases Nat.lt_or_ge X (2 ^ (B + 1)) with h | h
    · exact h
    · have := (lt_lenU (k := B + 1) h0).2 h; omega
  unfold logM
  rw [hBe]
  rcases Nat.lt_or_ge B 50 with h | h
  · rw [show B + 1 - 51 = 0 by omega, Nat.pow_zero, Nat.div_one]
    have e1 : 2 ^ B * 2 ^ (51 - (B + 1)) = 1125899906842624 := by rw [← Nat.pow_add, show B + (51 - (B + 1)) = 50 by omega]
    have e2 : 2 ^ (B + 1) * 2 ^ (51 - (B + 1)) = 2251799813685248 := by rw [← Nat.pow_add, show B + 1 + (51 - (B + 1)) = 51 by omega]
    have hp := Nat.two_pow_pos (51 - (B + 1))
    refine ⟨?_, ?_⟩
    · rw [← e1]; exact Nat.mul_le_mul_right _ lo
    · rw [← e2]; exact Nat.mul_lt_mul_of_pos_right hi hp
  · rw [show 51 - (B + 1) = 0 by omega, Nat.pow_zero, Nat.mul_one]
    have hp := Nat.two_pow_pos (B + 1 - 51)
    have e1 : 1125899906842624 * 2 ^ (B + 1 - 51) = 2 ^ B := by rw [show (1125899906842624 : Nat) = 2 ^ 50 by decide, ← Nat.pow_add, show 50 + (B + 1 - 51) = B by omega]
    have e2 : 2251799813685248 * 2 ^ (B + 1 - 51) = 2 ^ (B + 1) := by rw [show (2251799813685248 : Nat) = 2 ^ 51 by decide, ← Nat.pow_add, show 51 + (B + 1 - 51) = B + 1 by omega]
    refine ⟨?_, ?_⟩
    · rw [Nat.le_div_iff_mul_le hp, e1]; exact lo
    · rw [Nat.div_lt_iff_lt_mul hp, e2]; exact hi
theorem log_dn {X i : Nat} (h0 : X ≠ 0) : 2251799813685248 ≤ X / 2 ^ i ↔ i < lenU X - 51 := by
  rw [Nat.le_div_iff_mul_le (Nat.two_pow_pos i), show (2251799813685248 : Nat) = 2 ^ 51 by decide, ← Nat.pow_add, ← lt_lenU h0]
  omega
theorem log_up {X j : Nat} (h0 : X ≠ 0) (hj : j ≤ 51 - lenU X) : X / 2 ^ (lenU X - 51) * 2 ^ j < 1125899906842624 ↔ j < 51 - lenU X := by
  have hm := logM_in h0
  have hB := (lt_lenU (k := 0) h0).2 (by omega)
  unfold logM at hm
  rcases Nat.lt_or_ge (lenU X) 51 with h | h
  · rw [show lenU X - 51 = 0 by omega, Nat.pow_zero, Nat.div_one]
    have hp := Nat.two_pow_pos j
    have e : 1125899906842624 = 2 ^ (50 - j) * 2 ^ j := by rw [← Nat.pow_add, show 50 - j + j = 50 by omega]
    rw [e, Nat.mul_lt_mul_right hp]
    have := lt_lenU (k := 50 - j) h0
    omega
  · have e : 51 - lenU X = 0 := by omega
    obtain rfl : j = 0 := by omega
    rw [e] at hm ⊢
    omega
def logS0 (m : Int) : Int := bndI (rnd ((m - 1125899906842624) * 2 ^ 50) (m + 1125899906842624))
def rsS (s q : Int) : Nat → Int
  | 0 => s
  | n + 1 => tmG (rsS s q n) q
def rsU (s q : Int) : Nat → Int
  | 0 => 0
  | n + 1 => rsU s q n + (rsS s q n).tdiv ((2 * n + 1 : Nat) : Int)
def riseV (m : Int) : Int := 2 * rsU (logS0 m) (tmG (logS0 m) (logS0 m)) 20
theorem logS0_in {m : Int} (h : 1125899906842624 ≤ m ∧ m < 2251799813685248) : 0 ≤ logS0 m ∧ logS0 m ≤ 1125899906842624 := by
  have e : (2 : Int) ^ 50 = 1125899906842624 := by decide
  have h1 : 0 ≤ (m - 1125899906842624) * 2 ^ 50 := Int.mul_nonneg (by omega) (by decide)
  have h2 := rndG_pos (p := m + 1125899906842624) (by omega) h1
  have h3 := rndG_le (z := (m - 1125899906842624) * 2 ^ 50) (p := m + 1125899906842624) (C := 1125899906842624) (by omega) (by rw [e]; omega)
  unfold logS0 bndI
  omega
theorem rsS_in {s q : Int} (hs : 0 ≤ s ∧ s ≤ 1125899906842624) (hq : 0 ≤ q ∧ q ≤ 1125899906842624) (n : Nat) : 0 ≤ rsS s q n ∧ rsS s q n ≤ 1125899906842624 := by
  induction n with
  | zero => exact hs
  | succ n ih =>
    have h := tmG_in ih hq
    have e : rsS s q (n + 1) = tmG (rsS s q n) q := rfl
    omega
theorem rsU_in {s q : Int} (hs : 0 ≤ s ∧ s ≤ 1125899906842624) (hq : 0 ≤ q ∧ q ≤ 1125899906842624) (n : Nat) : 0 ≤ rsU s q n ∧ rsU s q n ≤ (n : Int) * 1125899906842624 := by
  induction n with
  | zero => unfold rsU; omega
  | succ n ih =>
    have h := tdiv_in (d := ((2 * n + 1 : Nat) : Int)) (rsS_in hs hq n) (by omega)
    have e : rsU s q (n + 1) = rsU s q n + (rsS s q n).tdiv ((2 * n + 1 : Nat) : Int) := rfl
    omega
/-- The logarithm of a number above 0, with so many bits behind the point. -/
def logV (x b : Int) : Int := bndI (rnd (riseV (logM x.toNat) + ((lenU x.toNat : Nat) - 1 - b) * 780414346020670) (2 ^ 30))
theorem quo_pos {a b : Int} (ha : 0 ≤ a) (hb : 0 < b) (n : Nat) : (if (a < 0) ↔ (b < 0) then rnd (a.natAbs * 2 ^ n) b.natAbs else -(rnd (a.natAbs * 2 ^ n) b.natAbs)) = rnd (a * 2 ^ n) b := by
  rw [if_pos (by omega), Int.natAbs_of_nonneg ha, Int.natAbs_of_nonneg (by omega)]
noncomputable def c56 : Code := Tryd.f56.body.getD .skip
theorem b56 : Tryd.f56.body = some c56 := rfl
theorem d56 : fnOk Tryd.f56 c56 = true := by kernel_rfl
def D56 : Nat → List Tag := fun _ => []
theorem e56 : drawsOk D56 c56 = true := by kernel_rfl
noncomputable def c116 : Code := Tryd.f116.body.getD .skip
theorem b116 : Tryd.f116.body = some c116 := rfl
theorem d116 : fnOk Tryd.f116 c116 = true := by kernel_rfl
def D116 : Nat → List Tag := fun _ => []
theorem e116 : drawsOk D116 c116 = true := by kernel_rfl
noncomputable def c51 : Code := Tryd.f51.body.getD .skip
theorem b51 : Tryd.f51.body = some c51 := rfl
theorem d51 : fnOk Tryd.f51 c51 = true := by kernel_rfl
def D51 : Nat → List Tag := fun _ => []
theorem e51 : drawsOk D51 c51 = true := by kernel_rfl
noncomputable def c58 : Code := Tryd.f58.body.getD .skip
theorem b58 : Tryd.f58.body = some c58 := rfl
theorem d58 : fnOk Tryd.f58 c58 = true := by kernel_rfl
def D58 : Nat → List Tag
  | 14 => [.quiet, .pure, .pure, .pure, .pure, .pure, .quiet, .seq, .seq]
  | 17 => [.quiet, .quiet, .seq, .seq, .pure]
  | _ => []
theorem e58 : drawsOk D58 c58 = true := by kernel_rfl
noncomputable def c57 : Code := Tryd.f57.body.getD .skip
theorem b57 : Tryd.f57.body = some c57 := rfl
theorem d57 : fnOk Tryd.f57 c57 = true := by kernel_rfl
def D57 : Nat → List Tag := fun _ => []
theorem e57 : drawsOk D57 c57 = true := by kernel_rfl
noncomputable def c8 : Code := Tryd.f8.body.getD .skip
theorem b8 : Tryd.f8.body = some c8 := rfl
theorem d8 : fnOk Tryd.f8 c8 = true := by kernel_rfl
def D8 : Nat → List Tag := fun _ => []
theorem e8 : drawsOk D8 c8 = true := by kernel_rfl
theorem rise_ok (m : Int) (S : Heap) (hm : 1125899906842624 ≤ m ∧ m < 2251799813685248) : Call theE 116 [.int .i64 m] S (.int .i64 (riseV m)) S := by
  have w1 : IntKind.i64.wrap (m - 1125899906842624) = m - 1125899906842624 := wrapI (by omega)
  have w2 : IntKind.i64.wrap (m + 1125899906842624) = m + 1125899906842624 := wrapI (by omega)
  have d : ∀ S, ∃ o, Call theE 95 [.int .i64 (m - 1125899906842624), .int .i64 (m + 1125899906842624), .int .i64 50] S (.tup [.int .i64 (logS0 m), .bool o, .nili]) S := fun S => by
    obtain ⟨v, hv, hc⟩ := div_ok (m - 1125899906842624) (m + 1125899906842624) 50 S (by unfold inI; omega) (by unfold inI; omega) (by omega) (by omega)
    rw [quo_pos (by omega) (by omega)] at hv
    subst hv
    exact ⟨_, hc⟩
  have hs := logS0_in hm
  have hq := tmG_in hs hs
  have t0 := fun S => timesG_ok (logS0 m) (logS0 m) S (by unfold inI; omega) (by unfold inI; omega)
  unfold riseV
  generalize logS0 m = s at *
  generalize tmG s s = q at *
  obtain ⟨o, dS⟩ := d S
  refine Call.ofC Tryd.func116 YtjdnmejohadlbaaDoor.b116 YtjdnmejohadlbaaDoor.d116 YtjdnmejohadlbaaDoor.e116 (by simp [Tryd.f116]) ?_
  dsimp only [YtjdnmejohadlbaaDoor.c116, Tryd.f116, Option.getD_some]
  iterate 3
    simp (maxSteps := 2000000) only [wk0, wk1, wk2, wk3, wk4, keepA, keepT, Fr.keep, frzT, flatT, arrayAtA, ownT, extT, Fr.ev, Fr.put, Fr.get, initFr, buildSliceA, zeros, pkB, pkT, pkF, ownDst, Env.kd, ofConst, isConst, binA, intI, cmpI, shiftI, convertA, buildA, fillA, fillS, splice, AV.cells?, storeA, readAt, fieldAddrA, fieldA, indexA, extractA, unA, builtinA, appendA, lenA, sliceCells, isSliceK, makeInterfaceA, nilCheckA, eqA, AV.one, AV.plain, if_false, if_true, Nat.reduceEqDiff, reduceIte, Nat.reduceAdd, List.replicate, Nat.reduceLeDiff, Nat.reduceMul, Nat.reduceSub, Nat.reducePow, Int.reduceLT, Int.reduceLE, Int.reduceToNat, Int.reducePow, IntKind.bits, Int.reduceEq, Int.reduceMul, Int.reduceNeg, ne_eq, reduceCtorEq, escT, BEq.rfl, beq_self_eq_true, Int.reduceAdd, Int.reduceSub, Int.reduceMod, Int.reduceDiv, Nat.reduceMod, Nat.reduceDiv, Nat.reduceLT, cond_true, cond_false, gt_iff_lt, ge_iff_le, w1, w2, YtjdnmejohadlbaaDoor.D116, ty2, ty3, ty4, ty30]
    try first
      | refine callThen_of (dS) ?_
      | refine callThen_of (t0 _) ?_
  refine loopC_ind (fun m fr H => ∃ n : Nat, n + m = 20 ∧ fr.get 3 = .int .i64 (rsS s q n) ∧ fr.get 6 = .int .i64 q ∧ fr.get 7 = .int .i64 (rsU s q n) ∧ fr.get 8 = .int .i64 (n : Int) ∧ H = S) ?_ (n := 20) ⟨0, by omega, rfl, rfl, rfl, rfl, rfl⟩
  rintro m' fr H ⟨n, hnm, g3, g6, g7, g8, rfl⟩ ih
  have h1 := rsS_in hs (show 0 ≤ q ∧ q ≤ 1125899906842624 by omega) n
  have h3 := rsU_in hs (show 0 ≤ q ∧ q ≤ 1125899906842624 by omega) n
  by_cases hn : (n : Int) < 20
  · have h4 := rsU_in hs (show 0 ≤ q ∧ q ≤ 1125899906842624 by omega) (n + 1)
    have h5 := tdiv_in (d := ((2 * n + 1 : Nat) : Int)) h1 (by omega)
    have tm := fun S => timesG_ok (rsS s q n) q S (by unfold inI; omega) (by unfold inI; omega)
    have wi : IntKind.i64.wrap ((n : Int) + 1) = ((n + 1 : Nat) : Int) := wrapI (by omega)
    have wa : IntKind.i64.wrap (2 * (n : Int)) = 2 * (n : Int) := wrapI (by omega)
    have wb : IntKind.i64.wrap (2 * (n : Int) + 1) = ((2 * n + 1 : Nat) : Int) := by rw [wrapI (by omega)]; omega
    have n0 : ¬ ((2 * n + 1 : Nat) : Int) = 0 := by omega
    have wc : IntKind.i64.wrap ((rsS s q n).tdiv ((2 * n + 1 : Nat) : Int)) = (rsS s q n).tdiv ((2 * n + 1 : Nat) : Int) := wrapI (by omega)
    have eu : rsU s q n + (rsS s q n).tdiv ((2 * n + 1 : Nat) : Int) = rsU s q (n + 1) := rfl
    have wd : IntKind.i64.wrap (rsU s q (n + 1)) = rsU s q (n + 1) := wrapI (by omega)
    iterate 2
      simp (maxSteps := 2000000) only [wk0, wk1, wk2, wk3, wk4, keepA, keepT, Fr.keep, frzT, flatT, arrayAtA, ownT, extT, Fr.ev, Fr.put, Fr.get, initFr, buildSliceA, zeros, pkB, pkT, pkF, ownDst, Env.kd, ofConst, isConst, binA, intI, cmpI, shiftI, convertA, buildA, fillA, fillS, splice, AV.cells?, storeA, readAt, fieldAddrA, fieldA, indexA, extractA, unA, builtinA, appendA, lenA, sliceCells, isSliceK, makeInterfaceA, nilCheckA, eqA, AV.one, AV.plain, if_false, if_true, Nat.reduceEqDiff, reduceIte, Nat.reduceAdd, List.replicate, Nat.reduceLeDiff, Nat.reduceMul, Nat.reduceSub, Nat.reducePow, Int.reduceLT, Int.reduceLE, Int.reduceToNat, Int.reducePow, IntKind.bits, Int.reduceEq, Int.reduceMul, Int.reduceNeg, ne_eq, reduceCtorEq, escT, BEq.rfl, beq_self_eq_true, Int.reduceAdd, Int.reduceSub, Int.reduceMod, Int.reduceDiv, Nat.reduceMod, Nat.reduceDiv, Nat.reduceLT, cond_true, cond_false, gt_iff_lt, ge_iff_le, g3, g6, g7, g8, hn, wi, wa, wb, n0, wc, eu, wd, YtjdnmejohadlbaaDoor.D116, ty2, ty3, ty4, ty30]
      try first
        | refine callThen_of (tm _) ?_
    exact ih (m' - 1) _ _ (by omega) ⟨n + 1, by omega, by simp [Fr.get, rsS], by simp [Fr.get, g6], by simp [Fr.get], by simp [Fr.get], rfl⟩
  · obtain rfl : n = 20 := by omega
    have w3 : IntKind.i64.wrap (2 * rsU s q 20) = 2 * rsU s q 20 := wrapI (by omega)
    simp (maxSteps := 2000000) only [wk0, wk1, wk2, wk3, wk4, keepA, keepT, Fr.keep, frzT, flatT, arrayAtA, ownT, extT, Fr.ev, Fr.put, Fr.get, initFr, buildSliceA, zeros, pkB, pkT, pkF, ownDst, Env.kd, ofConst, isConst, binA, intI, cmpI, shiftI, convertA, buildA, fillA, fillS, splice, AV.cells?, storeA, readAt, fieldAddrA, fieldA, indexA, extractA, unA, builtinA, appendA, lenA, sliceCells, isSliceK, makeInterfaceA, nilCheckA, eqA, AV.one, AV.plain, if_false, if_true, Nat.reduceEqDiff, reduceIte, Nat.reduceAdd, List.replicate, Nat.reduceLeDiff, Nat.reduceMul, Nat.reduceSub, Nat.reducePow, Int.reduceLT, Int.reduceLE, Int.reduceToNat, Int.reducePow, IntKind.bits, Int.reduceEq, Int.reduceMul, Int.reduceNeg, ne_eq, reduceCtorEq, escT, BEq.rfl, beq_self_eq_true, Int.reduceAdd, Int.reduceSub, Int.reduceMod, Int.reduceDiv, Nat.reduceMod, Nat.reduceDiv, Nat.reduceLT, cond_true, cond_false, gt_iff_lt, ge_iff_le, g3, g6, g7, g8, hn, w3, YtjdnmejohadlbaaDoor.D116, ty2, ty3, ty4, ty30]
    exact retB_plain (by simp [nmd_int]) rfl (by simp)
theorem riseV_in {m : Int} (h : 1125899906842624 ≤ m ∧ m < 2251799813685248) : 0 ≤ riseV m ∧ riseV m ≤ 45035996273704960 := by
  have hs := logS0_in h
  have hq := tmG_in hs hs
  have := rsU_in hs (show 0 ≤ tmG (logS0 m) (logS0 m) ∧ tmG (logS0 m) (logS0 m) ≤ 1125899906842624 by omega) 20
  unfold riseV
  omega
theorem log_bad (x b : Int) (S : Heap) (h : ¬ ((1 ≤ x ∧ x ≤ 4611686018427387903) ∧ 0 ≤ b ∧ b ≤ 62)) : Call theE 51 [.int .i64 x, .int .i64 b] S (.tup [.int .i64 0, errA 1]) S := by
  refine Call.ofC Tryd.func51 YtjdnmejohadlbaaDoor.b51 YtjdnmejohadlbaaDoor.d51 YtjdnmejohadlbaaDoor.e51 (by simp [Tryd.f51]) ?_
  dsimp only [YtjdnmejohadlbaaDoor.c51, Tryd.f51, Option.getD_some]
  by_cases h1 : x < 1
  · simp (maxSteps := 2000000) only [wk0, wk1, wk2, wk3, wk4, keepA, keepT, Fr.keep, frzT, flatT, arrayAtA, ownT, extT, Fr.ev, Fr.put, Fr.get, initFr, buildSliceA, zeros, pkB, pkT, pkF, ownDst, Env.kd, ofConst, isConst, binA, intI, cmpI, shiftI, convertA, buildA, fillA, fillS, splice, AV.cells?, storeA, readAt, fieldAddrA, fieldA, indexA, extractA, unA, builtinA, appendA, lenA, sliceCells, isSliceK, makeInterfaceA, nilCheckA, eqA, AV.one, AV.plain, if_false, if_true, Nat.reduceEqDiff, reduceIte, Nat.reduceAdd, List.replicate, Nat.reduceLeDiff, Nat.reduceMul, Nat.reduceSub, Nat.reducePow, Int.reduceLT, Int.reduceLE, Int.reduceToNat, Int.reducePow, IntKind.bits, Int.reduceEq, Int.reduceMul, Int.reduceNeg, ne_eq, reduceCtorEq, escT, BEq.rfl, beq_self_eq_true, Int.reduceAdd, Int.reduceSub, Int.reduceMod, Int.reduceDiv, Nat.reduceMod, Nat.reduceDiv, Nat.reduceLT, cond_true, cond_false, gt_iff_lt, ge_iff_le, h1, decide_true, decide_false, YtjdnmejohadlbaaDoor.D51, ty2, ty3, ty4, ty30, ty133, ty172]
    exact retB_plain (by simp [nmd_int, nmd_ifc]) rfl (by simp)
  · by_cases h2 : 4611686018427387903 < x
    · simp (maxSteps := 2000000) only [wk0, wk1, wk2, wk3, wk4, keepA, keepT, Fr.keep, frzT, flatT, arrayAtA, ownT, extT, Fr.ev, Fr.put, Fr.get, initFr, buildSliceA, zeros, pkB, pkT, pkF, ownDst, Env.kd, ofConst, isConst, binA, intI, cmpI, shiftI, convertA, buildA, fillA, fillS, splice, AV.cells?, storeA, readAt, fieldAddrA, fieldA, indexA, extractA, unA, builtinA, appendA, lenA, sliceCells, isSliceK, makeInterfaceA, nilCheckA, eqA, AV.one, AV.plain, if_false, if_true, Nat.reduceEqDiff, reduceIte, Nat.reduceAdd, List.replicate, Nat.reduceLeDiff, Nat.reduceMul, Nat.reduceSub, Nat.reducePow, Int.reduceLT, Int.reduceLE, Int.reduceToNat, Int.reducePow, IntKind.bits, Int.reduceEq, Int.reduceMul, Int.reduceNeg, ne_eq, reduceCtorEq, escT, BEq.rfl, beq_self_eq_true, Int.reduceAdd, Int.reduceSub, Int.reduceMod, Int.reduceDiv, Nat.reduceMod, Nat.reduceDiv, Nat.reduceLT, cond_true, cond_false, gt_iff_lt, ge_iff_le, h1, h2, decide_true, decide_false, YtjdnmejohadlbaaDoor.D51, ty2, ty3, ty4, ty30, ty133, ty172]
      exact retB_plain (by simp [nmd_int, nmd_ifc]) rfl (by simp)
    · by_cases h3 : b < 0
      · simp (maxSteps := 2000000) only [wk0, wk1, wk2, wk3, wk4, keepA, keepT, Fr.keep, frzT, flatT, arrayAtA, ownT, extT, Fr.ev, Fr.put, Fr.get, initFr, buildSliceA, zeros, pkB, pkT, pkF, ownDst, Env.kd, ofConst, isConst, binA, intI, cmpI, shiftI, convertA, buildA, fillA, fillS, splice, AV.cells?, storeA, readAt, fieldAddrA, fieldA, indexA, extractA, unA, builtinA, appendA, lenA, sliceCells, isSliceK, makeInterfaceA, nilCheckA, eqA, AV.one, AV.plain, if_false, if_true, Nat.reduceEqDiff, reduceIte, Nat.reduceAdd, List.replicate, Nat.reduceLeDiff, Nat.reduceMul, Nat.reduceSub, Nat.reducePow, Int.reduceLT, Int.reduceLE, Int.reduceToNat, Int.reducePow, IntKind.bits, Int.reduceEq, Int.reduceMul, Int.reduceNeg, ne_eq, reduceCtorEq, escT, BEq.rfl, beq_self_eq_true, Int.reduceAdd, Int.reduceSub, Int.reduceMod, Int.reduceDiv, Nat.reduceMod, Nat.reduceDiv, Nat.reduceLT, cond_true, cond_false, gt_iff_lt, ge_iff_le, h1, h2, h3, decide_true, decide_false, YtjdnmejohadlbaaDoor.D51, ty2, ty3, ty4, ty30, ty133, ty172]
        exact retB_plain (by simp [nmd_int, nmd_ifc]) rfl (by simp)
      · have h4 : 62 < b := by omega
        simp (maxSteps := 2000000) only [wk0, wk1, wk2, wk3, wk4, keepA, keepT, Fr.keep, frzT, flatT, arrayAtA, ownT, extT, Fr.ev, Fr.put, Fr.get, initFr, buildSliceA, zeros, pkB, pkT, pkF, ownDst, Env.kd, ofConst, isConst, binA, intI, cmpI, shiftI, convertA, buildA, fillA, fillS, splice, AV.cells?, storeA, readAt, fieldAddrA, fieldA, indexA, extractA, unA, builtinA, appendA, lenA, sliceCells, isSliceK, makeInterfaceA, nilCheckA, eqA, AV.one, AV.plain, if_false, if_true, Nat.reduceEqDiff, reduceIte, Nat.reduceAdd, List.replicate, Nat.reduceLeDiff, Nat.reduceMul, Nat.reduceSub, Nat.reducePow, Int.reduceLT, Int.reduceLE, Int.reduceToNat, Int.reducePow, IntKind.bits, Int.reduceEq, Int.reduceMul, Int.reduceNeg, ne_eq, reduceCtorEq, escT, BEq.rfl, beq_self_eq_true, Int.reduceAdd, Int.reduceSub, Int.reduceMod, Int.reduceDiv, Nat.reduceMod, Nat.reduceDiv, Nat.reduceLT, cond_true, cond_false, gt_iff_lt, ge_iff_le, h1, h2, h3, h4, decide_true, decide_false, YtjdnmejohadlbaaDoor.D51, ty2, ty3, ty4, ty30, ty133, ty172]
        exact retB_plain (by simp [nmd_int, nmd_ifc]) rfl (by simp)
theorem log_ok (x b : Int) (S : Heap) (hx : 1 ≤ x ∧ x ≤ 4611686018427387903) (hb : 0 ≤ b ∧ b ≤ 62) : Call theE 51 [.int .i64 x, .int .i64 b] S (.tup [.int .i64 (logV x b), .nili]) S := by
  have h1 : ¬ x < 1 := by omega
  have h2 : ¬ 4611686018427387903 < x := by omega
  have h3 : ¬ b < 0 := by omega
  have h4 : ¬ 62 < b := by omega
  have wx : IntKind.u64.wrap x = x := wrapU (by omega)
  have le := fun S => len64_ok x S (by omega)
  obtain ⟨X, hX⟩ : ∃ X : Nat, x = (X : Int) := ⟨x.toNat, by omega⟩
  subst hX
  have h0 : X ≠ 0 := by omega
  have hm := logM_in h0
  have hB := lenG_in h0 (by omega)
  have hmI : 1125899906842624 ≤ ((logM X : Nat) : Int) ∧ ((logM X : Nat) : Int) < 2251799813685248 := by omega
  have ri := fun S => rise_ok (logM X) S hmI
  have hr := riseV_in hmI
  have hM : logM X = X / 2 ^ (lenU X - 51) * 2 ^ (51 - lenU X) := rfl
  unfold logV
  rw [Int.toNat_natCast] at le ⊢
  generalize hBB : lenU X = B at *
  generalize riseV ((logM X : Nat) : Int) = R at *
  have w1 : IntKind.i64.wrap ((B : Int) - 1) = (B : Int) - 1 := wrapI (by omega)
  have w2 : IntKind.i64.wrap ((B : Int) - 1 - 50) = (B : Int) - 51 := by rw [wrapI (by omega)]; omega
  have mx1 : max ((B : Int) - 51) 0 = ((B - 51 : Nat) : Int) := by omega
  have w3 : IntKind.i64.wrap (0 - ((B : Int) - 51)) = 51 - (B : Int) := by rw [wrapI (by omega)]; omega
  have mx2 : max (51 - (B : Int)) 0 = ((51 - B : Nat) : Int) := by omega
  have p1 : ¬ ((B - 51 : Nat) : Int) < 0 := by omega
  have p2 : ¬ ((51 - B : Nat) : Int) < 0 := by omega
  have mk1 : min (B - 51) 64 = B - 51 := by omega
  have mk2 : min (51 - B) 64 = 51 - B := by omega
  have fd : (X : Int).fdiv (2 ^ (B - 51)) = ((X / 2 ^ (B - 51) : Nat) : Int) := by
    rw [Int.fdiv_eq_ediv_of_nonneg _ (Int.le_of_lt (Int.pow_pos (by decide))), Int.natCast_ediv, Int.natCast_pow]; rfl
  have mm : ((X / 2 ^ (B - 51) : Nat) : Int) * 2 ^ (51 - B) = ((logM X : Nat) : Int) := by
    rw [hM, Int.natCast_mul, Int.natCast_pow]; rfl
  have wm : IntKind.i64.wrap ((logM X : Nat) : Int) = ((logM X : Nat) : Int) := wrapI (by omega)
  have w4 : IntKind.i64.wrap ((B : Int) - 51 - b) = (B : Int) - 51 - b := wrapI (by omega)
  have w5 : IntKind.i64.wrap ((B : Int) - 51 - b + 50) = (B : Int) - 1 - b := by rw [wrapI (by omega)]; omega
  have w6 : IntKind.i64.wrap (((B : Int) - 1 - b) * 780414346020670) = ((B : Int) - 1 - b) * 780414346020670 := wrapI (by omega)
  have w7 : IntKind.i64.wrap (R + ((B : Int) - 1 - b) * 780414346020670) = R + ((B : Int) - 1 - b) * 780414346020670 := wrapI (by omega)
  have mo := fun S => move_down (R + ((B : Int) - 1 - b) * 780414346020670) 0 29 S (by omega) (by unfold inI; omega)
  rw [show (29 + 1 : Nat) = 30 by omega] at mo
  change ∀ S, Call theE _ [_, .int .i64 30, .int .i64 0] S _ S at mo
  generalize ovrB (rnd (R + ((B : Int) - 1 - b) * 780414346020670) (2 ^ 30)) = o at *
  refine Call.ofC Tryd.func51 YtjdnmejohadlbaaDoor.b51 YtjdnmejohadlbaaDoor.d51 YtjdnmejohadlbaaDoor.e51 (by simp [Tryd.f51]) ?_
  dsimp only [YtjdnmejohadlbaaDoor.c51, Tryd.f51, Option.getD_some]
  iterate 4
    simp (maxSteps := 2000000) only [wk0, wk1, wk2, wk3, wk4, keepA, keepT, Fr.keep, frzT, flatT, arrayAtA, ownT, extT, Fr.ev, Fr.put, Fr.get, initFr, buildSliceA, zeros, pkB, pkT, pkF, ownDst, Env.kd, ofConst, isConst, binA, intI, cmpI, shiftI, convertA, buildA, fillA, fillS, splice, AV.cells?, storeA, readAt, fieldAddrA, fieldA, indexA, extractA, unA, builtinA, appendA, lenA, sliceCells, isSliceK, makeInterfaceA, nilCheckA, eqA, AV.one, AV.plain, if_false, if_true, Nat.reduceEqDiff, reduceIte, Nat.reduceAdd, List.replicate, Nat.reduceLeDiff, Nat.reduceMul, Nat.reduceSub, Nat.reducePow, Int.reduceLT, Int.reduceLE, Int.reduceToNat, Int.reducePow, IntKind.bits, Int.reduceEq, Int.reduceMul, Int.reduceNeg, ne_eq, reduceCtorEq, escT, BEq.rfl, beq_self_eq_true, Int.reduceAdd, Int.reduceSub, Int.reduceMod, Int.reduceDiv, Nat.reduceMod, Nat.reduceDiv, Nat.reduceLT, cond_true, cond_false, gt_iff_lt, ge_iff_le, h1, h2, h3, h4, wx, w1, w2, w3, w4, w5, w6, w7, mx1, mx2, p1, p2, mk1, mk2, fd, mm, wm, Int.toNat_natCast, decide_false, YtjdnmejohadlbaaDoor.D51, ty2, ty3, ty4, ty30, ty133, ty172]
    try first
      | refine callThen_of (le _) ?_
      | refine callThen_of (ri _) ?_
      | refine callThen_of (mo _) ?_
  exact retB_plain (by simp [nmd_int, nmd_nili]) rfl (by simp)
theorem decay_bad (a x : Int) (S : Heap) (h : 0 < x ∨ 4611686018427387903 < a ∨ a < -4611686018427387903) : Call theE 52 [.int .i64 a, .int .i64 x] S (.tup [.int .i64 0, errA 1]) S := by
  refine Call.ofC Tryd.func52 YtjdnmejohadlbaaDoor.b52 YtjdnmejohadlbaaDoor.d52 YtjdnmejohadlbaaDoor.e52 (by simp [Tryd.f52]) ?_
  dsimp only [YtjdnmejohadlbaaDoor.c52, Tryd.f52, Option.getD_some]
  by_cases h1 : 0 < x
  · simp (maxSteps := 2000000) only [wk0, wk1, wk2, wk3, wk4, keepA, keepT, Fr.keep, frzT, flatT, arrayAtA, ownT, extT, Fr.ev, Fr.put, Fr.get, initFr, buildSliceA, zeros, pkB, pkT, pkF, ownDst, Env.kd, ofConst, isConst, binA, intI, cmpI, shiftI, convertA, buildA, fillA, fillS, splice, AV.cells?, storeA, readAt, fieldAddrA, fieldA, indexA, extractA, unA, builtinA, appendA, lenA, sliceCells, isSliceK, makeInterfaceA, nilCheckA, eqA, AV.one, AV.plain, if_false, if_true, Nat.reduceEqDiff, reduceIte, Nat.reduceAdd, List.replicate, Nat.reduceLeDiff, Nat.reduceMul, Nat.reduceSub, Nat.reducePow, Int.reduceLT, Int.reduceLE, Int.reduceToNat, Int.reducePow, IntKind.bits, Int.reduceEq, Int.reduceMul, Int.reduceNeg, ne_eq, reduceCtorEq, escT, BEq.rfl, beq_self_eq_true, Int.reduceAdd, Int.reduceSub, Int.reduceMod, Int.reduceDiv, Nat.reduceMod, Nat.reduceDiv, Nat.reduceLT, cond_true, cond_false, gt_iff_lt, ge_iff_le, h1, decide_true, decide_false, YtjdnmejohadlbaaDoor.D52, ty2, ty3, ty4, ty30, ty133]
    exact retB_plain (by simp [nmd_int, nmd_ifc]) rfl (by simp)
  · by_cases h2 : 4611686018427387903 < a
    · simp (maxSteps := 2000000) only [wk0, wk1, wk2, wk3, wk4, keepA, keepT, Fr.keep, frzT, flatT, arrayAtA, ownT, extT, Fr.ev, Fr.put, Fr.get, initFr, buildSliceA, zeros, pkB, pkT, pkF, ownDst, Env.kd, ofConst, isConst, binA, intI, cmpI, shiftI, convertA, buildA, fillA, fillS, splice, AV.cells?, storeA, readAt, fieldAddrA, fieldA, indexA, extractA, unA, builtinA, appendA, lenA, sliceCells, isSliceK, makeInterfaceA, nilCheckA, eqA, AV.one, AV.plain, if_false, if_true, Nat.reduceEqDiff, reduceIte, Nat.reduceAdd, List.replicate, Nat.reduceLeDiff, Nat.reduceMul, Nat.reduceSub, Nat.reducePow, Int.reduceLT, Int.reduceLE, Int.reduceToNat, Int.reducePow, IntKind.bits, Int.reduceEq, Int.reduceMul, Int.reduceNeg, ne_eq, reduceCtorEq, escT, BEq.rfl, beq_self_eq_true, Int.reduceAdd, Int.reduceSub, Int.reduceMod, Int.reduceDiv, Nat.reduceMod, Nat.reduceDiv, Nat.reduceLT, cond_true, cond_false, gt_iff_lt, ge_iff_le, h1, h2, decide_true, decide_false, YtjdnmejohadlbaaDoor.D52, ty2, ty3, ty4, ty30, ty133]
      exact retB_plain (by simp [nmd_int, nmd_ifc]) rfl (by simp)
    · have h3 : a < -4611686018427387903 := by omega
      simp (maxSteps := 2000000) only [wk0, wk1, wk2, wk3, wk4, keepA, keepT, Fr.keep, frzT, flatT, arrayAtA, ownT, extT, Fr.ev, Fr.put, Fr.get, initFr, buildSliceA, zeros, pkB, pkT, pkF, ownDst, Env.kd, ofConst, isConst, binA, intI, cmpI, shiftI, convertA, buildA, fillA, fillS, splice, AV.cells?, storeA, readAt, fieldAddrA, fieldA, indexA, extractA, unA, builtinA, appendA, lenA, sliceCells, isSliceK, makeInterfaceA, nilCheckA, eqA, AV.one, AV.plain, if_false, if_true, Nat.reduceEqDiff, reduceIte, Nat.reduceAdd, List.replicate, Nat.reduceLeDiff, Nat.reduceMul, Nat.reduceSub, Nat.reducePow, Int.reduceLT, Int.reduceLE, Int.reduceToNat, Int.reducePow, IntKind.bits, Int.reduceEq, Int.reduceMul, Int.reduceNeg, ne_eq, reduceCtorEq, escT, BEq.rfl, beq_self_eq_true, Int.reduceAdd, Int.reduceSub, Int.reduceMod, Int.reduceDiv, Nat.reduceMod, Nat.reduceDiv, Nat.reduceLT, cond_true, cond_false, gt_iff_lt, ge_iff_le, h1, h2, h3, decide_true, decide_false, YtjdnmejohadlbaaDoor.D52, ty2, ty3, ty4, ty30, ty133]
      exact retB_plain (by simp [nmd_int, nmd_ifc]) rfl (by simp)
def decV (a x : Int) : Int := bndI (rnd (a * expG x) (2 ^ 30))
theorem decay_ok (a x : Int) (S : Heap) (h1 : x ≤ 0) (h2 : -4611686018427387903 ≤ a ∧ a ≤ 4611686018427387903) (hx : inI x) : Call theE 52 [.int .i64 a, .int .i64 x] S (.tup [.int .i64 (decV a x), .nili]) S := by
  have e := fun S => exp_ok x S h1 hx
  have he := expG_in x
  have m := fun S => mul_ok a (expG x) 30 S (by omega) (by unfold inI; omega) (by unfold inI; omega)
  have p1 : ¬ 0 < x := by omega
  have p2 : ¬ 4611686018427387903 < a := by omega
  have p3 : ¬ a < -4611686018427387903 := by omega
  change ∀ S, Call theE _ [_, _, .int .i64 30] S (.tup [.int .i64 (decV a x), _, _]) S at m
  generalize ovrB (rnd (a * expG x) (2 ^ 30)) = o at *
  refine Call.ofC Tryd.func52 YtjdnmejohadlbaaDoor.b52 YtjdnmejohadlbaaDoor.d52 YtjdnmejohadlbaaDoor.e52 (by simp [Tryd.f52]) ?_
  dsimp only [YtjdnmejohadlbaaDoor.c52, Tryd.f52, Option.getD_some]
  iterate 3
    simp (maxSteps := 2000000) only [wk0, wk1, wk2, wk3, wk4, keepA, keepT, Fr.keep, frzT, flatT, arrayAtA, ownT, extT, Fr.ev, Fr.put, Fr.get, initFr, buildSliceA, zeros, pkB, pkT, pkF, ownDst, Env.kd, ofConst, isConst, binA, intI, cmpI, shiftI, convertA, buildA, fillA, fillS, splice, AV.cells?, storeA, readAt, fieldAddrA, fieldA, indexA, extractA, unA, builtinA, appendA, lenA, sliceCells, isSliceK, makeInterfaceA, nilCheckA, eqA, AV.one, AV.plain, if_false, if_true, Nat.reduceEqDiff, reduceIte, Nat.reduceAdd, List.replicate, Nat.reduceLeDiff, Nat.reduceMul, Nat.reduceSub, Nat.reducePow, Int.reduceLT, Int.reduceLE, Int.reduceToNat, Int.reducePow, IntKind.bits, Int.reduceEq, Int.reduceMul, Int.reduceNeg, ne_eq, reduceCtorEq, escT, BEq.rfl, beq_self_eq_true, Int.reduceAdd, Int.reduceSub, Int.reduceMod, Int.reduceDiv, Nat.reduceMod, Nat.reduceDiv, Nat.reduceLT, cond_true, cond_false, gt_iff_lt, ge_iff_le, p1, p2, p3, decide_false, YtjdnmejohadlbaaDoor.D52, ty2, ty3, ty4, ty30, ty133]
    try first
      | refine callThen_of (e _) ?_
      | refine callThen_of (m _) ?_
  exact retB_plain (by simp [nmd_int, nmd_nili]) rfl (by simp)
theorem refLog_ok (x b : Int) (S : Heap) (hx : 1 ≤ x ∧ x ≤ 4611686018427387903) (hb : 0 ≤ b ∧ b ≤ 62) : Call theE 58 [.int .i64 x, .int .i64 b] S (.int .i64 (logV x b)) S := by
  obtain ⟨X, hX⟩ : ∃ X : Nat, x = (X : Int) := ⟨x.toNat, by omega⟩
  subst hX
  have h0 : X ≠ 0 := by omega
  have hm := logM_in h0
  have hB := lenG_in h0 (by omega)
  have hmI : 1125899906842624 ≤ ((logM X : Nat) : Int) ∧ ((logM X : Nat) : Int) < 2251799813685248 := by omega
  have hM : logM X = X / 2 ^ (lenU X - 51) * 2 ^ (51 - lenU X) := rfl
  have hdn := fun i => log_dn (i := i) h0
  have hup := fun j => log_up (j := j) h0
  have hr := riseV_in hmI
  unfold logV
  rw [Int.toNat_natCast]
  generalize hBB : lenU X = B at *
  obtain ⟨m0, hm0⟩ : ∃ m0 : Int, m0 = ((logM X : Nat) : Int) := ⟨_, rfl⟩
  rw [← hm0] at hmI hr ⊢
  have w50 : IntKind.i64.wrap (50 - b) = 50 - b := wrapI (by omega)
  refine Call.ofC Tryd.func58 YtjdnmejohadlbaaDoor.b58 YtjdnmejohadlbaaDoor.d58 YtjdnmejohadlbaaDoor.e58 (by simp [Tryd.f58]) ?_
  dsimp only [YtjdnmejohadlbaaDoor.c58, Tryd.f58, Option.getD_some]
  simp (maxSteps := 2000000) only [wk0, wk1, wk2, wk3, wk4, keepA, keepT, Fr.keep, frzT, flatT, arrayAtA, ownT, extT, Fr.ev, Fr.put, Fr.get, initFr, buildSliceA, zeros, pkB, pkT, pkF, ownDst, Env.kd, ofConst, isConst, binA, intI, cmpI, shiftI, convertA, buildA, fillA, fillS, splice, AV.cells?, storeA, readAt, fieldAddrA, fieldA, indexA, extractA, unA, builtinA, appendA, lenA, sliceCells, isSliceK, makeInterfaceA, nilCheckA, eqA, AV.one, AV.plain, if_false, if_true, Nat.reduceEqDiff, reduceIte, Nat.reduceAdd, List.replicate, Nat.reduceLeDiff, Nat.reduceMul, Nat.reduceSub, Nat.reducePow, Int.reduceLT, Int.reduceLE, Int.reduceToNat, Int.reducePow, IntKind.bits, Int.reduceEq, Int.reduceMul, Int.reduceNeg, ne_eq, reduceCtorEq, escT, BEq.rfl, beq_self_eq_true, Int.reduceAdd, Int.reduceSub, Int.reduceMod, Int.reduceDiv, Nat.reduceMod, Nat.reduceDiv, Nat.reduceLT, cond_true, cond_false, gt_iff_lt, ge_iff_le, w50, YtjdnmejohadlbaaDoor.D58, ty2, ty3, ty4, ty149]
  refine loopC_ind (fun m fr H => ∃ i : Nat, i + m = B - 51 ∧ fr.get 5 = .int .i64 ((X / 2 ^ i : Nat) : Int) ∧ fr.get 6 = .int .i64 (50 - b + (i : Int)) ∧ H = S) ?_ (n := B - 51) ⟨0, by omega, by simp [Fr.get], by simp [Fr.get], rfl⟩
  rintro m fr H ⟨i, him, g5, g6, rfl⟩ ih
  have hXi : X / 2 ^ i ≤ X := Nat.div_le_self _ _
  by_cases hc : (2251799813685248 : Int) ≤ ((X / 2 ^ i : Nat) : Int)
  · have hi : i < B - 51 := (hdn i).1 (by omega)
    have e1 : Int.tdiv ((X / 2 ^ i : Nat) : Int) 2 = ((X / 2 ^ (i + 1) : Nat) : Int) := by
      rw [Int.tdiv_eq_ediv_of_nonneg (by omega), Nat.pow_succ, ← Nat.div_div_eq_div_mul]; omega
    have hXi1 : X / 2 ^ (i + 1) ≤ X := Nat.div_le_self _ _
    have w1 : IntKind.i64.wrap ((X / 2 ^ (i + 1) : Nat) : Int) = ((X / 2 ^ (i + 1) : Nat) : Int) := wrapI (by clear e1; generalize X / 2 ^ (i + 1) = q at *; omega)
    have w2 : IntKind.i64.wrap (50 - b + (i : Int) + 1) = 50 - b + ((i + 1 : Nat) : Int) := by rw [wrapI (by omega)]; omega
    simp (maxSteps := 2000000) only [wk0, wk1, wk2, wk3, wk4, keepA, keepT, Fr.keep, frzT, flatT, arrayAtA, ownT, extT, Fr.ev, Fr.put, Fr.get, initFr, buildSliceA, zeros, pkB, pkT, pkF, ownDst, Env.kd, ofConst, isConst, binA, intI, cmpI, shiftI, convertA, buildA, fillA, fillS, splice, AV.cells?, storeA, readAt, fieldAddrA, fieldA, indexA, extractA, unA, builtinA, appendA, lenA, sliceCells, isSliceK, makeInterfaceA, nilCheckA, eqA, AV.one, AV.plain, if_false, if_true, Nat.reduceEqDiff, reduceIte, Nat.reduceAdd, List.replicate, Nat.reduceLeDiff, Nat.reduceMul, Nat.reduceSub, Nat.reducePow, Int.reduceLT, Int.reduceLE, Int.reduceToNat, Int.reducePow, IntKind.bits, Int.reduceEq, Int.reduceMul, Int.reduceNeg, ne_eq, reduceCtorEq, escT, BEq.rfl, beq_self_eq_true, Int.reduceAdd, Int.reduceSub, Int.reduceMod, Int.reduceDiv, Nat.reduceMod, Nat.reduceDiv, Nat.reduceLT, cond_true, cond_false, gt_iff_lt, ge_iff_le, g5, g6, hc, e1, w1, w2, YtjdnmejohadlbaaDoor.D58, ty2, ty3, ty4, ty149]
    exact ih (m - 1) _ _ (by omega) ⟨i + 1, by omega, by simp [Fr.get], by simp [Fr.get], rfl⟩
  · have hi : i = B - 51 := by
      have : ¬ i < B - 51 := fun h => by have := (hdn i).2 h; omega
      omega
    subst hi
    simp (maxSteps := 2000000) only [wk0, wk1, wk2, wk3, wk4, keepA, keepT, Fr.keep, frzT, flatT, arrayAtA, ownT, extT, Fr.ev, Fr.put, Fr.get, initFr, buildSliceA, zeros, pkB, pkT, pkF, ownDst, Env.kd, ofConst, isConst, binA, intI, cmpI, shiftI, convertA, buildA, fillA, fillS, splice, AV.cells?, storeA, readAt, fieldAddrA, fieldA, indexA, extractA, unA, builtinA, appendA, lenA, sliceCells, isSliceK, makeInterfaceA, nilCheckA, eqA, AV.one, AV.plain, if_false, if_true, Nat.reduceEqDiff, reduceIte, Nat.reduceAdd, List.replicate, Nat.reduceLeDiff, Nat.reduceMul, Nat.reduceSub, Nat.reducePow, Int.reduceLT, Int.reduceLE, Int.reduceToNat, Int.reducePow, IntKind.bits, Int.reduceEq, Int.reduceMul, Int.reduceNeg, ne_eq, reduceCtorEq, escT, BEq.rfl, beq_self_eq_true, Int.reduceAdd, Int.reduceSub, Int.reduceMod, Int.reduceDiv, Nat.reduceMod, Nat.reduceDiv, Nat.reduceLT, cond_true, cond_false, gt_iff_lt, ge_iff_le, g5, g6, hc, YtjdnmejohadlbaaDoor.D58, ty2, ty3, ty4, ty149]
    refine loopC_ind (fun m fr H' => ∃ j : Nat, j + m = 51 - B ∧ fr.get 5 = .int .i64 ((X / 2 ^ (B - 51) * 2 ^ j : Nat) : Int) ∧ fr.get 6 = .int .i64 (50 - b + ((B - 51 : Nat) : Int) - (j : Int)) ∧ H' = H) ?_ (n := 51 - B) ⟨0, by omega, by simp [Fr.get, g5], by simp [Fr.get, g6], rfl⟩
    rintro m' fr H' ⟨j, hjm, g5, g6, rfl⟩ ih2
    by_cases hc2 : ((X / 2 ^ (B - 51) * 2 ^ j : Nat) : Int) < 1125899906842624
    · have hj : j < 51 - B := (hup j (by omega)).1 (by omega)
      have e1 : 2 * ((X / 2 ^ (B - 51) * 2 ^ j : Nat) : Int) = ((X / 2 ^ (B - 51) * 2 ^ (j + 1) : Nat) : Int) := by
        rw [Nat.pow_succ, ← Nat.mul_assoc]; omega
      have w1 : IntKind.i64.wrap ((X / 2 ^ (B - 51) * 2 ^ (j + 1) : Nat) : Int) = ((X / 2 ^ (B - 51) * 2 ^ (j + 1) : Nat) : Int) := wrapI (by omega)
      have w2 : IntKind.i64.wrap (50 - b + ((B - 51 : Nat) : Int) - (j : Int) - 1) = 50 - b + ((B - 51 : Nat) : Int) - ((j + 1 : Nat) : Int) := by rw [wrapI (by omega)]; omega
      simp (maxSteps := 2000000) only [wk0, wk1, wk2, wk3, wk4, keepA, keepT, Fr.keep, frzT, flatT, arrayAtA, ownT, extT, Fr.ev, Fr.put, Fr.get, initFr, buildSliceA, zeros, pkB, pkT, pkF, ownDst, Env.kd, ofConst, isConst, binA, intI, cmpI, shiftI, convertA, buildA, fillA, fillS, splice, AV.cells?, storeA, readAt, fieldAddrA, fieldA, indexA, extractA, unA, builtinA, appendA, lenA, sliceCells, isSliceK, makeInterfaceA, nilCheckA, eqA, AV.one, AV.plain, if_false, if_true, Nat.reduceEqDiff, reduceIte, Nat.reduceAdd, List.replicate, Nat.reduceLeDiff, Nat.reduceMul, Nat.reduceSub, Nat.reducePow, Int.reduceLT, Int.reduceLE, Int.reduceToNat, Int.reducePow, IntKind.bits, Int.reduceEq, Int.reduceMul, Int.reduceNeg, ne_eq, reduceCtorEq, escT, BEq.rfl, beq_self_eq_true, Int.reduceAdd, Int.reduceSub, Int.reduceMod, Int.reduceDiv, Nat.reduceMod, Nat.reduceDiv, Nat.reduceLT, cond_true, cond_false, gt_iff_lt, ge_iff_le, g5, g6, hc2, e1, w1, w2, YtjdnmejohadlbaaDoor.D58, ty2, ty3, ty4, ty149]
      exact ih2 (m' - 1) _ _ (by omega) ⟨j + 1, by omega, by simp [Fr.get], by simp [Fr.get], rfl⟩
    · have hj : j = 51 - B := by
        have : ¬ j < 51 - B := fun h => by have := (hup j (by omega)).2 h; omega
        omega
      subst hj
      rw [← hM, ← hm0] at g5
      have ee : 50 - b + ((B - 51 : Nat) : Int) - ((51 - B : Nat) : Int) = (B : Int) - 1 - b := by omega
      rw [ee] at g6
      clear ih ih2 hc hc2 ee hXi hup hdn
      obtain ⟨ev, hev⟩ : ∃ ev, (B : Int) - 1 - b = ev := ⟨_, rfl⟩
      have hev1 : -62 ≤ ev ∧ ev ≤ 62 := by omega
      rw [hev] at g6 ⊢
      have w1 : IntKind.i64.wrap (m0 - 1125899906842624) = m0 - 1125899906842624 := wrapI (by omega)
      have w2 : IntKind.i64.wrap (m0 + 1125899906842624) = m0 + 1125899906842624 := wrapI (by omega)
      have d := fun S => refDiv_ok (m0 - 1125899906842624) (m0 + 1125899906842624) 50 S (by unfold inI; omega) (by unfold inI; omega) (by omega) (by omega) (rnd ((m0 - 1125899906842624) * 2 ^ 50) (m0 + 1125899906842624)) (quo_pos (by omega) (by omega) 50).symm
      change ∀ S, Call theE _ [_, _, .int .i64 50] S (.tup [.int .i64 (logS0 m0), _]) S at d
      generalize ovrB (rnd ((m0 - 1125899906842624) * 2 ^ 50) (m0 + 1125899906842624)) = ov at d
      have hs := logS0_in hmI
      have hq := tmG_in hs hs
      have t0 := fun S => refTimes_ok (logS0 m0) (logS0 m0) S (by unfold inI; omega) (by unfold inI; omega)
      unfold riseV at hr ⊢
      generalize logS0 m0 = s at *
      generalize tmG s s = q at *
      have hq' : 0 ≤ q ∧ q ≤ 1125899906842624 := by omega
      have big : ∀ z : Int, -9223372036854775808 ≤ z → z ≤ 9223372036854775808 → lenD z.natAbs ≤ 20 := fun z h1 h2 => (lenD_le _ _).2 (by omega)
      have of' := fun (z : Int) (hz : -9223372036854775808 ≤ z ∧ z ≤ 9223372036854775807) S => decOf_ok z S (by unfold inI; omega)
      have ad := fun (a b : Int) (ha : -9223372036854775808 ≤ a ∧ a ≤ 9223372036854775808) (hb : -9223372036854775808 ≤ b ∧ b ≤ 9223372036854775808) S => decAdd_ok a b S (Nat.le_trans (big _ ha.1 ha.2) (by omega)) (Nat.le_trans (big _ hb.1 hb.2) (by omega))
      have h20 := rsU_in hs hq' 20
      have mu := fun S => decMul_ok ev 780414346020670 S (Nat.le_trans (big _ (by omega) (by omega)) (by omega)) (Nat.le_trans (big _ (by omega) (by omega)) (by omega))
      have tw := fun S => decTwo_ok 30 S (by omega)
      have lp : lenD ((2 : Int) ^ 30).natAbs ≤ 20000 := Nat.le_trans (lenD_pow 30) (by omega)
      have e2u : rsU s q 20 + rsU s q 20 = 2 * rsU s q 20 := by omega
      have ro := fun S => decRound_ok (2 * rsU s q 20 + ev * 780414346020670) (2 ^ 30) S (Nat.le_trans (big _ (by omega) (by omega)) (by omega)) lp (by decide)
      have hrs := rnd_size (2 * rsU s q 20 + ev * 780414346020670) (2 ^ 30) (by decide)
      have hbd : bndI (rnd (2 * rsU s q 20 + ev * 780414346020670) (2 ^ 30)) = rnd (2 * rsU s q 20 + ev * 780414346020670) (2 ^ 30) := by unfold bndI; omega
      have sf := fun S => decSmall_ok (rnd (2 * rsU s q 20 + ev * 780414346020670) (2 ^ 30)) S (by unfold inI; omega)
      have e30 : (2 : Int) ^ 30 = 1073741824 := by decide
      have hbd2 : bndI (rnd (2 * rsU s q 20 + ev * 780414346020670) 1073741824) = rnd (2 * rsU s q 20 + ev * 780414346020670) (2 ^ 30) := by rw [← e30]; exact hbd
      rw [hbd2]
      clear hbd hbd2 e30
      generalize rnd (2 * rsU s q 20 + ev * 780414346020670) (2 ^ 30) = res at *
      have ofe := of' ev (by omega)
      have ofL := of' 780414346020670 (by omega)
      have ad1 := ad (rsU s q 20) (rsU s q 20) (by omega) (by omega)
      rw [e2u] at ad1
      have ad2 := ad (2 * rsU s q 20) (ev * 780414346020670) (by omega) (by omega)
      generalize hpw : (2 : Int) ^ 30 = pw at tw ro
      simp only [decA, lstI, digs_len] at of' ad mu tw ro sf ofe ofL ad1 ad2
      have hm1 : ¬ m0 < 1125899906842624 := by omega
      iterate 3
        simp (maxSteps := 2000000) only [wk0, wk1, wk2, wk3, wk4, keepA, keepT, Fr.keep, frzT, flatT, arrayAtA, ownT, extT, Fr.ev, Fr.put, Fr.get, initFr, buildSliceA, zeros, pkB, pkT, pkF, ownDst, Env.kd, ofConst, isConst, binA, intI, cmpI, shiftI, convertA, buildA, fillA, fillS, splice, AV.cells?, storeA, readAt, fieldAddrA, fieldA, indexA, extractA, unA, builtinA, appendA, lenA, sliceCells, isSliceK, makeInterfaceA, nilCheckA, eqA, AV.one, AV.plain, if_false, if_true, Nat.reduceEqDiff, reduceIte, Nat.reduceAdd, List.replicate, Nat.reduceLeDiff, Nat.reduceMul, Nat.reduceSub, Nat.reducePow, Int.reduceLT, Int.reduceLE, Int.reduceToNat, Int.reducePow, IntKind.bits, Int.reduceEq, Int.reduceMul, Int.reduceNeg, ne_eq, reduceCtorEq, escT, BEq.rfl, beq_self_eq_true, Int.reduceAdd, Int.reduceSub, Int.reduceMod, Int.reduceDiv, Nat.reduceMod, Nat.reduceDiv, Nat.reduceLT, cond_true, cond_false, gt_iff_lt, ge_iff_le, g5, g6, hm1, w1, w2, YtjdnmejohadlbaaDoor.D58, ty2, ty3, ty4, ty149]
        try first
          | refine callThen_of (d _) ?_
          | refine callThen_of (t0 _) ?_
      have td1 : s.tdiv 1 = s := Int.tdiv_one s
      have ws0 : IntKind.i64.wrap s = s := wrapI (by omega)
      have of0 := of' s (by omega)
      have ad0 := fun S => decAddN_ok s S hs.1 (Nat.le_trans (big _ (by omega) (by omega)) (by omega))
      simp only [decA, lstI, digs_len] at ad0
      have tm0 := fun S => refTimes_ok s q S (by unfold inI; omega) (by unfold inI; omega)
      have eu1 : rsU s q 1 = s := by
        have e : rsU s q 1 = 0 + s.tdiv 1 := rfl
        rw [e, td1]; omega
      have g6' := g6
      refine loopC_of ?_
      iterate 4
        simp (maxSteps := 2000000) only [wk0, wk1, wk2, wk3, wk4, keepA, keepT, Fr.keep, frzT, flatT, arrayAtA, ownT, extT, Fr.ev, Fr.put, Fr.get, initFr, buildSliceA, zeros, pkB, pkT, pkF, ownDst, Env.kd, ofConst, isConst, binA, intI, cmpI, shiftI, convertA, buildA, fillA, fillS, splice, AV.cells?, storeA, readAt, fieldAddrA, fieldA, indexA, extractA, unA, builtinA, appendA, lenA, sliceCells, isSliceK, makeInterfaceA, nilCheckA, eqA, AV.one, AV.plain, if_false, if_true, Nat.reduceEqDiff, reduceIte, Nat.reduceAdd, List.replicate, Nat.reduceLeDiff, Nat.reduceMul, Nat.reduceSub, Nat.reducePow, Int.reduceLT, Int.reduceLE, Int.reduceToNat, Int.reducePow, IntKind.bits, Int.reduceEq, Int.reduceMul, Int.reduceNeg, ne_eq, reduceCtorEq, escT, BEq.rfl, beq_self_eq_true, Int.reduceAdd, Int.reduceSub, Int.reduceMod, Int.reduceDiv, Nat.reduceMod, Nat.reduceDiv, Nat.reduceLT, cond_true, cond_false, gt_iff_lt, ge_iff_le, g6, td1, ws0, YtjdnmejohadlbaaDoor.D58, ty2, ty3, ty4, ty149]
        try first
          | refine callThen_of (of0 _) ?_
          | refine callThen_of (ad0 _) ?_
          | refine callThen_of (tm0 _) ?_
      refine loopC_ind (fun m fr H => ∃ n : Nat, n + m = 20 ∧ fr.get 6 = .int .i64 ev ∧ fr.get 7 = .int .i64 (rsS s q n) ∧ fr.get 9 = .int .i64 q ∧ fr.get 10 = .ptr H'.length 0 0 ∧ fr.get 11 = .int .i64 (n : Int) ∧ H = H' ++ [dcB (rsU s q n)]) ?_ (n := 19) ⟨1, by omega, by simp [Fr.get, g6], by simp [Fr.get, rsS], by simp [Fr.get], by simp [Fr.get], by simp [Fr.get], by rw [eu1]; rfl⟩
      rintro m fr H ⟨n, hnm, g6, g7, g9, g10, g11, rfl⟩ ih
      have h1 := rsS_in hs hq' n
      have h3 := rsU_in hs hq' n
      unfold dcB
      by_cases hn : (n : Int) < 20
      · have h4 := rsU_in hs hq' (n + 1)
        have h5 := tdiv_in (d := ((2 * n + 1 : Nat) : Int)) h1 (by omega)
        have tm := fun S => refTimes_ok (rsS s q n) q S (by unfold inI; omega) (by unfold inI; omega)
        have wi : IntKind.i64.wrap ((n : Int) + 1) = ((n + 1 : Nat) : Int) := wrapI (by omega)
        have wa : IntKind.i64.wrap (2 * (n : Int)) = 2 * (n : Int) := wrapI (by omega)
        have wb : IntKind.i64.wrap (2 * (n : Int) + 1) = ((2 * n + 1 : Nat) : Int) := by rw [wrapI (by omega)]; omega
        have n0 : ¬ ((2 * n + 1 : Nat) : Int) = 0 := by omega
        have wc : IntKind.i64.wrap ((rsS s q n).tdiv ((2 * n + 1 : Nat) : Int)) = (rsS s q n).tdiv ((2 * n + 1 : Nat) : Int) := wrapI (by omega)
        have ofn := of' ((rsS s q n).tdiv ((2 * n + 1 : Nat) : Int)) (by omega)
        have adn := ad (rsU s q n) ((rsS s q n).tdiv ((2 * n + 1 : Nat) : Int)) (by omega) (by omega)
        have eu : rsU s q n + (rsS s q n).tdiv ((2 * n + 1 : Nat) : Int) = rsU s q (n + 1) := rfl
        rw [eu] at adn
        iterate 4
          simp (maxSteps := 2000000) only [wk0, wk1, wk2, wk3, wk4, keepA, keepT, Fr.keep, frzT, flatT, arrayAtA, ownT, extT, Fr.ev, Fr.put, Fr.get, initFr, buildSliceA, zeros, pkB, pkT, pkF, ownDst, Env.kd, ofConst, isConst, binA, intI, cmpI, shiftI, convertA, buildA, fillA, fillS, splice, AV.cells?, storeA, readAt, fieldAddrA, fieldA, indexA, extractA, unA, builtinA, appendA, lenA, sliceCells, isSliceK, makeInterfaceA, nilCheckA, eqA, AV.one, AV.plain, if_false, if_true, Nat.reduceEqDiff, reduceIte, Nat.reduceAdd, List.replicate, Nat.reduceLeDiff, Nat.reduceMul, Nat.reduceSub, Nat.reducePow, Int.reduceLT, Int.reduceLE, Int.reduceToNat, Int.reducePow, IntKind.bits, Int.reduceEq, Int.reduceMul, Int.reduceNeg, ne_eq, reduceCtorEq, escT, BEq.rfl, beq_self_eq_true, Int.reduceAdd, Int.reduceSub, Int.reduceMod, Int.reduceDiv, Nat.reduceMod, Nat.reduceDiv, Nat.reduceLT, cond_true, cond_false, gt_iff_lt, ge_iff_le, g6, g7, g9, g10, g11, hn, wi, wa, wb, n0, wc, YtjdnmejohadlbaaDoor.D58, ty2, ty3, ty4, ty149]
          try first
            | refine callThen_of (ofn _) ?_
            | refine callThen_of (adn _) ?_
            | refine callThen_of (tm _) ?_
        exact ih (m - 1) _ _ (by omega) ⟨n + 1, by omega, by simp [Fr.get, g6], by simp [Fr.get, rsS], by simp [Fr.get, g9], by simp [Fr.get, g10], by simp [Fr.get], rfl⟩
      · obtain rfl : n = 20 := by omega
        simp (maxSteps := 2000000) only [wk0, wk1, wk2, wk3, wk4, keepA, keepT, Fr.keep, frzT, flatT, arrayAtA, ownT, extT, Fr.ev, Fr.put, Fr.get, initFr, buildSliceA, zeros, pkB, pkT, pkF, ownDst, Env.kd, ofConst, isConst, binA, intI, cmpI, shiftI, convertA, buildA, fillA, fillS, splice, AV.cells?, storeA, readAt, fieldAddrA, fieldA, indexA, extractA, unA, builtinA, appendA, lenA, sliceCells, isSliceK, makeInterfaceA, nilCheckA, eqA, AV.one, AV.plain, if_false, if_true, Nat.reduceEqDiff, reduceIte, Nat.reduceAdd, List.replicate, Nat.reduceLeDiff, Nat.reduceMul, Nat.reduceSub, Nat.reducePow, Int.reduceLT, Int.reduceLE, Int.reduceToNat, Int.reducePow, IntKind.bits, Int.reduceEq, Int.reduceMul, Int.reduceNeg, ne_eq, reduceCtorEq, escT, BEq.rfl, beq_self_eq_true, Int.reduceAdd, Int.reduceSub, Int.reduceMod, Int.reduceDiv, Nat.reduceMod, Nat.reduceDiv, Nat.reduceLT, cond_true, cond_false, gt_iff_lt, ge_iff_le, g6, g7, g9, g10, g11, hn, YtjdnmejohadlbaaDoor.D58, ty2, ty3, ty4, ty149]
        repeat
          first
          | refine callThen_of (ad1 _) ?_
          | refine callThen_of (ofe _) ?_
          | refine callThen_of (ofL _) ?_
          | refine callThen_of (mu _) ?_
          | refine callThen_of (ad2 _) ?_
          | refine callThen_of (tw _) ?_
          | refine callThen_of (ro _) ?_
          | refine callThen_of (sf _) ?_
          simp (maxSteps := 2000000) only [wk0, wk1, wk2, wk3, wk4, keepA, keepT, Fr.keep, frzT, flatT, arrayAtA, ownT, extT, Fr.ev, Fr.put, Fr.get, initFr, buildSliceA, zeros, pkB, pkT, pkF, ownDst, Env.kd, ofConst, isConst, binA, intI, cmpI, shiftI, convertA, buildA, fillA, fillS, splice, AV.cells?, storeA, readAt, fieldAddrA, fieldA, indexA, extractA, unA, builtinA, appendA, lenA, sliceCells, isSliceK, makeInterfaceA, nilCheckA, eqA, AV.one, AV.plain, if_false, if_true, Nat.reduceEqDiff, reduceIte, Nat.reduceAdd, List.replicate, Nat.reduceLeDiff, Nat.reduceMul, Nat.reduceSub, Nat.reducePow, Int.reduceLT, Int.reduceLE, Int.reduceToNat, Int.reducePow, IntKind.bits, Int.reduceEq, Int.reduceMul, Int.reduceNeg, ne_eq, reduceCtorEq, escT, BEq.rfl, beq_self_eq_true, Int.reduceAdd, Int.reduceSub, Int.reduceMod, Int.reduceDiv, Nat.reduceMod, Nat.reduceDiv, Nat.reduceLT, cond_true, cond_false, gt_iff_lt, ge_iff_le, g6, g7, g9, g10, g11, hn, YtjdnmejohadlbaaDoor.D58, ty2, ty3, ty4, ty149]
        exact retB_plain (by simp [nmd_int]) rfl (by simp)
theorem sure06_ok (S : Heap) : Call theE 57 [] S (.bool true) S := by
  have e := fun S => exp_ok 0 S (by omega) (by unfold inI; omega)
  have l := fun S => log_ok 1073741824 30 S (by omega) (by omega)
  have d := fun S => decay_ok 1000 0 S (by omega) (by omega) (by unfold inI; omega)
  have b := fun S => log_bad 0 5 S (by omega)
  have nu := fun S => num53_given 1 S
  have q1 : expG 0 = 1073741824 := by decide +kernel
  have q2 : logV 1073741824 30 = 0 := by decide +kernel
  have q3 : decV 1000 0 = 1000 := by decide +kernel
  rw [q1] at e
  rw [q2] at l
  rw [q3] at d
  simp only [errA] at b
  refine Call.ofC Tryd.func57 YtjdnmejohadlbaaDoor.b57 YtjdnmejohadlbaaDoor.d57 YtjdnmejohadlbaaDoor.e57 (by simp [Tryd.f57]) ?_
  dsimp only [YtjdnmejohadlbaaDoor.c57, Tryd.f57, Option.getD_some]
  iterate 6
    simp (maxSteps := 2000000) only [wk0, wk1, wk2, wk3, wk4, keepA, keepT, Fr.keep, frzT, flatT, arrayAtA, ownT, extT, Fr.ev, Fr.put, Fr.get, initFr, buildSliceA, zeros, pkB, pkT, pkF, ownDst, Env.kd, ofConst, isConst, binA, intI, cmpI, shiftI, convertA, buildA, fillA, fillS, splice, AV.cells?, storeA, readAt, fieldAddrA, fieldA, indexA, extractA, unA, builtinA, appendA, lenA, sliceCells, isSliceK, makeInterfaceA, nilCheckA, eqA, AV.one, AV.plain, if_false, if_true, Nat.reduceEqDiff, reduceIte, Nat.reduceAdd, List.replicate, Nat.reduceLeDiff, Nat.reduceMul, Nat.reduceSub, Nat.reducePow, Int.reduceLT, Int.reduceLE, Int.reduceToNat, Int.reducePow, IntKind.bits, Int.reduceEq, Int.reduceMul, Int.reduceNeg, ne_eq, reduceCtorEq, escT, BEq.rfl, beq_self_eq_true, Int.reduceAdd, Int.reduceSub, Int.reduceMod, Int.reduceDiv, Nat.reduceMod, Nat.reduceDiv, Nat.reduceLT, cond_true, cond_false, gt_iff_lt, ge_iff_le, decide_true, decide_false, YtjdnmejohadlbaaDoor.D57, ty2, ty3, ty4, ty30]
    try first
      | refine callThen_of (e _) ?_
      | refine callThen_of (l _) ?_
      | refine callThen_of (d _) ?_
      | refine callThen_of (b _) ?_
      | refine callThen_of (nu _) ?_
  exact retB_plain (by simp [nmd_bool]) rfl (by simp)
theorem refPointedG_ok (n : Int) (S : Heap) : Call theE 56 [.int .i64 n] S (.bool (decide (0 ≤ n ∧ n ≤ 62))) S := by
  refine Call.ofC Tryd.func56 YtjdnmejohadlbaaDoor.b56 YtjdnmejohadlbaaDoor.d56 YtjdnmejohadlbaaDoor.e56 (by simp [Tryd.f56]) ?_
  dsimp only [YtjdnmejohadlbaaDoor.c56, Tryd.f56, Option.getD_some]
  by_cases h1 : 0 ≤ n <;> by_cases h2 : n ≤ 62
  all_goals
    simp (maxSteps := 2000000) only [wk0, wk1, wk2, wk3, wk4, keepA, keepT, Fr.keep, frzT, flatT, arrayAtA, ownT, extT, Fr.ev, Fr.put, Fr.get, initFr, buildSliceA, zeros, pkB, pkT, pkF, ownDst, Env.kd, ofConst, isConst, binA, intI, cmpI, shiftI, convertA, buildA, fillA, fillS, splice, AV.cells?, storeA, readAt, fieldAddrA, fieldA, indexA, extractA, unA, builtinA, appendA, lenA, sliceCells, isSliceK, makeInterfaceA, nilCheckA, eqA, AV.one, AV.plain, if_false, if_true, Nat.reduceEqDiff, reduceIte, Nat.reduceAdd, List.replicate, Nat.reduceLeDiff, Nat.reduceMul, Nat.reduceSub, Nat.reducePow, Int.reduceLT, Int.reduceLE, Int.reduceToNat, Int.reducePow, IntKind.bits, Int.reduceEq, Int.reduceMul, Int.reduceNeg, ne_eq, reduceCtorEq, escT, BEq.rfl, beq_self_eq_true, Int.reduceAdd, Int.reduceSub, Int.reduceMod, Int.reduceDiv, Nat.reduceMod, Nat.reduceDiv, Nat.reduceLT, cond_true, cond_false, gt_iff_lt, ge_iff_le, h1, h2, YtjdnmejohadlbaaDoor.D56, ty3, ty4]
    exact retB_plain (by simp [nmd_bool]) (by simp [packA, h1, h2]) (by simp)
theorem growSteps_ok (x a b : Int) (S : Heap) (hx : inI x) (ha : inI a) (hb : inI b) : Call theE 8 [.int .i64 x, .int .i64 a, .int .i64 b] S (.bool true) S := by
  have su := fun S => sure06_ok S
  have nu := fun S => num53_given 1 S
  have po := fun S => refPointedG_ok b S
  have lg : ∃ l e, (∀ S, Call theE 51 [.int .i64 a, .int .i64 b] S (.tup [.int .i64 l, e]) S) ∧ ((1 ≤ a ∧ a ≤ 4611686018427387903) ∧ (0 ≤ b ∧ b ≤ 62) ∧ e = .nili ∧ (∀ S, Call theE 58 [.int .i64 a, .int .i64 b] S (.int .i64 l) S) ∨ ¬ ((1 ≤ a ∧ a ≤ 4611686018427387903) ∧ (0 ≤ b ∧ b ≤ 62)) ∧ l = 0 ∧ e = errA 1) := by
    by_cases h : (1 ≤ a ∧ a ≤ 4611686018427387903) ∧ (0 ≤ b ∧ b ≤ 62)
    · exact ⟨_, _, fun S => log_ok a b S h.1 h.2, .inl ⟨h.1, h.2, rfl, fun S => refLog_ok a b S h.1 h.2⟩⟩
    · exact ⟨_, _, fun S => log_bad a b S h, .inr ⟨h, rfl, rfl⟩⟩
  obtain ⟨l, e, lgc, hl⟩ := lg
  rcases hl with ⟨ha1, hb1, rfl, rl⟩ | ⟨hbad, rfl, rfl⟩
  · have q1 : ¬ a < 1 := by omega
    have q2 : ¬ 4611686018427387903 < a := by omega
    have q2' : ¬ a < -4611686018427387903 := by omega
    rw [decide_eq_true hb1] at po
    by_cases hx0 : 0 < x
    · have e := fun S => exp_bad x S hx0
      have d := fun S => decay_bad a x S (.inl hx0)
      simp only [errA] at e d
      refine Call.ofC Tryd.func8 YtjdnmejohadlbaaDoor.b8 YtjdnmejohadlbaaDoor.d8 YtjdnmejohadlbaaDoor.e8 (by simp [Tryd.f8]) ?_
      dsimp only [YtjdnmejohadlbaaDoor.c8, Tryd.f8, Option.getD_some]
      simp (maxSteps := 2000000) only [wk0, wk1, wk2, wk3, wk4, keepA, keepT, Fr.keep, frzT, flatT, arrayAtA, ownT, extT, Fr.ev, Fr.put, Fr.get, initFr, buildSliceA, zeros, pkB, pkT, pkF, ownDst, Env.kd, ofConst, isConst, binA, intI, cmpI, shiftI, convertA, buildA, fillA, fillS, splice, AV.cells?, storeA, readAt, fieldAddrA, fieldA, indexA, extractA, unA, builtinA, appendA, lenA, sliceCells, isSliceK, makeInterfaceA, nilCheckA, eqA, AV.one, AV.plain, if_false, if_true, Nat.reduceEqDiff, reduceIte, Nat.reduceAdd, List.replicate, Nat.reduceLeDiff, Nat.reduceMul, Nat.reduceSub, Nat.reducePow, Int.reduceLT, Int.reduceLE, Int.reduceToNat, Int.reducePow, IntKind.bits, Int.reduceEq, Int.reduceMul, Int.reduceNeg, ne_eq, reduceCtorEq, escT, BEq.rfl, beq_self_eq_true, Int.reduceAdd, Int.reduceSub, Int.reduceMod, Int.reduceDiv, Nat.reduceMod, Nat.reduceDiv, Nat.reduceLT, cond_true, cond_false, gt_iff_lt, ge_iff_le, hx0, q1, q2, bneI, decide_true, decide_false, Bool.not_true, Bool.not_false, YtjdnmejohadlbaaDoor.D8, keep8, ty1, ty2, ty3, ty4, ty30, ty95]
      repeat
        first
        | refine callThen_of (e _) ?_
        | refine callThen_of (lgc _) ?_
        | refine callThen_of (d _) ?_
        | refine callThen_of (nu _) ?_
        | refine callThen_of (po _) ?_
        | refine callThen_of (rl _) ?_
        | refine callThen_of (su _) ?_
        simp (maxSteps := 2000000) only [wk0, wk1, wk2, wk3, wk4, keepA, keepT, Fr.keep, frzT, flatT, arrayAtA, ownT, extT, Fr.ev, Fr.put, Fr.get, initFr, buildSliceA, zeros, pkB, pkT, pkF, ownDst, Env.kd, ofConst, isConst, binA, intI, cmpI, shiftI, convertA, buildA, fillA, fillS, splice, AV.cells?, storeA, readAt, fieldAddrA, fieldA, indexA, extractA, unA, builtinA, appendA, lenA, sliceCells, isSliceK, makeInterfaceA, nilCheckA, eqA, AV.one, AV.plain, if_false, if_true, Nat.reduceEqDiff, reduceIte, Nat.reduceAdd, List.replicate, Nat.reduceLeDiff, Nat.reduceMul, Nat.reduceSub, Nat.reducePow, Int.reduceLT, Int.reduceLE, Int.reduceToNat, Int.reducePow, IntKind.bits, Int.reduceEq, Int.reduceMul, Int.reduceNeg, ne_eq, reduceCtorEq, escT, BEq.rfl, beq_self_eq_true, Int.reduceAdd, Int.reduceSub, Int.reduceMod, Int.reduceDiv, Nat.reduceMod, Nat.reduceDiv, Nat.reduceLT, cond_true, cond_false, gt_iff_lt, ge_iff_le, hx0, q1, q2, bneI, decide_true, decide_false, Bool.not_true, Bool.not_false, YtjdnmejohadlbaaDoor.D8, keep8, ty1, ty2, ty3, ty4, ty30, ty95]
      exact retB_plain (by simp [nmd_bool]) rfl (by simp)
    · have e := fun S => exp_ok x S (by omega) hx
      have re := fun S => refExp_ok x S (by omega) hx
      have d := fun S => decay_ok a x S (by omega) (by omega) hx
      have he := expG_in x
      have rd := fun S => refDot_ok _ _ [a] [expG x] 30 S (SlI.lst _) (SlI.lst _) (by omega) rfl (by simp) (by simpa using ha) (by simp; unfold inI; omega)
      rw [show dotZ [a] [expG x] = a * expG x by simp [dotZ]] at rd
      simp only [List.map_cons, List.map_nil, List.length_cons, List.length_nil, Nat.zero_add] at rd
      change ∀ S, Call theE _ [_, _, .int .i64 30] S (.tup [.int .i64 (decV a x), _]) S at rd
      generalize ovrB (rnd (a * expG x) (2 ^ 30)) = o at rd
      generalize decV a x = dv at *
      generalize expG x = ev at *
      refine Call.ofC Tryd.func8 YtjdnmejohadlbaaDoor.b8 YtjdnmejohadlbaaDoor.d8 YtjdnmejohadlbaaDoor.e8 (by simp [Tryd.f8]) ?_
      dsimp only [YtjdnmejohadlbaaDoor.c8, Tryd.f8, Option.getD_some]
      simp (maxSteps := 2000000) only [wk0, wk1, wk2, wk3, wk4, keepA, keepT, Fr.keep, frzT, flatT, arrayAtA, ownT, extT, Fr.ev, Fr.put, Fr.get, initFr, buildSliceA, zeros, pkB, pkT, pkF, ownDst, Env.kd, ofConst, isConst, binA, intI, cmpI, shiftI, convertA, buildA, fillA, fillS, splice, AV.cells?, storeA, readAt, fieldAddrA, fieldA, indexA, extractA, unA, builtinA, appendA, lenA, sliceCells, isSliceK, makeInterfaceA, nilCheckA, eqA, AV.one, AV.plain, if_false, if_true, Nat.reduceEqDiff, reduceIte, Nat.reduceAdd, List.replicate, Nat.reduceLeDiff, Nat.reduceMul, Nat.reduceSub, Nat.reducePow, Int.reduceLT, Int.reduceLE, Int.reduceToNat, Int.reducePow, IntKind.bits, Int.reduceEq, Int.reduceMul, Int.reduceNeg, ne_eq, reduceCtorEq, escT, BEq.rfl, beq_self_eq_true, Int.reduceAdd, Int.reduceSub, Int.reduceMod, Int.reduceDiv, Nat.reduceMod, Nat.reduceDiv, Nat.reduceLT, cond_true, cond_false, gt_iff_lt, ge_iff_le, hx0, q1, q2, q2', bneI, decide_true, decide_false, Bool.not_true, Bool.not_false, YtjdnmejohadlbaaDoor.D8, keep8, ty1, ty2, ty3, ty4, ty30, ty95]
      repeat
        first
        | refine callThen_of (e _) ?_
        | refine callThen_of (lgc _) ?_
        | refine callThen_of (d _) ?_
        | refine callThen_of (re _) ?_
        | refine callThen_of (rd _) ?_
        | refine callThen_of (po _) ?_
        | refine callThen_of (rl _) ?_
        | refine callThen_of (su _) ?_
        simp (maxSteps := 2000000) only [wk0, wk1, wk2, wk3, wk4, keepA, keepT, Fr.keep, frzT, flatT, arrayAtA, ownT, extT, Fr.ev, Fr.put, Fr.get, initFr, buildSliceA, zeros, pkB, pkT, pkF, ownDst, Env.kd, ofConst, isConst, binA, intI, cmpI, shiftI, convertA, buildA, fillA, fillS, splice, AV.cells?, storeA, readAt, fieldAddrA, fieldA, indexA, extractA, unA, builtinA, appendA, lenA, sliceCells, isSliceK, makeInterfaceA, nilCheckA, eqA, AV.one, AV.plain, if_false, if_true, Nat.reduceEqDiff, reduceIte, Nat.reduceAdd, List.replicate, Nat.reduceLeDiff, Nat.reduceMul, Nat.reduceSub, Nat.reducePow, Int.reduceLT, Int.reduceLE, Int.reduceToNat, Int.reducePow, IntKind.bits, Int.reduceEq, Int.reduceMul, Int.reduceNeg, ne_eq, reduceCtorEq, escT, BEq.rfl, beq_self_eq_true, Int.reduceAdd, Int.reduceSub, Int.reduceMod, Int.reduceDiv, Nat.reduceMod, Nat.reduceDiv, Nat.reduceLT, cond_true, cond_false, gt_iff_lt, ge_iff_le, hx0, q1, q2, q2', bneI, decide_true, decide_false, Bool.not_true, Bool.not_false, YtjdnmejohadlbaaDoor.D8, keep8, ty1, ty2, ty3, ty4, ty30, ty95]
      exact retB_plain (by simp [nmd_bool]) rfl (by simp)
  · simp only [errA] at lgc
    have hpo : ¬ a < 1 → ¬ 4611686018427387903 < a → decide (0 ≤ b ∧ b ≤ 62) = false := fun h1 h2 => decide_eq_false (fun h => hbad ⟨by omega, h⟩)
    by_cases hx0 : 0 < x
    · have e := fun S => exp_bad x S hx0
      have d := fun S => decay_bad a x S (.inl hx0)
      simp only [errA] at e d
      by_cases q1 : a < 1
      · refine Call.ofC Tryd.func8 YtjdnmejohadlbaaDoor.b8 YtjdnmejohadlbaaDoor.d8 YtjdnmejohadlbaaDoor.e8 (by simp [Tryd.f8]) ?_
        dsimp only [YtjdnmejohadlbaaDoor.c8, Tryd.f8, Option.getD_some]
        simp (maxSteps := 2000000) only [wk0, wk1, wk2, wk3, wk4, keepA, keepT, Fr.keep, frzT, flatT, arrayAtA, ownT, extT, Fr.ev, Fr.put, Fr.get, initFr, buildSliceA, zeros, pkB, pkT, pkF, ownDst, Env.kd, ofConst, isConst, binA, intI, cmpI, shiftI, convertA, buildA, fillA, fillS, splice, AV.cells?, storeA, readAt, fieldAddrA, fieldA, indexA, extractA, unA, builtinA, appendA, lenA, sliceCells, isSliceK, makeInterfaceA, nilCheckA, eqA, AV.one, AV.plain, if_false, if_true, Nat.reduceEqDiff, reduceIte, Nat.reduceAdd, List.replicate, Nat.reduceLeDiff, Nat.reduceMul, Nat.reduceSub, Nat.reducePow, Int.reduceLT, Int.reduceLE, Int.reduceToNat, Int.reducePow, IntKind.bits, Int.reduceEq, Int.reduceMul, Int.reduceNeg, ne_eq, reduceCtorEq, escT, BEq.rfl, beq_self_eq_true, Int.reduceAdd, Int.reduceSub, Int.reduceMod, Int.reduceDiv, Nat.reduceMod, Nat.reduceDiv, Nat.reduceLT, cond_true, cond_false, gt_iff_lt, ge_iff_le, hx0, q1, bneI, decide_true, decide_false, Bool.not_true, Bool.not_false, YtjdnmejohadlbaaDoor.D8, keep8, ty1, ty2, ty3, ty4, ty30, ty95]
        repeat
          first
          | refine callThen_of (e _) ?_
          | refine callThen_of (lgc _) ?_
          | refine callThen_of (d _) ?_
          | refine callThen_of (nu _) ?_
          | refine callThen_of (su _) ?_
          simp (maxSteps := 2000000) only [wk0, wk1, wk2, wk3, wk4, keepA, keepT, Fr.keep, frzT, flatT, arrayAtA, ownT, extT, Fr.ev, Fr.put, Fr.get, initFr, buildSliceA, zeros, pkB, pkT, pkF, ownDst, Env.kd, ofConst, isConst, binA, intI, cmpI, shiftI, convertA, buildA, fillA, fillS, splice, AV.cells?, storeA, readAt, fieldAddrA, fieldA, indexA, extractA, unA, builtinA, appendA, lenA, sliceCells, isSliceK, makeInterfaceA, nilCheckA, eqA, AV.one, AV.plain, if_false, if_true, Nat.reduceEqDiff, reduceIte, Nat.reduceAdd, List.replicate, Nat.reduceLeDiff, Nat.reduceMul, Nat.reduceSub, Nat.reducePow, Int.reduceLT, Int.reduceLE, Int.reduceToNat, Int.reducePow, IntKind.bits, Int.reduceEq, Int.reduceMul, Int.reduceNeg, ne_eq, reduceCtorEq, escT, BEq.rfl, beq_self_eq_true, Int.reduceAdd, Int.reduceSub, Int.reduceMod, Int.reduceDiv, Nat.reduceMod, Nat.reduceDiv, Nat.reduceLT, cond_true, cond_false, gt_iff_lt, ge_iff_le, hx0, q1, bneI, decide_true, decide_false, Bool.not_true, Bool.not_false, YtjdnmejohadlbaaDoor.D8, keep8, ty1, ty2, ty3, ty4, ty30, ty95]
        exact retB_plain (by simp [nmd_bool]) rfl (by simp)
      · by_cases q2 : 4611686018427387903 < a
        · refine Call.ofC Tryd.func8 YtjdnmejohadlbaaDoor.b8 YtjdnmejohadlbaaDoor.d8 YtjdnmejohadlbaaDoor.e8 (by simp [Tryd.f8]) ?_
          dsimp only [YtjdnmejohadlbaaDoor.c8, Tryd.f8, Option.getD_some]
          simp (maxSteps := 2000000) only [wk0, wk1, wk2, wk3, wk4, keepA, keepT, Fr.keep, frzT, flatT, arrayAtA, ownT, extT, Fr.ev, Fr.put, Fr.get, initFr, buildSliceA, zeros, pkB, pkT, pkF, ownDst, Env.kd, ofConst, isConst, binA, intI, cmpI, shiftI, convertA, buildA, fillA, fillS, splice, AV.cells?, storeA, readAt, fieldAddrA, fieldA, indexA, extractA, unA, builtinA, appendA, lenA, sliceCells, isSliceK, makeInterfaceA, nilCheckA, eqA, AV.one, AV.plain, if_false, if_true, Nat.reduceEqDiff, reduceIte, Nat.reduceAdd, List.replicate, Nat.reduceLeDiff, Nat.reduceMul, Nat.reduceSub, Nat.reducePow, Int.reduceLT, Int.reduceLE, Int.reduceToNat, Int.reducePow, IntKind.bits, Int.reduceEq, Int.reduceMul, Int.reduceNeg, ne_eq, reduceCtorEq, escT, BEq.rfl, beq_self_eq_true, Int.reduceAdd, Int.reduceSub, Int.reduceMod, Int.reduceDiv, Nat.reduceMod, Nat.reduceDiv, Nat.reduceLT, cond_true, cond_false, gt_iff_lt, ge_iff_le, hx0, q1, q2, bneI, decide_true, decide_false, Bool.not_true, Bool.not_false, YtjdnmejohadlbaaDoor.D8, keep8, ty1, ty2, ty3, ty4, ty30, ty95]
          repeat
            first
            | refine callThen_of (e _) ?_
            | refine callThen_of (lgc _) ?_
            | refine callThen_of (d _) ?_
            | refine callThen_of (nu _) ?_
            | refine callThen_of (su _) ?_
            simp (maxSteps := 2000000) only [wk0, wk1, wk2, wk3, wk4, keepA, keepT, Fr.keep, frzT, flatT, arrayAtA, ownT, extT, Fr.ev, Fr.put, Fr.get, initFr, buildSliceA, zeros, pkB, pkT, pkF, ownDst, Env.kd, ofConst, isConst, binA, intI, cmpI, shiftI, convertA, buildA, fillA, fillS, splice, AV.cells?, storeA, readAt, fieldAddrA, fieldA, indexA, extractA, unA, builtinA, appendA, lenA, sliceCells, isSliceK, makeInterfaceA, nilCheckA, eqA, AV.one, AV.plain, if_false, if_true, Nat.reduceEqDiff, reduceIte, Nat.reduceAdd, List.replicate, Nat.reduceLeDiff, Nat.reduceMul, Nat.reduceSub, Nat.reducePow, Int.reduceLT, Int.reduceLE, Int.reduceToNat, Int.reducePow, IntKind.bits, Int.reduceEq, Int.reduceMul, Int.reduceNeg, ne_eq, reduceCtorEq, escT, BEq.rfl, beq_self_eq_true, Int.reduceAdd, Int.reduceSub, Int.reduceMod, Int.reduceDiv, Nat.reduceMod, Nat.reduceDiv, Nat.reduceLT, cond_true, cond_false, gt_iff_lt, ge_iff_le, hx0, q1, q2, bneI, decide_true, decide_false, Bool.not_true, Bool.not_false, YtjdnmejohadlbaaDoor.D8, keep8, ty1, ty2, ty3, ty4, ty30, ty95]
          exact retB_plain (by simp [nmd_bool]) rfl (by simp)
        · rw [hpo q1 q2] at po
          refine Call.ofC Tryd.func8 YtjdnmejohadlbaaDoor.b8 YtjdnmejohadlbaaDoor.d8 YtjdnmejohadlbaaDoor.e8 (by simp [Tryd.f8]) ?_
          dsimp only [YtjdnmejohadlbaaDoor.c8, Tryd.f8, Option.getD_some]
          simp (maxSteps := 2000000) only [wk0, wk1, wk2, wk3, wk4, keepA, keepT, Fr.keep, frzT, flatT, arrayAtA, ownT, extT, Fr.ev, Fr.put, Fr.get, initFr, buildSliceA, zeros, pkB, pkT, pkF, ownDst, Env.kd, ofConst, isConst, binA, intI, cmpI, shiftI, convertA, buildA, fillA, fillS, splice, AV.cells?, storeA, readAt, fieldAddrA, fieldA, indexA, extractA, unA, builtinA, appendA, lenA, sliceCells, isSliceK, makeInterfaceA, nilCheckA, eqA, AV.one, AV.plain, if_false, if_true, Nat.reduceEqDiff, reduceIte, Nat.reduceAdd, List.replicate, Nat.reduceLeDiff, Nat.reduceMul, Nat.reduceSub, Nat.reducePow, Int.reduceLT, Int.reduceLE, Int.reduceToNat, Int.reducePow, IntKind.bits, Int.reduceEq, Int.reduceMul, Int.reduceNeg, ne_eq, reduceCtorEq, escT, BEq.rfl, beq_self_eq_true, Int.reduceAdd, Int.reduceSub, Int.reduceMod, Int.reduceDiv, Nat.reduceMod, Nat.reduceDiv, Nat.reduceLT, cond_true, cond_false, gt_iff_lt, ge_iff_le, hx0, q1, q2, bneI, decide_true, decide_false, Bool.not_true, Bool.not_false, YtjdnmejohadlbaaDoor.D8, keep8, ty1, ty2, ty3, ty4, ty30, ty95]
          repeat
            first
            | refine callThen_of (e _) ?_
            | refine callThen_of (lgc _) ?_
            | refine callThen_of (d _) ?_
            | refine callThen_of (nu _) ?_
            | refine callThen_of (po _) ?_
            | refine callThen_of (su _) ?_
            simp (maxSteps := 2000000) only [wk0, wk1, wk2, wk3, wk4, keepA, keepT, Fr.keep, frzT, flatT, arrayAtA, ownT, extT, Fr.ev, Fr.put, Fr.get, initFr, buildSliceA, zeros, pkB, pkT, pkF, ownDst, Env.kd, ofConst, isConst, binA, intI, cmpI, shiftI, convertA, buildA, fillA, fillS, splice, AV.cells?, storeA, readAt, fieldAddrA, fieldA, indexA, extractA, unA, builtinA, appendA, lenA, sliceCells, isSliceK, makeInterfaceA, nilCheckA, eqA, AV.one, AV.plain, if_false, if_true, Nat.reduceEqDiff, reduceIte, Nat.reduceAdd, List.replicate, Nat.reduceLeDiff, Nat.reduceMul, Nat.reduceSub, Nat.reducePow, Int.reduceLT, Int.reduceLE, Int.reduceToNat, Int.reducePow, IntKind.bits, Int.reduceEq, Int.reduceMul, Int.reduceNeg, ne_eq, reduceCtorEq, escT, BEq.rfl, beq_self_eq_true, Int.reduceAdd, Int.reduceSub, Int.reduceMod, Int.reduceDiv, Nat.reduceMod, Nat.reduceDiv, Nat.reduceLT, cond_true, cond_false, gt_iff_lt, ge_iff_le, hx0, q1, q2, bneI, decide_true, decide_false, Bool.not_true, Bool.not_false, YtjdnmejohadlbaaDoor.D8, keep8, ty1, ty2, ty3, ty4, ty30, ty95]
          exact retB_plain (by simp [nmd_bool]) rfl (by simp)
    · have e := fun S => exp_ok x S (by omega) hx
      have re := fun S => refExp_ok x S (by omega) hx
      by_cases hin : -4611686018427387903 ≤ a ∧ a ≤ 4611686018427387903
      · have d := fun S => decay_ok a x S (by omega) hin hx
        have he := expG_in x
        have rd := fun S => refDot_ok _ _ [a] [expG x] 30 S (SlI.lst _) (SlI.lst _) (by omega) rfl (by simp) (by simpa using ha) (by simp; unfold inI; omega)
        rw [show dotZ [a] [expG x] = a * expG x by simp [dotZ]] at rd
        simp only [List.map_cons, List.map_nil, List.length_cons, List.length_nil, Nat.zero_add] at rd
        change ∀ S, Call theE _ [_, _, .int .i64 30] S (.tup [.int .i64 (decV a x), _]) S at rd
        generalize ovrB (rnd (a * expG x) (2 ^ 30)) = o at rd
        generalize decV a x = dv at *
        generalize expG x = ev at *
        have q2 : ¬ 4611686018427387903 < a := by omega
        have q3 : ¬ a < -4611686018427387903 := by omega
        by_cases q1 : a < 1
        · refine Call.ofC Tryd.func8 YtjdnmejohadlbaaDoor.b8 YtjdnmejohadlbaaDoor.d8 YtjdnmejohadlbaaDoor.e8 (by simp [Tryd.f8]) ?_
          dsimp only [YtjdnmejohadlbaaDoor.c8, Tryd.f8, Option.getD_some]
          simp (maxSteps := 2000000) only [wk0, wk1, wk2, wk3, wk4, keepA, keepT, Fr.keep, frzT, flatT, arrayAtA, ownT, extT, Fr.ev, Fr.put, Fr.get, initFr, buildSliceA, zeros, pkB, pkT, pkF, ownDst, Env.kd, ofConst, isConst, binA, intI, cmpI, shiftI, convertA, buildA, fillA, fillS, splice, AV.cells?, storeA, readAt, fieldAddrA, fieldA, indexA, extractA, unA, builtinA, appendA, lenA, sliceCells, isSliceK, makeInterfaceA, nilCheckA, eqA, AV.one, AV.plain, if_false, if_true, Nat.reduceEqDiff, reduceIte, Nat.reduceAdd, List.replicate, Nat.reduceLeDiff, Nat.reduceMul, Nat.reduceSub, Nat.reducePow, Int.reduceLT, Int.reduceLE, Int.reduceToNat, Int.reducePow, IntKind.bits, Int.reduceEq, Int.reduceMul, Int.reduceNeg, ne_eq, reduceCtorEq, escT, BEq.rfl, beq_self_eq_true, Int.reduceAdd, Int.reduceSub, Int.reduceMod, Int.reduceDiv, Nat.reduceMod, Nat.reduceDiv, Nat.reduceLT, cond_true, cond_false, gt_iff_lt, ge_iff_le, hx0, q1, q2, q3, bneI, decide_true, decide_false, Bool.not_true, Bool.not_false, YtjdnmejohadlbaaDoor.D8, keep8, ty1, ty2, ty3, ty4, ty30, ty95]
          repeat
            first
            | refine callThen_of (e _) ?_
            | refine callThen_of (lgc _) ?_
            | refine callThen_of (d _) ?_
            | refine callThen_of (re _) ?_
            | refine callThen_of (rd _) ?_
            | refine callThen_of (nu _) ?_
            | refine callThen_of (su _) ?_
            simp (maxSteps := 2000000) only [wk0, wk1, wk2, wk3, wk4, keepA, keepT, Fr.keep, frzT, flatT, arrayAtA, ownT, extT, Fr.ev, Fr.put, Fr.get, initFr, buildSliceA, zeros, pkB, pkT, pkF, ownDst, Env.kd, ofConst, isConst, binA, intI, cmpI, shiftI, convertA, buildA, fillA, fillS, splice, AV.cells?, storeA, readAt, fieldAddrA, fieldA, indexA, extractA, unA, builtinA, appendA, lenA, sliceCells, isSliceK, makeInterfaceA, nilCheckA, eqA, AV.one, AV.plain, if_false, if_true, Nat.reduceEqDiff, reduceIte, Nat.reduceAdd, List.replicate, Nat.reduceLeDiff, Nat.reduceMul, Nat.reduceSub, Nat.reducePow, Int.reduceLT, Int.reduceLE, Int.reduceToNat, Int.reducePow, IntKind.bits, Int.reduceEq, Int.reduceMul, Int.reduceNeg, ne_eq, reduceCtorEq, escT, BEq.rfl, beq_self_eq_true, Int.reduceAdd, Int.reduceSub, Int.reduceMod, Int.reduceDiv, Nat.reduceMod, Nat.reduceDiv, Nat.reduceLT, cond_true, cond_false, gt_iff_lt, ge_iff_le, hx0, q1, q2, q3, bneI, decide_true, decide_false, Bool.not_true, Bool.not_false, YtjdnmejohadlbaaDoor.D8, keep8, ty1, ty2, ty3, ty4, ty30, ty95]
          exact retB_plain (by simp [nmd_bool]) rfl (by simp)
        · rw [hpo q1 q2] at po
          refine Call.ofC Tryd.func8 YtjdnmejohadlbaaDoor.b8 YtjdnmejohadlbaaDoor.d8 YtjdnmejohadlbaaDoor.e8 (by simp [Tryd.f8]) ?_
          dsimp only [YtjdnmejohadlbaaDoor.c8, Tryd.f8, Option.getD_some]
          simp (maxSteps := 2000000) only [wk0, wk1, wk2, wk3, wk4, keepA, keepT, Fr.keep, frzT, flatT, arrayAtA, ownT, extT, Fr.ev, Fr.put, Fr.get, initFr, buildSliceA, zeros, pkB, pkT, pkF, ownDst, Env.kd, ofConst, isConst, binA, intI, cmpI, shiftI, convertA, buildA, fillA, fillS, splice, AV.cells?, storeA, readAt, fieldAddrA, fieldA, indexA, extractA, unA, builtinA, appendA, lenA, sliceCells, isSliceK, makeInterfaceA, nilCheckA, eqA, AV.one, AV.plain, if_false, if_true, Nat.reduceEqDiff, reduceIte, Nat.reduceAdd, List.replicate, Nat.reduceLeDiff, Nat.reduceMul, Nat.reduceSub, Nat.reducePow, Int.reduceLT, Int.reduceLE, Int.reduceToNat, Int.reducePow, IntKind.bits, Int.reduceEq, Int.reduceMul, Int.reduceNeg, ne_eq, reduceCtorEq, escT, BEq.rfl, beq_self_eq_true, Int.reduceAdd, Int.reduceSub, Int.reduceMod, Int.reduceDiv, Nat.reduceMod, Nat.reduceDiv, Nat.reduceLT, cond_true, cond_false, gt_iff_lt, ge_iff_le, hx0, q1, q2, q3, bneI, decide_true, decide_false, Bool.not_true, Bool.not_false, YtjdnmejohadlbaaDoor.D8, keep8, ty1, ty2, ty3, ty4, ty30, ty95]
          repeat
            first
            | refine callThen_of (e _) ?_
            | refine callThen_of (lgc _) ?_
            | refine callThen_of (d _) ?_
            | refine callThen_of (re _) ?_
            | refine callThen_of (rd _) ?_
            | refine callThen_of (nu _) ?_
            | refine callThen_of (po _) ?_
            | refine callThen_of (su _) ?_
            simp (maxSteps := 2000000) only [wk0, wk1, wk2, wk3, wk4, keepA, keepT, Fr.keep, frzT, flatT, arrayAtA, ownT, extT, Fr.ev, Fr.put, Fr.get, initFr, buildSliceA, zeros, pkB, pkT, pkF, ownDst, Env.kd, ofConst, isConst, binA, intI, cmpI, shiftI, convertA, buildA, fillA, fillS, splice, AV.cells?, storeA, readAt, fieldAddrA, fieldA, indexA, extractA, unA, builtinA, appendA, lenA, sliceCells, isSliceK, makeInterfaceA, nilCheckA, eqA, AV.one, AV.plain, if_false, if_true, Nat.reduceEqDiff, reduceIte, Nat.reduceAdd, List.replicate, Nat.reduceLeDiff, Nat.reduceMul, Nat.reduceSub, Nat.reducePow, Int.reduceLT, Int.reduceLE, Int.reduceToNat, Int.reducePow, IntKind.bits, Int.reduceEq, Int.reduceMul, Int.reduceNeg, ne_eq, reduceCtorEq, escT, BEq.rfl, beq_self_eq_true, Int.reduceAdd, Int.reduceSub, Int.reduceMod, Int.reduceDiv, Nat.reduceMod, Nat.reduceDiv, Nat.reduceLT, cond_true, cond_false, gt_iff_lt, ge_iff_le, hx0, q1, q2, q3, bneI, decide_true, decide_false, Bool.not_true, Bool.not_false, YtjdnmejohadlbaaDoor.D8, keep8, ty1, ty2, ty3, ty4, ty30, ty95]
          exact retB_plain (by simp [nmd_bool]) rfl (by simp)
      · have d := fun S => decay_bad a x S (by omega)
        simp only [errA] at d
        generalize expG x = ev at *
        by_cases q2 : 4611686018427387903 < a
        · have q1 : ¬ a < 1 := by omega
          refine Call.ofC Tryd.func8 YtjdnmejohadlbaaDoor.b8 YtjdnmejohadlbaaDoor.d8 YtjdnmejohadlbaaDoor.e8 (by simp [Tryd.f8]) ?_
          dsimp only [YtjdnmejohadlbaaDoor.c8, Tryd.f8, Option.getD_some]
          simp (maxSteps := 2000000) only [wk0, wk1, wk2, wk3, wk4, keepA, keepT, Fr.keep, frzT, flatT, arrayAtA, ownT, extT, Fr.ev, Fr.put, Fr.get, initFr, buildSliceA, zeros, pkB, pkT, pkF, ownDst, Env.kd, ofConst, isConst, binA, intI, cmpI, shiftI, convertA, buildA, fillA, fillS, splice, AV.cells?, storeA, readAt, fieldAddrA, fieldA, indexA, extractA, unA, builtinA, appendA, lenA, sliceCells, isSliceK, makeInterfaceA, nilCheckA, eqA, AV.one, AV.plain, if_false, if_true, Nat.reduceEqDiff, reduceIte, Nat.reduceAdd, List.replicate, Nat.reduceLeDiff, Nat.reduceMul, Nat.reduceSub, Nat.reducePow, Int.reduceLT, Int.reduceLE, Int.reduceToNat, Int.reducePow, IntKind.bits, Int.reduceEq, Int.reduceMul, Int.reduceNeg, ne_eq, reduceCtorEq, escT, BEq.rfl, beq_self_eq_true, Int.reduceAdd, Int.reduceSub, Int.reduceMod, Int.reduceDiv, Nat.reduceMod, Nat.reduceDiv, Nat.reduceLT, cond_true, cond_false, gt_iff_lt, ge_iff_le, hx0, q1, q2, bneI, decide_true, decide_false, Bool.not_true, Bool.not_false, YtjdnmejohadlbaaDoor.D8, keep8, ty1, ty2, ty3, ty4, ty30, ty95]
          repeat
            first
            | refine callThen_of (e _) ?_
            | refine callThen_of (lgc _) ?_
            | refine callThen_of (d _) ?_
            | refine callThen_of (re _) ?_
            | refine callThen_of (nu _) ?_
            | refine callThen_of (su _) ?_
            simp (maxSteps := 2000000) only [wk0, wk1, wk2, wk3, wk4, keepA, keepT, Fr.keep, frzT, flatT, arrayAtA, ownT, extT, Fr.ev, Fr.put, Fr.get, initFr, buildSliceA, zeros, pkB, pkT, pkF, ownDst, Env.kd, ofConst, isConst, binA, intI, cmpI, shiftI, convertA, buildA, fillA, fillS, splice, AV.cells?, storeA, readAt, fieldAddrA, fieldA, indexA, extractA, unA, builtinA, appendA, lenA, sliceCells, isSliceK, makeInterfaceA, nilCheckA, eqA, AV.one, AV.plain, if_false, if_true, Nat.reduceEqDiff, reduceIte, Nat.reduceAdd, List.replicate, Nat.reduceLeDiff, Nat.reduceMul, Nat.reduceSub, Nat.reducePow, Int.reduceLT, Int.reduceLE, Int.reduceToNat, Int.reducePow, IntKind.bits, Int.reduceEq, Int.reduceMul, Int.reduceNeg, ne_eq, reduceCtorEq, escT, BEq.rfl, beq_self_eq_true, Int.reduceAdd, Int.reduceSub, Int.reduceMod, Int.reduceDiv, Nat.reduceMod, Nat.reduceDiv, Nat.reduceLT, cond_true, cond_false, gt_iff_lt, ge_iff_le, hx0, q1, q2, bneI, decide_true, decide_false, Bool.not_true, Bool.not_false, YtjdnmejohadlbaaDoor.D8, keep8, ty1, ty2, ty3, ty4, ty30, ty95]
          exact retB_plain (by simp [nmd_bool]) rfl (by simp)
        · have q3 : a < -4611686018427387903 := by omega
          have q1 : a < 1 := by omega
          refine Call.ofC Tryd.func8 YtjdnmejohadlbaaDoor.b8 YtjdnmejohadlbaaDoor.d8 YtjdnmejohadlbaaDoor.e8 (by simp [Tryd.f8]) ?_
          dsimp only [YtjdnmejohadlbaaDoor.c8, Tryd.f8, Option.getD_some]
          simp (maxSteps := 2000000) only [wk0, wk1, wk2, wk3, wk4, keepA, keepT, Fr.keep, frzT, flatT, arrayAtA, ownT, extT, Fr.ev, Fr.put, Fr.get, initFr, buildSliceA, zeros, pkB, pkT, pkF, ownDst, Env.kd, ofConst, isConst, binA, intI, cmpI, shiftI, convertA, buildA, fillA, fillS, splice, AV.cells?, storeA, readAt, fieldAddrA, fieldA, indexA, extractA, unA, builtinA, appendA, lenA, sliceCells, isSliceK, makeInterfaceA, nilCheckA, eqA, AV.one, AV.plain, if_false, if_true, Nat.reduceEqDiff, reduceIte, Nat.reduceAdd, List.replicate, Nat.reduceLeDiff, Nat.reduceMul, Nat.reduceSub, Nat.reducePow, Int.reduceLT, Int.reduceLE, Int.reduceToNat, Int.reducePow, IntKind.bits, Int.reduceEq, Int.reduceMul, Int.reduceNeg, ne_eq, reduceCtorEq, escT, BEq.rfl, beq_self_eq_true, Int.reduceAdd, Int.reduceSub, Int.reduceMod, Int.reduceDiv, Nat.reduceMod, Nat.reduceDiv, Nat.reduceLT, cond_true, cond_false, gt_iff_lt, ge_iff_le, hx0, q1, q2, q3, bneI, decide_true, decide_false, Bool.not_true, Bool.not_false, YtjdnmejohadlbaaDoor.D8, keep8, ty1, ty2, ty3, ty4, ty30, ty95]
          repeat
            first
            | refine callThen_of (e _) ?_
            | refine callThen_of (lgc _) ?_
            | refine callThen_of (d _) ?_
            | refine callThen_of (re _) ?_
            | refine callThen_of (nu _) ?_
            | refine callThen_of (su _) ?_
            simp (maxSteps := 2000000) only [wk0, wk1, wk2, wk3, wk4, keepA, keepT, Fr.keep, frzT, flatT, arrayAtA, ownT, extT, Fr.ev, Fr.put, Fr.get, initFr, buildSliceA, zeros, pkB, pkT, pkF, ownDst, Env.kd, ofConst, isConst, binA, intI, cmpI, shiftI, convertA, buildA, fillA, fillS, splice, AV.cells?, storeA, readAt, fieldAddrA, fieldA, indexA, extractA, unA, builtinA, appendA, lenA, sliceCells, isSliceK, makeInterfaceA, nilCheckA, eqA, AV.one, AV.plain, if_false, if_true, Nat.reduceEqDiff, reduceIte, Nat.reduceAdd, List.replicate, Nat.reduceLeDiff, Nat.reduceMul, Nat.reduceSub, Nat.reducePow, Int.reduceLT, Int.reduceLE, Int.reduceToNat, Int.reducePow, IntKind.bits, Int.reduceEq, Int.reduceMul, Int.reduceNeg, ne_eq, reduceCtorEq, escT, BEq.rfl, beq_self_eq_true, Int.reduceAdd, Int.reduceSub, Int.reduceMod, Int.reduceDiv, Nat.reduceMod, Nat.reduceDiv, Nat.reduceLT, cond_true, cond_false, gt_iff_lt, ge_iff_le, hx0, q1, q2, q3, bneI, decide_true, decide_false, Bool.not_true, Bool.not_false, YtjdnmejohadlbaaDoor.D8, keep8, ty1, ty2, ty3, ty4, ty30, ty95]
          exact retB_plain (by simp [nmd_bool]) rfl (by simp)
end Go.Proofs.YtjdnmejohadlbaaDoor
