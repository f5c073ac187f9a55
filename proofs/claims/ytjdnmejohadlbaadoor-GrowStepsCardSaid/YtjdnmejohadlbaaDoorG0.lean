/- grow: powers and logarithms, step by step. -/
import Derived.Test.YtjdnmejohadlbaaDoorQ8
import Derived.Test.YtjdnmejohadlbaaDoorD9
import Derived.Test.YtjdnmejohadlbaaDoorP7
import Derived.Test.YtjdnmejohadlbaaDoorEvV
set_option linter.unusedSimpArgs false
set_option linter.unusedVariables false
set_option maxRecDepth 100000
set_option maxHeartbeats 4000000
namespace Go.Proofs.YtjdnmejohadlbaaDoor
theorem rndG_le {z p C : Int} (hp : 0 < p) (h : -(C * p) ≤ z ∧ z ≤ C * p) : -C ≤ rnd z p ∧ rnd z p ≤ C := by
  have e1 := Int.mul_ediv_add_emod z p
  have e2 := Int.emod_nonneg z (show p ≠ 0 by omega)
  have e3 := Int.emod_lt_of_pos z hp
  have h1 : z / p ≤ C := Int.ediv_le_of_le_mul hp h.2
  have h2 : -C ≤ z / p := by rw [Int.le_ediv_iff_mul_le hp, Int.neg_mul]; exact h.1
  unfold rnd
  refine ⟨by split <;> omega, ?_⟩
  rcases Int.lt_or_eq_of_le h1 with h3 | h3
  · split <;> omega
  · have h4 : z % p = 0 := by
      rw [h3, Int.mul_comm] at e1
      omega
    rw [if_neg (by omega)]; omega
theorem rndG_pos {z p : Int} (hp : 0 < p) (h : 0 ≤ z) : 0 ≤ rnd z p := by
  have h1 : 0 ≤ z / p := Int.ediv_nonneg h (by omega)
  unfold rnd
  split <;> omega
/-- A product with fifty bits behind the point. -/
def tmG (a b : Int) : Int := bndI (rnd (a * b) (2 ^ 50))
def oneG : Int := 1125899906842624
theorem tmG_in {a b : Int} (ha : 0 ≤ a ∧ a ≤ 1125899906842624) (hb : 0 ≤ b ∧ b ≤ 1125899906842624) : 0 ≤ tmG a b ∧ tmG a b ≤ a := by
  have h1 : 0 ≤ a * b := Int.mul_nonneg ha.1 hb.1
  have h2 : a * b ≤ a * 1125899906842624 := Int.mul_le_mul_of_nonneg_left hb.2 ha.1
  have h3 := rndG_pos (z := a * b) (p := 2 ^ 50) (by decide) h1
  have h4 := rndG_le (z := a * b) (p := 2 ^ 50) (C := a) (by decide) (by
    have e : (2 : Int) ^ 50 = 1125899906842624 := by decide
    rw [e]; omega)
  unfold tmG bndI
  omega
def fT (r : Int) : Nat → Int
  | 0 => 1125899906842624
  | n + 1 => (tmG (fT r n) r).tdiv ((n + 1 : Nat) : Int)
def fS (r : Int) : Nat → Int
  | 0 => 1125899906842624
  | n + 1 => if (n + 1) % 2 = 1 then fS r n - fT r (n + 1) else fS r n + fT r (n + 1)
theorem tdiv_in {a d B : Int} (ha : 0 ≤ a ∧ a ≤ B) (hd : 1 ≤ d) : 0 ≤ a.tdiv d ∧ a.tdiv d ≤ B := by
  rw [Int.tdiv_eq_ediv_of_nonneg ha.1]
  have h1 := Int.ediv_nonneg ha.1 (show 0 ≤ d by omega)
  have h2 := Int.ediv_le_self d ha.1
  omega
theorem fT_in {r : Int} (hr : 0 ≤ r ∧ r ≤ 1125899906842624) (n : Nat) : 0 ≤ fT r n ∧ fT r n ≤ 1125899906842624 := by
  induction n with
  | zero => unfold fT; omega
  | succ n ih =>
    have h := tmG_in ih hr
    exact tdiv_in ⟨h.1, by omega⟩ (by omega)
theorem fS_in {r : Int} (hr : 0 ≤ r ∧ r ≤ 1125899906842624) (n : Nat) : -((n + 1 : Nat) : Int) * 1125899906842624 ≤ fS r n ∧ fS r n ≤ ((n + 1 : Nat) : Int) * 1125899906842624 := by
  induction n with
  | zero => unfold fS; omega
  | succ n ih =>
    have h := fT_in hr (n + 1)
    unfold fS
    split <;> omega
/-- What two to the power of sixty-three, and more, leaves of a number of 62 bits. -/
theorem rnd_far {z : Int} (k : Nat) (hk : 63 ≤ k) (h : -4611686018427387904 ≤ z ∧ z ≤ 4611686018427387904) : rnd z (2 ^ k) = 0 := by
  have hp : (9223372036854775808 : Int) ≤ 2 ^ k := by
    obtain ⟨j, rfl⟩ : ∃ j, k = 63 + j := ⟨k - 63, by omega⟩
    rw [Int.pow_add]
    have h1 : (1 : Int) ≤ 2 ^ j := Int.pow_pos (by decide)
    have h2 : (2 : Int) ^ 63 = 9223372036854775808 := by decide
    rw [h2]
    omega
  generalize (2 : Int) ^ k = p at *
  have e1 := Int.mul_ediv_add_emod z p
  have e2 := Int.emod_nonneg z (show p ≠ 0 by omega)
  have e3 := Int.emod_lt_of_pos z (show 0 < p by omega)
  unfold rnd
  rcases Int.lt_or_le z 0 with hz | hz
  · have hq : z / p = -1 := by
      have h1 : z / p < 0 := Int.ediv_neg_of_neg_of_pos hz (by omega)
      have h2 : -1 ≤ z / p := by rw [Int.le_ediv_iff_mul_le (by omega)]; omega
      omega
    rw [hq] at e1 ⊢
    rw [if_pos (by omega)]; rfl
  · have hq : z / p = 0 := Int.ediv_eq_zero_of_lt hz (by omega)
    rw [hq] at e1 ⊢
    rw [if_neg (by omega)]; rfl
/-- e to the power of a number that is not above 0. -/
def expG (x : Int) : Int :=
  if x < -47185920 then 0 else bndI (rnd (fS (-x * 1073741824 % 780414346020670) 20) (2 ^ (20 + (-x * 1073741824 / 780414346020670).toNat)))
theorem expG_in (x : Int) : -4611686018427387903 ≤ expG x ∧ expG x ≤ 4611686018427387903 := by
  unfold expG
  split
  · omega
  · unfold bndI; omega
noncomputable def c180 : Code := Tryd.f180.body.getD .skip
theorem b180 : Tryd.f180.body = some c180 := rfl
theorem d180 : fnOk Tryd.f180 c180 = true := by kernel_rfl
def D180 : Nat → List Tag := fun _ => []
theorem e180 : drawsOk D180 c180 = true := by kernel_rfl
noncomputable def c114 : Code := Tryd.f114.body.getD .skip
theorem b114 : Tryd.f114.body = some c114 := rfl
theorem d114 : fnOk Tryd.f114 c114 = true := by kernel_rfl
def D114 : Nat → List Tag := fun _ => []
theorem e114 : drawsOk D114 c114 = true := by kernel_rfl
noncomputable def c50 : Code := Tryd.f50.body.getD .skip
theorem b50 : Tryd.f50.body = some c50 := rfl
theorem d50 : fnOk Tryd.f50 c50 = true := by kernel_rfl
def D50 : Nat → List Tag := fun _ => []
theorem e50 : drawsOk D50 c50 = true := by kernel_rfl
noncomputable def c52 : Code := Tryd.f52.body.getD .skip
theorem b52 : Tryd.f52.body = some c52 := rfl
theorem d52 : fnOk Tryd.f52 c52 = true := by kernel_rfl
def D52 : Nat → List Tag := fun _ => []
theorem e52 : drawsOk D52 c52 = true := by kernel_rfl
noncomputable def c120 : Code := Tryd.f120.body.getD .skip
theorem b120 : Tryd.f120.body = some c120 := rfl
theorem d120 : fnOk Tryd.f120 c120 = true := by kernel_rfl
def D120 : Nat → List Tag := fun _ => []
theorem e120 : drawsOk D120 c120 = true := by kernel_rfl
noncomputable def c54 : Code := Tryd.f54.body.getD .skip
theorem b54 : Tryd.f54.body = some c54 := rfl
theorem d54 : fnOk Tryd.f54 c54 = true := by kernel_rfl
def D54 : Nat → List Tag
  | 4 => [.quiet, .quiet, .quiet, .pure, .pure, .pure, .twin, .twin, .seq, .seq]
  | 11 => [.quiet, .pure, .quiet, .seq, .seq]
  | 12 => [.quiet, .pure, .quiet, .seq, .seq]
  | 14 => [.quiet, .quiet, .quiet, .pure, .quiet, .seq, .seq, .pure]
  | _ => []
theorem e54 : drawsOk D54 c54 = true := by kernel_rfl
theorem timesG_ok (a b : Int) (S : Heap) (ha : inI a) (hb : inI b) : Call theE 180 [.int .i64 a, .int .i64 b] S (.int .i64 (tmG a b)) S := by
  have m := fun S => mul_ok a b 50 S (by omega) ha hb
  change ∀ S, Call theE _ [_, _, .int .i64 50] _ (.tup [.int .i64 (tmG a b), _, _]) _ at m
  generalize ovrB (rnd (a * b) (2 ^ 50)) = o at m
  refine Call.ofC Tryd.func180 YtjdnmejohadlbaaDoor.b180 YtjdnmejohadlbaaDoor.d180 YtjdnmejohadlbaaDoor.e180 (by simp [Tryd.f180]) ?_
  dsimp only [YtjdnmejohadlbaaDoor.c180, Tryd.f180, Option.getD_some]
  iterate 2
    simp (maxSteps := 2000000) only [wk0, wk1, wk2, wk3, wk4, keepA, keepT, Fr.keep, frzT, flatT, arrayAtA, ownT, extT, Fr.ev, Fr.put, Fr.get, initFr, buildSliceA, zeros, pkB, pkT, pkF, ownDst, Env.kd, ofConst, isConst, binA, intI, cmpI, shiftI, convertA, buildA, fillA, fillS, splice, AV.cells?, storeA, readAt, fieldAddrA, fieldA, indexA, extractA, unA, builtinA, appendA, lenA, sliceCells, isSliceK, makeInterfaceA, nilCheckA, eqA, AV.one, AV.plain, if_false, if_true, Nat.reduceEqDiff, reduceIte, Nat.reduceAdd, List.replicate, Nat.reduceLeDiff, Nat.reduceMul, Nat.reduceSub, Nat.reducePow, Int.reduceLT, Int.reduceLE, Int.reduceToNat, Int.reducePow, IntKind.bits, Int.reduceEq, Int.reduceMul, Int.reduceNeg, ne_eq, reduceCtorEq, escT, BEq.rfl, beq_self_eq_true, Int.reduceAdd, Int.reduceSub, Int.reduceMod, Int.reduceDiv, Nat.reduceMod, Nat.reduceDiv, Nat.reduceLT, cond_true, cond_false, gt_iff_lt, ge_iff_le, YtjdnmejohadlbaaDoor.D180, ty2, ty3, ty4, ty30]
    try first
      | refine callThen_of (m _) ?_
  exact retB_plain (by simp [nmd_int]) rfl (by simp)
theorem refTimes_ok (a b : Int) (S : Heap) (ha : inI a) (hb : inI b) : Call theE 120 [.int .i64 a, .int .i64 b] S (.int .i64 (tmG a b)) S := by
  have m := fun S => refDot_ok _ _ [a] [b] 50 S (SlI.lst _) (SlI.lst _) (by omega) rfl (by simp) (by simpa using ha) (by simpa using hb)
  rw [show dotZ [a] [b] = a * b by simp [dotZ]] at m
  simp only [List.map_cons, List.map_nil, List.length_cons, List.length_nil, Nat.zero_add] at m
  change ∀ S, Call theE _ [_, _, .int .i64 50] _ (.tup [.int .i64 (tmG a b), _]) _ at m
  generalize ovrB (rnd (a * b) (2 ^ 50)) = o at m
  refine Call.ofC Tryd.func120 YtjdnmejohadlbaaDoor.b120 YtjdnmejohadlbaaDoor.d120 YtjdnmejohadlbaaDoor.e120 (by simp [Tryd.f120]) ?_
  dsimp only [YtjdnmejohadlbaaDoor.c120, Tryd.f120, Option.getD_some]
  iterate 2
    simp (maxSteps := 2000000) only [wk0, wk1, wk2, wk3, wk4, keepA, keepT, Fr.keep, frzT, flatT, arrayAtA, ownT, extT, Fr.ev, Fr.put, Fr.get, initFr, buildSliceA, zeros, pkB, pkT, pkF, ownDst, Env.kd, ofConst, isConst, binA, intI, cmpI, shiftI, convertA, buildA, fillA, fillS, splice, AV.cells?, storeA, readAt, fieldAddrA, fieldA, indexA, extractA, unA, builtinA, appendA, lenA, sliceCells, isSliceK, makeInterfaceA, nilCheckA, eqA, AV.one, AV.plain, if_false, if_true, Nat.reduceEqDiff, reduceIte, Nat.reduceAdd, List.replicate, Nat.reduceLeDiff, Nat.reduceMul, Nat.reduceSub, Nat.reducePow, Int.reduceLT, Int.reduceLE, Int.reduceToNat, Int.reducePow, IntKind.bits, Int.reduceEq, Int.reduceMul, Int.reduceNeg, ne_eq, reduceCtorEq, escT, BEq.rfl, beq_self_eq_true, Int.reduceAdd, Int.reduceSub, Int.reduceMod, Int.reduceDiv, Nat.reduceMod, Nat.reduceDiv, Nat.reduceLT, cond_true, cond_false, gt_iff_lt, ge_iff_le, YtjdnmejohadlbaaDoor.D120, ty1, ty2, ty3, ty4, ty95]
    try first
      | refine callThen_of (m _) ?_
  exact retB_plain (by simp [nmd_int]) rfl (by simp)
theorem fall_ok (r : Int) (S : Heap) (hr : 0 ≤ r ∧ r ≤ 1125899906842624) : Call theE 114 [.int .i64 r] S (.int .i64 (fS r 20)) S := by
  refine Call.ofC Tryd.func114 YtjdnmejohadlbaaDoor.b114 YtjdnmejohadlbaaDoor.d114 YtjdnmejohadlbaaDoor.e114 (by simp [Tryd.f114]) ?_
  dsimp only [YtjdnmejohadlbaaDoor.c114, Tryd.f114, Option.getD_some]
  simp (maxSteps := 2000000) only [wk0, wk1, wk2, wk3, wk4, keepA, keepT, Fr.keep, frzT, flatT, arrayAtA, ownT, extT, Fr.ev, Fr.put, Fr.get, initFr, buildSliceA, zeros, pkB, pkT, pkF, ownDst, Env.kd, ofConst, isConst, binA, intI, cmpI, shiftI, convertA, buildA, fillA, fillS, splice, AV.cells?, storeA, readAt, fieldAddrA, fieldA, indexA, extractA, unA, builtinA, appendA, lenA, sliceCells, isSliceK, makeInterfaceA, nilCheckA, eqA, AV.one, AV.plain, if_false, if_true, Nat.reduceEqDiff, reduceIte, Nat.reduceAdd, List.replicate, Nat.reduceLeDiff, Nat.reduceMul, Nat.reduceSub, Nat.reducePow, Int.reduceLT, Int.reduceLE, Int.reduceToNat, Int.reducePow, IntKind.bits, Int.reduceEq, Int.reduceMul, Int.reduceNeg, ne_eq, reduceCtorEq, escT, BEq.rfl, beq_self_eq_true, Int.reduceAdd, Int.reduceSub, Int.reduceMod, Int.reduceDiv, Nat.reduceMod, Nat.reduceDiv, Nat.reduceLT, cond_true, cond_false, gt_iff_lt, ge_iff_le, YtjdnmejohadlbaaDoor.D114, ty2, ty4]
  refine loopC_ind (fun m fr H => ∃ j : Nat, j + m = 20 ∧ fr.get 0 = .int .i64 r ∧ fr.get 3 = .int .i64 (fT r j) ∧ fr.get 4 = .int .i64 (fS r j) ∧ fr.get 5 = .int .i64 ((j + 1 : Nat) : Int) ∧ H = S) ?_ (n := 20) ⟨0, by omega, rfl, rfl, rfl, rfl, rfl⟩
  rintro m fr H ⟨j, hjm, g0, g3, g4, g5, rfl⟩ ih
  by_cases hj : ((j + 1 : Nat) : Int) ≤ 20
  · have h1 := fT_in hr j
    have h2 := fT_in hr (j + 1)
    have h3 := fS_in hr j
    have h4 := tmG_in h1 hr
    have tm := fun S => timesG_ok (fT r j) r S (by unfold inI; omega) (by unfold inI; omega)
    have wi : IntKind.i64.wrap (((j + 1 : Nat) : Int) + 1) = ((j + 1 + 1 : Nat) : Int) := wrapI (by omega)
    have e : (tmG (fT r j) r).tdiv ((j + 1 : Nat) : Int) = fT r (j + 1) := rfl
    have we : IntKind.i64.wrap (fT r (j + 1)) = fT r (j + 1) := wrapI (by omega)
    have n0 : ¬ ((j + 1 : Nat) : Int) = 0 := by omega
    have em : Int.tmod ((j + 1 : Nat) : Int) 2 = (((j + 1) % 2 : Nat) : Int) := by rw [Int.tmod_eq_emod_of_nonneg (by omega)]; rfl
    by_cases ho : (j + 1) % 2 = 1
    · have ho1 : ((((j + 1) % 2 : Nat) : Int) = 1) = True := eq_true (by omega)
      have ws : IntKind.i64.wrap (fS r j - fT r (j + 1)) = fS r j - fT r (j + 1) := wrapI (by omega)
      have es : fS r (j + 1) = fS r j - fT r (j + 1) := by rw [fS, if_pos ho]
      iterate 2
        simp (maxSteps := 2000000) only [wk0, wk1, wk2, wk3, wk4, keepA, keepT, Fr.keep, frzT, flatT, arrayAtA, ownT, extT, Fr.ev, Fr.put, Fr.get, initFr, buildSliceA, zeros, pkB, pkT, pkF, ownDst, Env.kd, ofConst, isConst, binA, intI, cmpI, shiftI, convertA, buildA, fillA, fillS, splice, AV.cells?, storeA, readAt, fieldAddrA, fieldA, indexA, extractA, unA, builtinA, appendA, lenA, sliceCells, isSliceK, makeInterfaceA, nilCheckA, eqA, AV.one, AV.plain, if_false, if_true, Nat.reduceEqDiff, reduceIte, Nat.reduceAdd, List.replicate, Nat.reduceLeDiff, Nat.reduceMul, Nat.reduceSub, Nat.reducePow, Int.reduceLT, Int.reduceLE, Int.reduceToNat, Int.reducePow, IntKind.bits, Int.reduceEq, Int.reduceMul, Int.reduceNeg, ne_eq, reduceCtorEq, escT, BEq.rfl, beq_self_eq_true, Int.reduceAdd, Int.reduceSub, Int.reduceMod, Int.reduceDiv, Nat.reduceMod, Nat.reduceDiv, Nat.reduceLT, cond_true, cond_false, gt_iff_lt, ge_iff_le, g0, g3, g4, g5, hj, wi, e, we, n0, em, ho1, ws, YtjdnmejohadlbaaDoor.D114, ty2, ty4]
        try first
          | refine callThen_of (tm _) ?_
      exact ih (m - 1) _ _ (by omega) ⟨j + 1, by omega, by simp [Fr.get, g0], by simp [Fr.get], by rw [es]; simp [Fr.get], by simp [Fr.get], rfl⟩
    · have ho1 : ((((j + 1) % 2 : Nat) : Int) = 1) = False := eq_false (by omega)
      have ws : IntKind.i64.wrap (fS r j + fT r (j + 1)) = fS r j + fT r (j + 1) := wrapI (by omega)
      have es : fS r (j + 1) = fS r j + fT r (j + 1) := by rw [fS, if_neg ho]
      iterate 2
        simp (maxSteps := 2000000) only [wk0, wk1, wk2, wk3, wk4, keepA, keepT, Fr.keep, frzT, flatT, arrayAtA, ownT, extT, Fr.ev, Fr.put, Fr.get, initFr, buildSliceA, zeros, pkB, pkT, pkF, ownDst, Env.kd, ofConst, isConst, binA, intI, cmpI, shiftI, convertA, buildA, fillA, fillS, splice, AV.cells?, storeA, readAt, fieldAddrA, fieldA, indexA, extractA, unA, builtinA, appendA, lenA, sliceCells, isSliceK, makeInterfaceA, nilCheckA, eqA, AV.one, AV.plain, if_false, if_true, Nat.reduceEqDiff, reduceIte, Nat.reduceAdd, List.replicate, Nat.reduceLeDiff, Nat.reduceMul, Nat.reduceSub, Nat.reducePow, Int.reduceLT, Int.reduceLE, Int.reduceToNat, Int.reducePow, IntKind.bits, Int.reduceEq, Int.reduceMul, Int.reduceNeg, ne_eq, reduceCtorEq, escT, BEq.rfl, beq_self_eq_true, Int.reduceAdd, Int.reduceSub, Int.reduceMod, Int.reduceDiv, Nat.reduceMod, Nat.reduceDiv, Nat.reduceLT, cond_true, cond_false, gt_iff_lt, ge_iff_le, g0, g3, g4, g5, hj, wi, e, we, n0, em, ho1, ws, YtjdnmejohadlbaaDoor.D114, ty2, ty4]
        try first
          | refine callThen_of (tm _) ?_
      exact ih (m - 1) _ _ (by omega) ⟨j + 1, by omega, by simp [Fr.get, g0], by simp [Fr.get], by rw [es]; simp [Fr.get], by simp [Fr.get], rfl⟩
  · obtain rfl : j = 20 := by omega
    simp (maxSteps := 2000000) only [wk0, wk1, wk2, wk3, wk4, keepA, keepT, Fr.keep, frzT, flatT, arrayAtA, ownT, extT, Fr.ev, Fr.put, Fr.get, initFr, buildSliceA, zeros, pkB, pkT, pkF, ownDst, Env.kd, ofConst, isConst, binA, intI, cmpI, shiftI, convertA, buildA, fillA, fillS, splice, AV.cells?, storeA, readAt, fieldAddrA, fieldA, indexA, extractA, unA, builtinA, appendA, lenA, sliceCells, isSliceK, makeInterfaceA, nilCheckA, eqA, AV.one, AV.plain, if_false, if_true, Nat.reduceEqDiff, reduceIte, Nat.reduceAdd, List.replicate, Nat.reduceLeDiff, Nat.reduceMul, Nat.reduceSub, Nat.reducePow, Int.reduceLT, Int.reduceLE, Int.reduceToNat, Int.reducePow, IntKind.bits, Int.reduceEq, Int.reduceMul, Int.reduceNeg, ne_eq, reduceCtorEq, escT, BEq.rfl, beq_self_eq_true, Int.reduceAdd, Int.reduceSub, Int.reduceMod, Int.reduceDiv, Nat.reduceMod, Nat.reduceDiv, Nat.reduceLT, cond_true, cond_false, gt_iff_lt, ge_iff_le, g0, g3, g4, g5, hj, YtjdnmejohadlbaaDoor.D114, ty2, ty4]
    exact retB_plain (by simp [nmd_int]) rfl (by simp)
theorem exp_bad (x : Int) (S : Heap) (h : 0 < x) : Call theE 50 [.int .i64 x] S (.tup [.int .i64 0, errA 1]) S := by
  refine Call.ofC Tryd.func50 YtjdnmejohadlbaaDoor.b50 YtjdnmejohadlbaaDoor.d50 YtjdnmejohadlbaaDoor.e50 (by simp [Tryd.f50]) ?_
  dsimp only [YtjdnmejohadlbaaDoor.c50, Tryd.f50, Option.getD_some]
  simp (maxSteps := 2000000) only [wk0, wk1, wk2, wk3, wk4, keepA, keepT, Fr.keep, frzT, flatT, arrayAtA, ownT, extT, Fr.ev, Fr.put, Fr.get, initFr, buildSliceA, zeros, pkB, pkT, pkF, ownDst, Env.kd, ofConst, isConst, binA, intI, cmpI, shiftI, convertA, buildA, fillA, fillS, splice, AV.cells?, storeA, readAt, fieldAddrA, fieldA, indexA, extractA, unA, builtinA, appendA, lenA, sliceCells, isSliceK, makeInterfaceA, nilCheckA, eqA, AV.one, AV.plain, if_false, if_true, Nat.reduceEqDiff, reduceIte, Nat.reduceAdd, List.replicate, Nat.reduceLeDiff, Nat.reduceMul, Nat.reduceSub, Nat.reducePow, Int.reduceLT, Int.reduceLE, Int.reduceToNat, Int.reducePow, IntKind.bits, Int.reduceEq, Int.reduceMul, Int.reduceNeg, ne_eq, reduceCtorEq, escT, BEq.rfl, beq_self_eq_true, Int.reduceAdd, Int.reduceSub, Int.reduceMod, Int.reduceDiv, Nat.reduceMod, Nat.reduceDiv, Nat.reduceLT, cond_true, cond_false, gt_iff_lt, ge_iff_le, h, decide_true, YtjdnmejohadlbaaDoor.D50, ty2, ty3, ty4, ty30, ty99, ty133]
  exact retB_plain (by simp [nmd_int, nmd_ifc]) rfl (by simp)
theorem exp_ok (x : Int) (S : Heap) (h : x ≤ 0) (hx : inI x) : Call theE 50 [.int .i64 x] S (.tup [.int .i64 (expG x), .nili]) S := by
  unfold inI at hx
  have p1 : ¬ 0 < x := by omega
  unfold expG
  by_cases hl : x < -47185920
  · rw [if_pos hl]
    refine Call.ofC Tryd.func50 YtjdnmejohadlbaaDoor.b50 YtjdnmejohadlbaaDoor.d50 YtjdnmejohadlbaaDoor.e50 (by simp [Tryd.f50]) ?_
    dsimp only [YtjdnmejohadlbaaDoor.c50, Tryd.f50, Option.getD_some]
    simp (maxSteps := 2000000) only [wk0, wk1, wk2, wk3, wk4, keepA, keepT, Fr.keep, frzT, flatT, arrayAtA, ownT, extT, Fr.ev, Fr.put, Fr.get, initFr, buildSliceA, zeros, pkB, pkT, pkF, ownDst, Env.kd, ofConst, isConst, binA, intI, cmpI, shiftI, convertA, buildA, fillA, fillS, splice, AV.cells?, storeA, readAt, fieldAddrA, fieldA, indexA, extractA, unA, builtinA, appendA, lenA, sliceCells, isSliceK, makeInterfaceA, nilCheckA, eqA, AV.one, AV.plain, if_false, if_true, Nat.reduceEqDiff, reduceIte, Nat.reduceAdd, List.replicate, Nat.reduceLeDiff, Nat.reduceMul, Nat.reduceSub, Nat.reducePow, Int.reduceLT, Int.reduceLE, Int.reduceToNat, Int.reducePow, IntKind.bits, Int.reduceEq, Int.reduceMul, Int.reduceNeg, ne_eq, reduceCtorEq, escT, BEq.rfl, beq_self_eq_true, Int.reduceAdd, Int.reduceSub, Int.reduceMod, Int.reduceDiv, Nat.reduceMod, Nat.reduceDiv, Nat.reduceLT, cond_true, cond_false, gt_iff_lt, ge_iff_le, p1, hl, decide_true, decide_false, YtjdnmejohadlbaaDoor.D50, ty2, ty3, ty4, ty30, ty99, ty133]
    exact retB_plain (by simp [nmd_int, nmd_nili]) rfl (by simp)
  · rw [if_neg hl]
    have wn : IntKind.i64.wrap (0 - x) = -x := by rw [wrapI (by omega)]; omega
    obtain ⟨y, hy⟩ : ∃ y, -x * 1073741824 = y := ⟨_, rfl⟩
    have hy0 : 0 ≤ y ∧ y ≤ 50665495807918080 := by omega
    have m1 : min 30 64 = 30 := rfl
    have wy : IntKind.i64.wrap y = y := wrapI (by omega)
    rw [hy]
    obtain ⟨k, hk⟩ : ∃ k : Nat, y / 780414346020670 = (k : Int) := ⟨(y / 780414346020670).toNat, by omega⟩
    have hk1 : k ≤ 64 := by omega
    have hkt : (y / 780414346020670).toNat = k := by omega
    have ek : y.tdiv 780414346020670 = (k : Int) := by rw [Int.tdiv_eq_ediv_of_nonneg hy0.1]; exact hk
    have wk : IntKind.i64.wrap (k : Int) = (k : Int) := wrapI (by omega)
    have wd : IntKind.i64.wrap (20 + (k : Int)) = ((20 + k : Nat) : Int) := by rw [wrapI (by omega)]; omega
    have hr : 0 ≤ y % 780414346020670 ∧ y % 780414346020670 ≤ 1125899906842624 := by omega
    have w2 : IntKind.i64.wrap ((k : Int) * 780414346020670) = (k : Int) * 780414346020670 := wrapI (by omega)
    have w3 : IntKind.i64.wrap (y - (k : Int) * 780414346020670) = y % 780414346020670 := by rw [wrapI (by omega)]; omega
    rw [hkt]
    have hs := fS_in hr 20
    by_cases hd : 62 < 20 + k
    · have hd1 : (62 : Int) < ((20 + k : Nat) : Int) := by omega
      rw [rnd_far (20 + k) (by omega) (by omega)]
      refine Call.ofC Tryd.func50 YtjdnmejohadlbaaDoor.b50 YtjdnmejohadlbaaDoor.d50 YtjdnmejohadlbaaDoor.e50 (by simp [Tryd.f50]) ?_
      dsimp only [YtjdnmejohadlbaaDoor.c50, Tryd.f50, Option.getD_some]
      simp (maxSteps := 2000000) only [wk0, wk1, wk2, wk3, wk4, keepA, keepT, Fr.keep, frzT, flatT, arrayAtA, ownT, extT, Fr.ev, Fr.put, Fr.get, initFr, buildSliceA, zeros, pkB, pkT, pkF, ownDst, Env.kd, ofConst, isConst, binA, intI, cmpI, shiftI, convertA, buildA, fillA, fillS, splice, AV.cells?, storeA, readAt, fieldAddrA, fieldA, indexA, extractA, unA, builtinA, appendA, lenA, sliceCells, isSliceK, makeInterfaceA, nilCheckA, eqA, AV.one, AV.plain, if_false, if_true, Nat.reduceEqDiff, reduceIte, Nat.reduceAdd, List.replicate, Nat.reduceLeDiff, Nat.reduceMul, Nat.reduceSub, Nat.reducePow, Int.reduceLT, Int.reduceLE, Int.reduceToNat, Int.reducePow, IntKind.bits, Int.reduceEq, Int.reduceMul, Int.reduceNeg, ne_eq, reduceCtorEq, escT, BEq.rfl, beq_self_eq_true, Int.reduceAdd, Int.reduceSub, Int.reduceMod, Int.reduceDiv, Nat.reduceMod, Nat.reduceDiv, Nat.reduceLT, cond_true, cond_false, gt_iff_lt, ge_iff_le, p1, hl, wn, hy, m1, wy, ek, wk, wd, hd1, decide_true, decide_false, YtjdnmejohadlbaaDoor.D50, ty2, ty3, ty4, ty30, ty99, ty133]
      exact retB_plain (by simp [nmd_int, nmd_nili]) rfl (by simp)
    · have hd1 : ¬ (62 : Int) < ((20 + k : Nat) : Int) := by omega
      have fa := fun S => fall_ok (y % 780414346020670) S hr
      have mo := fun S => move_down (fS (y % 780414346020670) 20) 0 (19 + k) S (by omega) (by unfold inI; omega)
      rw [show (0 + (19 + k + 1) : Nat) = 20 + k by omega, show 19 + k + 1 = 20 + k by omega] at mo
      generalize ovrB (rnd (fS (y % 780414346020670) 20) (2 ^ (20 + k))) = o at *
      refine Call.ofC Tryd.func50 YtjdnmejohadlbaaDoor.b50 YtjdnmejohadlbaaDoor.d50 YtjdnmejohadlbaaDoor.e50 (by simp [Tryd.f50]) ?_
      dsimp only [YtjdnmejohadlbaaDoor.c50, Tryd.f50, Option.getD_some]
      iterate 3
        simp (maxSteps := 2000000) only [wk0, wk1, wk2, wk3, wk4, keepA, keepT, Fr.keep, frzT, flatT, arrayAtA, ownT, extT, Fr.ev, Fr.put, Fr.get, initFr, buildSliceA, zeros, pkB, pkT, pkF, ownDst, Env.kd, ofConst, isConst, binA, intI, cmpI, shiftI, convertA, buildA, fillA, fillS, splice, AV.cells?, storeA, readAt, fieldAddrA, fieldA, indexA, extractA, unA, builtinA, appendA, lenA, sliceCells, isSliceK, makeInterfaceA, nilCheckA, eqA, AV.one, AV.plain, if_false, if_true, Nat.reduceEqDiff, reduceIte, Nat.reduceAdd, List.replicate, Nat.reduceLeDiff, Nat.reduceMul, Nat.reduceSub, Nat.reducePow, Int.reduceLT, Int.reduceLE, Int.reduceToNat, Int.reducePow, IntKind.bits, Int.reduceEq, Int.reduceMul, Int.reduceNeg, ne_eq, reduceCtorEq, escT, BEq.rfl, beq_self_eq_true, Int.reduceAdd, Int.reduceSub, Int.reduceMod, Int.reduceDiv, Nat.reduceMod, Nat.reduceDiv, Nat.reduceLT, cond_true, cond_false, gt_iff_lt, ge_iff_le, p1, hl, wn, hy, m1, wy, ek, wk, wd, hd1, w2, w3, decide_true, decide_false, YtjdnmejohadlbaaDoor.D50, ty2, ty3, ty4, ty30, ty99, ty133]
        try first
          | refine callThen_of (fa _) ?_
          | refine callThen_of (mo _) ?_
      exact retB_plain (by simp [nmd_int, nmd_nili]) rfl (by simp)
def dcB (z : Int) : Option Blk := some ⟨[.bool (decide (z < 0)), .lst ((digs z.natAbs).map fun x => .int .i64 x) (lenD z.natAbs)], 0⟩
theorem refExp_ok (x : Int) (S : Heap) (h : x ≤ 0) (hx : inI x) : Call theE 54 [.int .i64 x] S (.int .i64 (expG x)) S := by
  unfold inI at hx
  unfold expG
  by_cases hl : x < -47185920
  · rw [if_pos hl]
    refine Call.ofC Tryd.func54 YtjdnmejohadlbaaDoor.b54 YtjdnmejohadlbaaDoor.d54 YtjdnmejohadlbaaDoor.e54 (by simp [Tryd.f54]) ?_
    dsimp only [YtjdnmejohadlbaaDoor.c54, Tryd.f54, Option.getD_some]
    simp (maxSteps := 2000000) only [wk0, wk1, wk2, wk3, wk4, keepA, keepT, Fr.keep, frzT, flatT, arrayAtA, ownT, extT, Fr.ev, Fr.put, Fr.get, initFr, buildSliceA, zeros, pkB, pkT, pkF, ownDst, Env.kd, ofConst, isConst, binA, intI, cmpI, shiftI, convertA, buildA, fillA, fillS, splice, AV.cells?, storeA, readAt, fieldAddrA, fieldA, indexA, extractA, unA, builtinA, appendA, lenA, sliceCells, isSliceK, makeInterfaceA, nilCheckA, eqA, AV.one, AV.plain, if_false, if_true, Nat.reduceEqDiff, reduceIte, Nat.reduceAdd, List.replicate, Nat.reduceLeDiff, Nat.reduceMul, Nat.reduceSub, Nat.reducePow, Int.reduceLT, Int.reduceLE, Int.reduceToNat, Int.reducePow, IntKind.bits, Int.reduceEq, Int.reduceMul, Int.reduceNeg, ne_eq, reduceCtorEq, escT, BEq.rfl, beq_self_eq_true, Int.reduceAdd, Int.reduceSub, Int.reduceMod, Int.reduceDiv, Nat.reduceMod, Nat.reduceDiv, Nat.reduceLT, cond_true, cond_false, gt_iff_lt, ge_iff_le, hl, decide_true, decide_false, YtjdnmejohadlbaaDoor.D54, ty2, ty3, ty4, ty149]
    exact retB_plain (by simp [nmd_int]) rfl (by simp)
  · rw [if_neg hl]
    have wn : IntKind.i64.wrap (0 - x) = -x := by rw [wrapI (by omega)]; omega
    obtain ⟨y, hy⟩ : ∃ y, -x * 1073741824 = y := ⟨_, rfl⟩
    have hy0 : 0 ≤ y ∧ y ≤ 50665495807918080 := by omega
    rw [hy]
    have big : ∀ z : Int, -9223372036854775808 ≤ z → z ≤ 9223372036854775808 → lenD z.natAbs ≤ 20 := fun z h1 h2 => (lenD_le _ _).2 (by omega)
    obtain ⟨k, hk⟩ : ∃ k : Nat, y / 780414346020670 = (k : Int) := ⟨(y / 780414346020670).toNat, by omega⟩
    have hk1 : k ≤ 64 := by omega
    have hkt : (y / 780414346020670).toNat = k := by omega
    obtain ⟨r, hrr⟩ : ∃ r, y % 780414346020670 = r := ⟨_, rfl⟩
    have hr : 0 ≤ r ∧ r ≤ 1125899906842624 := by omega
    rw [hkt, hrr]
    have ox := fun S => decOf_ok (-x) S (by unfold inI; omega)
    have tw := fun S => decTwo_ok 30 S (by omega)
    have e30 : (2 : Int) ^ 30 = 1073741824 := by decide
    rw [e30] at tw
    have mu := fun S => decMul_ok (-x) 1073741824 S (Nat.le_trans (big _ (by omega) (by omega)) (by omega)) (Nat.le_trans (big _ (by omega) (by omega)) (by omega))
    rw [hy] at mu
    have oL := fun S => decOf_ok 780414346020670 S (by unfold inI; omega)
    have di := fun S => decDiv_ok y 780414346020670 S (Nat.le_trans (big _ (by omega) (by omega)) (by omega)) (Nat.le_trans (big _ (by omega) (by omega)) (by omega)) (by omega)
    rw [hk, hrr] at di
    have sr := fun S => decSmall_ok r S (by unfold inI; omega)
    have sk := fun S => decSmall_ok (k : Int) S (by unfold inI; omega)
    have wd : IntKind.i64.wrap (20 + (k : Int)) = ((20 + k : Nat) : Int) := by rw [wrapI (by omega)]; omega
    have t2 := fun S => decTwo_ok (20 + k) S (by omega)
    have hs := fS_in hr 20
    have hp : (0 : Int) < 2 ^ (20 + k) := Int.pow_pos (by decide)
    have ro := fun S => decRound_ok (fS r 20) (2 ^ (20 + k)) S (Nat.le_trans (big _ (by omega) (by omega)) (by omega)) (Nat.le_trans (lenD_pow _) (by omega)) hp
    have hrs := rnd_size (fS r 20) (2 ^ (20 + k)) hp
    have hb : bndI (rnd (fS r 20) (2 ^ (20 + k))) = rnd (fS r 20) (2 ^ (20 + k)) := by unfold bndI; omega
    have sf := fun S => decSmall_ok (rnd (fS r 20) (2 ^ (20 + k))) S (by unfold inI; omega)
    rw [hb]
    generalize rnd (fS r 20) (2 ^ (20 + k)) = res at *
    have of' := fun (z : Int) (hz : -9223372036854775808 ≤ z ∧ z ≤ 9223372036854775807) S => decOf_ok z S (by unfold inI; omega)
    have ad := fun (a b : Int) (ha : -9223372036854775808 ≤ a ∧ a ≤ 9223372036854775808) (hb : -9223372036854775808 ≤ b ∧ b ≤ 9223372036854775808) S => decAdd_ok a b S (Nat.le_trans (big _ ha.1 ha.2) (by omega)) (Nat.le_trans (big _ hb.1 hb.2) (by omega))
    have sb := fun (a b : Int) (ha : -9223372036854775808 ≤ a ∧ a ≤ 9223372036854775808) (hb : -9223372036854775808 ≤ b ∧ b ≤ 9223372036854775808) S => decSub_ok a b S (Nat.le_trans (big _ ha.1 ha.2) (by omega)) (Nat.le_trans (big _ hb.1 hb.2) (by omega))
    generalize hpw : (2 : Int) ^ (20 + k) = pw at *
    simp only [decA, lstI, digs_len] at ox tw mu oL di sr sk t2 ro sf of' ad sb
    let pS : Nat → Int := fun j => if j = 0 then 0 else fS r (j - 1)
    have pS0 : pS 0 = 0 := rfl
    have pS1 : ∀ j, pS (j + 1) = fS r j := fun j => rfl
    have hpS : ∀ j, j ≤ 21 → -23643898043695104 ≤ pS j ∧ pS j ≤ 23643898043695104 := fun j hj => by
      cases j with
      | zero => rw [pS0]; omega
      | succ j =>
        rw [pS1]
        have := fS_in hr j
        omega
    have pSe : ∀ j, j % 2 = 0 → pS j + fT r j = pS (j + 1) := fun j hj => by
      cases j with
      | zero => rfl
      | succ j => rw [pS1, pS1, fS, if_neg (by omega)]
    have pSo : ∀ j, ¬ j % 2 = 0 → pS j - fT r j = pS (j + 1) := fun j hj => by
      cases j with
      | zero => exact absurd rfl hj
      | succ j => rw [pS1, pS1, fS, if_pos (by omega)]
    have p20 : pS 21 = fS r 20 := rfl
    clear_value pS
    refine Call.ofC Tryd.func54 YtjdnmejohadlbaaDoor.b54 YtjdnmejohadlbaaDoor.d54 YtjdnmejohadlbaaDoor.e54 (by simp [Tryd.f54]) ?_
    dsimp only [YtjdnmejohadlbaaDoor.c54, Tryd.f54, Option.getD_some]
    iterate 6
      simp (maxSteps := 2000000) only [wk0, wk1, wk2, wk3, wk4, keepA, keepT, Fr.keep, frzT, flatT, arrayAtA, ownT, extT, Fr.ev, Fr.put, Fr.get, initFr, buildSliceA, zeros, pkB, pkT, pkF, ownDst, Env.kd, ofConst, isConst, binA, intI, cmpI, shiftI, convertA, buildA, fillA, fillS, splice, AV.cells?, storeA, readAt, fieldAddrA, fieldA, indexA, extractA, unA, builtinA, appendA, lenA, sliceCells, isSliceK, makeInterfaceA, nilCheckA, eqA, AV.one, AV.plain, if_false, if_true, Nat.reduceEqDiff, reduceIte, Nat.reduceAdd, List.replicate, Nat.reduceLeDiff, Nat.reduceMul, Nat.reduceSub, Nat.reducePow, Int.reduceLT, Int.reduceLE, Int.reduceToNat, Int.reducePow, IntKind.bits, Int.reduceEq, Int.reduceMul, Int.reduceNeg, ne_eq, reduceCtorEq, escT, BEq.rfl, beq_self_eq_true, Int.reduceAdd, Int.reduceSub, Int.reduceMod, Int.reduceDiv, Nat.reduceMod, Nat.reduceDiv, Nat.reduceLT, cond_true, cond_false, gt_iff_lt, ge_iff_le, hl, wn, decide_false, YtjdnmejohadlbaaDoor.D54, ty2, ty3, ty4, ty149]
      try first
        | refine callThen_of (ox _) ?_
        | refine callThen_of (tw _) ?_
        | refine callThen_of (mu _) ?_
        | refine callThen_of (oL _) ?_
        | refine callThen_of (di _) ?_
    constructor
    · refine callThen_of (sr _) ?_
      simp (maxSteps := 2000000) only [wk0, wk1, wk2, wk3, wk4, keepA, keepT, Fr.keep, frzT, flatT, arrayAtA, ownT, extT, Fr.ev, Fr.put, Fr.get, initFr, buildSliceA, zeros, pkB, pkT, pkF, ownDst, Env.kd, ofConst, isConst, binA, intI, cmpI, shiftI, convertA, buildA, fillA, fillS, splice, AV.cells?, storeA, readAt, fieldAddrA, fieldA, indexA, extractA, unA, builtinA, appendA, lenA, sliceCells, isSliceK, makeInterfaceA, nilCheckA, eqA, AV.one, AV.plain, if_false, if_true, Nat.reduceEqDiff, reduceIte, Nat.reduceAdd, List.replicate, Nat.reduceLeDiff, Nat.reduceMul, Nat.reduceSub, Nat.reducePow, Int.reduceLT, Int.reduceLE, Int.reduceToNat, Int.reducePow, IntKind.bits, Int.reduceEq, Int.reduceMul, Int.reduceNeg, ne_eq, reduceCtorEq, escT, BEq.rfl, beq_self_eq_true, Int.reduceAdd, Int.reduceSub, Int.reduceMod, Int.reduceDiv, Nat.reduceMod, Nat.reduceDiv, Nat.reduceLT, cond_true, cond_false, gt_iff_lt, ge_iff_le, YtjdnmejohadlbaaDoor.D54, ty2, ty3, ty4, ty149]
      have fT0 : fT r 0 = 1125899906842624 := rfl
      have fT1 := fT_in hr 0
      have fT2 := fT_in hr 1
      have tm0 := fun S => refTimes_ok (fT r 0) r S (by unfold inI; omega) (by unfold inI; omega)
      have we0 : IntKind.i64.wrap ((tmG (fT r 0) r).tdiv 1) = fT r 1 := by
        have e : (tmG (fT r 0) r).tdiv ((0 + 1 : Nat) : Int) = fT r 1 := rfl
        change (tmG (fT r 0) r).tdiv 1 = _ at e
        rw [e]; exact wrapI (by omega)
      rw [fT0] at tm0 we0
      have of0 := of' 1125899906842624 (by omega)
      have ad0 := fun S => decAddN_ok 1125899906842624 S (by omega) (Nat.le_trans (big _ (by omega) (by omega)) (by omega))
      simp only [decA, lstI, digs_len] at ad0
      have z2 : Int.tmod 0 2 = 0 := rfl
      refine loopC_of ?_
      iterate 4
        simp (maxSteps := 2000000) only [wk0, wk1, wk2, wk3, wk4, keepA, keepT, Fr.keep, frzT, flatT, arrayAtA, ownT, extT, Fr.ev, Fr.put, Fr.get, initFr, buildSliceA, zeros, pkB, pkT, pkF, ownDst, Env.kd, ofConst, isConst, binA, intI, cmpI, shiftI, convertA, buildA, fillA, fillS, splice, AV.cells?, storeA, readAt, fieldAddrA, fieldA, indexA, extractA, unA, builtinA, appendA, lenA, sliceCells, isSliceK, makeInterfaceA, nilCheckA, eqA, AV.one, AV.plain, if_false, if_true, Nat.reduceEqDiff, reduceIte, Nat.reduceAdd, List.replicate, Nat.reduceLeDiff, Nat.reduceMul, Nat.reduceSub, Nat.reducePow, Int.reduceLT, Int.reduceLE, Int.reduceToNat, Int.reducePow, IntKind.bits, Int.reduceEq, Int.reduceMul, Int.reduceNeg, ne_eq, reduceCtorEq, escT, BEq.rfl, beq_self_eq_true, Int.reduceAdd, Int.reduceSub, Int.reduceMod, Int.reduceDiv, Nat.reduceMod, Nat.reduceDiv, Nat.reduceLT, cond_true, cond_false, gt_iff_lt, ge_iff_le, we0, z2, decide_true, YtjdnmejohadlbaaDoor.D54, ty2, ty3, ty4, ty149]
        try first
          | refine callThen_of (of0 _) ?_
          | refine callThen_of (ad0 _) ?_
          | refine callThen_of (tm0 _) ?_
      refine loopC_ind (fun m fr H => ∃ j : Nat, j + m = 21 ∧ 1 ≤ j ∧ fr.get 4 = .ptr (S.length + 1) 0 0 ∧ fr.get 6 = .int .i64 r ∧ fr.get 7 = .ptr (S.length + 3) 0 0 ∧ fr.get 8 = .int .i64 (fT r j) ∧ fr.get 9 = .int .i64 (j : Int) ∧ H = S ++ [dcB y, dcB (k : Int), dcB r, dcB (pS j)]) ?_ (n := 20) ⟨1, by omega, by omega, rfl, rfl, rfl, rfl, rfl, by rw [show pS 1 = 1125899906842624 from pS1 0]; rfl⟩
      rintro m fr H ⟨j, hjm, hj1, g4, g6, g7, g8, g9, rfl⟩ ih
      unfold dcB
      by_cases hj : (j : Int) ≤ 20
      · have h1 := fT_in hr j
        have h2 := fT_in hr (j + 1)
        have h4 := tmG_in h1 hr
        have hp1 := hpS j (by omega)
        have hp2 := hpS (j + 1) (by omega)
        have ofj := of' (fT r j) (by omega)
        have adj := ad (pS j) (fT r j) (by omega) (by omega)
        have sbj := sb (pS j) (fT r j) (by omega) (by omega)
        have tm := fun S => refTimes_ok (fT r j) r S (by unfold inI; omega) (by unfold inI; omega)
        have wi : IntKind.i64.wrap ((j : Int) + 1) = ((j + 1 : Nat) : Int) := wrapI (by omega)
        have e : (tmG (fT r j) r).tdiv ((j + 1 : Nat) : Int) = fT r (j + 1) := rfl
        have we : IntKind.i64.wrap (fT r (j + 1)) = fT r (j + 1) := wrapI (by omega)
        have n0 : ¬ ((j + 1 : Nat) : Int) = 0 := by omega
        have em : Int.tmod (j : Int) 2 = ((j % 2 : Nat) : Int) := by rw [Int.tmod_eq_emod_of_nonneg (by omega)]; rfl
        by_cases ho : j % 2 = 0
        · have ho1 : (((j % 2 : Nat) : Int) = 0) = True := eq_true (by omega)
          rw [pSe j ho] at adj
          iterate 4
            simp (maxSteps := 2000000) only [wk0, wk1, wk2, wk3, wk4, keepA, keepT, Fr.keep, frzT, flatT, arrayAtA, ownT, extT, Fr.ev, Fr.put, Fr.get, initFr, buildSliceA, zeros, pkB, pkT, pkF, ownDst, Env.kd, ofConst, isConst, binA, intI, cmpI, shiftI, convertA, buildA, fillA, fillS, splice, AV.cells?, storeA, readAt, fieldAddrA, fieldA, indexA, extractA, unA, builtinA, appendA, lenA, sliceCells, isSliceK, makeInterfaceA, nilCheckA, eqA, AV.one, AV.plain, if_false, if_true, Nat.reduceEqDiff, reduceIte, Nat.reduceAdd, List.replicate, Nat.reduceLeDiff, Nat.reduceMul, Nat.reduceSub, Nat.reducePow, Int.reduceLT, Int.reduceLE, Int.reduceToNat, Int.reducePow, IntKind.bits, Int.reduceEq, Int.reduceMul, Int.reduceNeg, ne_eq, reduceCtorEq, escT, BEq.rfl, beq_self_eq_true, Int.reduceAdd, Int.reduceSub, Int.reduceMod, Int.reduceDiv, Nat.reduceMod, Nat.reduceDiv, Nat.reduceLT, cond_true, cond_false, gt_iff_lt, ge_iff_le, g4, g6, g7, g8, g9, hj, wi, e, we, n0, em, ho1, YtjdnmejohadlbaaDoor.D54, ty2, ty3, ty4, ty149]
            try first
              | refine callThen_of (ofj _) ?_
              | refine callThen_of (adj _) ?_
              | refine callThen_of (tm _) ?_
          exact ih (m - 1) _ _ (by omega) ⟨j + 1, by omega, by omega, by simp [Fr.get, g4], by simp [Fr.get, g6], by simp [Fr.get, g7], by simp [Fr.get], by simp [Fr.get], rfl⟩
        · have ho1 : (((j % 2 : Nat) : Int) = 0) = False := eq_false (by omega)
          rw [pSo j ho] at sbj
          iterate 4
            simp (maxSteps := 2000000) only [wk0, wk1, wk2, wk3, wk4, keepA, keepT, Fr.keep, frzT, flatT, arrayAtA, ownT, extT, Fr.ev, Fr.put, Fr.get, initFr, buildSliceA, zeros, pkB, pkT, pkF, ownDst, Env.kd, ofConst, isConst, binA, intI, cmpI, shiftI, convertA, buildA, fillA, fillS, splice, AV.cells?, storeA, readAt, fieldAddrA, fieldA, indexA, extractA, unA, builtinA, appendA, lenA, sliceCells, isSliceK, makeInterfaceA, nilCheckA, eqA, AV.one, AV.plain, if_false, if_true, Nat.reduceEqDiff, reduceIte, Nat.reduceAdd, List.replicate, Nat.reduceLeDiff, Nat.reduceMul, Nat.reduceSub, Nat.reducePow, Int.reduceLT, Int.reduceLE, Int.reduceToNat, Int.reducePow, IntKind.bits, Int.reduceEq, Int.reduceMul, Int.reduceNeg, ne_eq, reduceCtorEq, escT, BEq.rfl, beq_self_eq_true, Int.reduceAdd, Int.reduceSub, Int.reduceMod, Int.reduceDiv, Nat.reduceMod, Nat.reduceDiv, Nat.reduceLT, cond_true, cond_false, gt_iff_lt, ge_iff_le, g4, g6, g7, g8, g9, hj, wi, e, we, n0, em, ho1, YtjdnmejohadlbaaDoor.D54, ty2, ty3, ty4, ty149]
            try first
              | refine callThen_of (ofj _) ?_
              | refine callThen_of (sbj _) ?_
              | refine callThen_of (tm _) ?_
          exact ih (m - 1) _ _ (by omega) ⟨j + 1, by omega, by omega, by simp [Fr.get, g4], by simp [Fr.get, g6], by simp [Fr.get, g7], by simp [Fr.get], by simp [Fr.get], rfl⟩
      · obtain rfl : j = 21 := by omega
        rw [p20]
        iterate 5
          simp (maxSteps := 2000000) only [wk0, wk1, wk2, wk3, wk4, keepA, keepT, Fr.keep, frzT, flatT, arrayAtA, ownT, extT, Fr.ev, Fr.put, Fr.get, initFr, buildSliceA, zeros, pkB, pkT, pkF, ownDst, Env.kd, ofConst, isConst, binA, intI, cmpI, shiftI, convertA, buildA, fillA, fillS, splice, AV.cells?, storeA, readAt, fieldAddrA, fieldA, indexA, extractA, unA, builtinA, appendA, lenA, sliceCells, isSliceK, makeInterfaceA, nilCheckA, eqA, AV.one, AV.plain, if_false, if_true, Nat.reduceEqDiff, reduceIte, Nat.reduceAdd, List.replicate, Nat.reduceLeDiff, Nat.reduceMul, Nat.reduceSub, Nat.reducePow, Int.reduceLT, Int.reduceLE, Int.reduceToNat, Int.reducePow, IntKind.bits, Int.reduceEq, Int.reduceMul, Int.reduceNeg, ne_eq, reduceCtorEq, escT, BEq.rfl, beq_self_eq_true, Int.reduceAdd, Int.reduceSub, Int.reduceMod, Int.reduceDiv, Nat.reduceMod, Nat.reduceDiv, Nat.reduceLT, cond_true, cond_false, gt_iff_lt, ge_iff_le, g4, g6, g7, g8, g9, hj, wd, YtjdnmejohadlbaaDoor.D54, ty2, ty3, ty4, ty149]
          try first
            | refine callThen_of (sk _) ?_
            | refine callThen_of (t2 _) ?_
            | refine callThen_of (ro _) ?_
            | refine callThen_of (sf _) ?_
        exact retB_plain (by simp [nmd_int]) rfl (by simp)
    · refine callThen_of (sr _) ?_
      simp (maxSteps := 2000000) only [wk0, wk1, wk2, wk3, wk4, keepA, keepT, Fr.keep, frzT, flatT, arrayAtA, ownT, extT, Fr.ev, Fr.put, Fr.get, initFr, buildSliceA, zeros, pkB, pkT, pkF, ownDst, Env.kd, ofConst, isConst, binA, intI, cmpI, shiftI, convertA, buildA, fillA, fillS, splice, AV.cells?, storeA, readAt, fieldAddrA, fieldA, indexA, extractA, unA, builtinA, appendA, lenA, sliceCells, isSliceK, makeInterfaceA, nilCheckA, eqA, AV.one, AV.plain, if_false, if_true, Nat.reduceEqDiff, reduceIte, Nat.reduceAdd, List.replicate, Nat.reduceLeDiff, Nat.reduceMul, Nat.reduceSub, Nat.reducePow, Int.reduceLT, Int.reduceLE, Int.reduceToNat, Int.reducePow, IntKind.bits, Int.reduceEq, Int.reduceMul, Int.reduceNeg, ne_eq, reduceCtorEq, escT, BEq.rfl, beq_self_eq_true, Int.reduceAdd, Int.reduceSub, Int.reduceMod, Int.reduceDiv, Nat.reduceMod, Nat.reduceDiv, Nat.reduceLT, cond_true, cond_false, gt_iff_lt, ge_iff_le, YtjdnmejohadlbaaDoor.D54, ty2, ty3, ty4, ty149]
      have fT0 : fT r 0 = 1125899906842624 := rfl
      have fT1 := fT_in hr 0
      have fT2 := fT_in hr 1
      have tm0 := fun S => refTimes_ok (fT r 0) r S (by unfold inI; omega) (by unfold inI; omega)
      have we0 : IntKind.i64.wrap ((tmG (fT r 0) r).tdiv 1) = fT r 1 := by
        have e : (tmG (fT r 0) r).tdiv ((0 + 1 : Nat) : Int) = fT r 1 := rfl
        change (tmG (fT r 0) r).tdiv 1 = _ at e
        rw [e]; exact wrapI (by omega)
      rw [fT0] at tm0 we0
      have of0 := of' 1125899906842624 (by omega)
      have ad0 := fun S => decAddN_ok 1125899906842624 S (by omega) (Nat.le_trans (big _ (by omega) (by omega)) (by omega))
      simp only [decA, lstI, digs_len] at ad0
      have z2 : Int.tmod 0 2 = 0 := rfl
      refine loopC_of ?_
      iterate 4
        simp (maxSteps := 2000000) only [wk0, wk1, wk2, wk3, wk4, keepA, keepT, Fr.keep, frzT, flatT, arrayAtA, ownT, extT, Fr.ev, Fr.put, Fr.get, initFr, buildSliceA, zeros, pkB, pkT, pkF, ownDst, Env.kd, ofConst, isConst, binA, intI, cmpI, shiftI, convertA, buildA, fillA, fillS, splice, AV.cells?, storeA, readAt, fieldAddrA, fieldA, indexA, extractA, unA, builtinA, appendA, lenA, sliceCells, isSliceK, makeInterfaceA, nilCheckA, eqA, AV.one, AV.plain, if_false, if_true, Nat.reduceEqDiff, reduceIte, Nat.reduceAdd, List.replicate, Nat.reduceLeDiff, Nat.reduceMul, Nat.reduceSub, Nat.reducePow, Int.reduceLT, Int.reduceLE, Int.reduceToNat, Int.reducePow, IntKind.bits, Int.reduceEq, Int.reduceMul, Int.reduceNeg, ne_eq, reduceCtorEq, escT, BEq.rfl, beq_self_eq_true, Int.reduceAdd, Int.reduceSub, Int.reduceMod, Int.reduceDiv, Nat.reduceMod, Nat.reduceDiv, Nat.reduceLT, cond_true, cond_false, gt_iff_lt, ge_iff_le, we0, z2, decide_true, YtjdnmejohadlbaaDoor.D54, ty2, ty3, ty4, ty149]
        try first
          | refine callThen_of (of0 _) ?_
          | refine callThen_of (ad0 _) ?_
          | refine callThen_of (tm0 _) ?_
      refine loopC_ind (fun m fr H => ∃ j : Nat, j + m = 21 ∧ 1 ≤ j ∧ fr.get 4 = .ptr (S.length + 2) 0 0 ∧ fr.get 6 = .int .i64 r ∧ fr.get 7 = .ptr (S.length + 3) 0 0 ∧ fr.get 8 = .int .i64 (fT r j) ∧ fr.get 9 = .int .i64 (j : Int) ∧ H = S ++ [dcB y, dcB r, dcB (k : Int), dcB (pS j)]) ?_ (n := 20) ⟨1, by omega, by omega, rfl, rfl, rfl, rfl, rfl, by rw [show pS 1 = 1125899906842624 from pS1 0]; rfl⟩
      rintro m fr H ⟨j, hjm, hj1, g4, g6, g7, g8, g9, rfl⟩ ih
      unfold dcB
      by_cases hj : (j : Int) ≤ 20
      · have h1 := fT_in hr j
        have h2 := fT_in hr (j + 1)
        have h4 := tmG_in h1 hr
        have hp1 := hpS j (by omega)
        have hp2 := hpS (j + 1) (by omega)
        have ofj := of' (fT r j) (by omega)
        have adj := ad (pS j) (fT r j) (by omega) (by omega)
        have sbj := sb (pS j) (fT r j) (by omega) (by omega)
        have tm := fun S => refTimes_ok (fT r j) r S (by unfold inI; omega) (by unfold inI; omega)
        have wi : IntKind.i64.wrap ((j : Int) + 1) = ((j + 1 : Nat) : Int) := wrapI (by omega)
        have e : (tmG (fT r j) r).tdiv ((j + 1 : Nat) : Int) = fT r (j + 1) := rfl
        have we : IntKind.i64.wrap (fT r (j + 1)) = fT r (j + 1) := wrapI (by omega)
        have n0 : ¬ ((j + 1 : Nat) : Int) = 0 := by omega
        have em : Int.tmod (j : Int) 2 = ((j % 2 : Nat) : Int) := by rw [Int.tmod_eq_emod_of_nonneg (by omega)]; rfl
        by_cases ho : j % 2 = 0
        · have ho1 : (((j % 2 : Nat) : Int) = 0) = True := eq_true (by omega)
          rw [pSe j ho] at adj
          iterate 4
            simp (maxSteps := 2000000) only [wk0, wk1, wk2, wk3, wk4, keepA, keepT, Fr.keep, frzT, flatT, arrayAtA, ownT, extT, Fr.ev, Fr.put, Fr.get, initFr, buildSliceA, zeros, pkB, pkT, pkF, ownDst, Env.kd, ofConst, isConst, binA, intI, cmpI, shiftI, convertA, buildA, fillA, fillS, splice, AV.cells?, storeA, readAt, fieldAddrA, fieldA, indexA, extractA, unA, builtinA, appendA, lenA, sliceCells, isSliceK, makeInterfaceA, nilCheckA, eqA, AV.one, AV.plain, if_false, if_true, Nat.reduceEqDiff, reduceIte, Nat.reduceAdd, List.replicate, Nat.reduceLeDiff, Nat.reduceMul, Nat.reduceSub, Nat.reducePow, Int.reduceLT, Int.reduceLE, Int.reduceToNat, Int.reducePow, IntKind.bits, Int.reduceEq, Int.reduceMul, Int.reduceNeg, ne_eq, reduceCtorEq, escT, BEq.rfl, beq_self_eq_true, Int.reduceAdd, Int.reduceSub, Int.reduceMod, Int.reduceDiv, Nat.reduceMod, Nat.reduceDiv, Nat.reduceLT, cond_true, cond_false, gt_iff_lt, ge_iff_le, g4, g6, g7, g8, g9, hj, wi, e, we, n0, em, ho1, YtjdnmejohadlbaaDoor.D54, ty2, ty3, ty4, ty149]
            try first
              | refine callThen_of (ofj _) ?_
              | refine callThen_of (adj _) ?_
              | refine callThen_of (tm _) ?_
          exact ih (m - 1) _ _ (by omega) ⟨j + 1, by omega, by omega, by simp [Fr.get, g4], by simp [Fr.get, g6], by simp [Fr.get, g7], by simp [Fr.get], by simp [Fr.get], rfl⟩
        · have ho1 : (((j % 2 : Nat) : Int) = 0) = False := eq_false (by omega)
          rw [pSo j ho] at sbj
          iterate 4
            simp (maxSteps := 2000000) only [wk0, wk1, wk2, wk3, wk4, keepA, keepT, Fr.keep, frzT, flatT, arrayAtA, ownT, extT, Fr.ev, Fr.put, Fr.get, initFr, buildSliceA, zeros, pkB, pkT, pkF, ownDst, Env.kd, ofConst, isConst, binA, intI, cmpI, shiftI, convertA, buildA, fillA, fillS, splice, AV.cells?, storeA, readAt, fieldAddrA, fieldA, indexA, extractA, unA, builtinA, appendA, lenA, sliceCells, isSliceK, makeInterfaceA, nilCheckA, eqA, AV.one, AV.plain, if_false, if_true, Nat.reduceEqDiff, reduceIte, Nat.reduceAdd, List.replicate, Nat.reduceLeDiff, Nat.reduceMul, Nat.reduceSub, Nat.reducePow, Int.reduceLT, Int.reduceLE, Int.reduceToNat, Int.reducePow, IntKind.bits, Int.reduceEq, Int.reduceMul, Int.reduceNeg, ne_eq, reduceCtorEq, escT, BEq.rfl, beq_self_eq_true, Int.reduceAdd, Int.reduceSub, Int.reduceMod, Int.reduceDiv, Nat.reduceMod, Nat.reduceDiv, Nat.reduceLT, cond_true, cond_false, gt_iff_lt, ge_iff_le, g4, g6, g7, g8, g9, hj, wi, e, we, n0, em, ho1, YtjdnmejohadlbaaDoor.D54, ty2, ty3, ty4, ty149]
            try first
              | refine callThen_of (ofj _) ?_
              | refine callThen_of (sbj _) ?_
              | refine callThen_of (tm _) ?_
          exact ih (m - 1) _ _ (by omega) ⟨j + 1, by omega, by omega, by simp [Fr.get, g4], by simp [Fr.get, g6], by simp [Fr.get, g7], by simp [Fr.get], by simp [Fr.get], rfl⟩
      · obtain rfl : j = 21 := by omega
        rw [p20]
        iterate 5
          simp (maxSteps := 2000000) only [wk0, wk1, wk2, wk3, wk4, keepA, keepT, Fr.keep, frzT, flatT, arrayAtA, ownT, extT, Fr.ev, Fr.put, Fr.get, initFr, buildSliceA, zeros, pkB, pkT, pkF, ownDst, Env.kd, ofConst, isConst, binA, intI, cmpI, shiftI, convertA, buildA, fillA, fillS, splice, AV.cells?, storeA, readAt, fieldAddrA, fieldA, indexA, extractA, unA, builtinA, appendA, lenA, sliceCells, isSliceK, makeInterfaceA, nilCheckA, eqA, AV.one, AV.plain, if_false, if_true, Nat.reduceEqDiff, reduceIte, Nat.reduceAdd, List.replicate, Nat.reduceLeDiff, Nat.reduceMul, Nat.reduceSub, Nat.reducePow, Int.reduceLT, Int.reduceLE, Int.reduceToNat, Int.reducePow, IntKind.bits, Int.reduceEq, Int.reduceMul, Int.reduceNeg, ne_eq, reduceCtorEq, escT, BEq.rfl, beq_self_eq_true, Int.reduceAdd, Int.reduceSub, Int.reduceMod, Int.reduceDiv, Nat.reduceMod, Nat.reduceDiv, Nat.reduceLT, cond_true, cond_false, gt_iff_lt, ge_iff_le, g4, g6, g7, g8, g9, hj, wd, YtjdnmejohadlbaaDoor.D54, ty2, ty3, ty4, ty149]
          try first
            | refine callThen_of (sk _) ?_
            | refine callThen_of (t2 _) ?_
            | refine callThen_of (ro _) ?_
            | refine callThen_of (sf _) ?_
        exact retB_plain (by simp [nmd_int]) rfl (by simp)
end Go.Proofs.YtjdnmejohadlbaaDoor
