/- grow: powers and logarithms, step by step. -/
import Derived.Test.YtdknnaalfoongaaDoorQ8
import Derived.Test.YtdknnaalfoongaaDoorD9
import Derived.Test.YtdknnaalfoongaaDoorP7
import Derived.Test.YtdknnaalfoongaaDoorEvV
set_option linter.unusedSimpArgs false
set_option linter.unusedVariables false
set_option maxRecDepth 100000
set_option maxHeartbeats 4000000
namespace Go.Proofs.YtdknnaalfoongaaDoor
theorem rndG_le {z p C : Int} (hp : 0 < p) (h : -(C * p) ≤ z ∧ z ≤ C * p) : -C ≤ rnd z p ∧ rnd z p ≤ C := by
  have e1 := Int.mul_ediv_add_emod z p
  have e2 := Int.emod_nonneg z (show p ≠ 0 by omega)
  have e3 := Int.emod_lt_of_pos z hp
  have h1 : z / p ≤ C := Int.ediv_le_of_le_mul hp h.2
  have h2 : -C ≤ z / p := by rw [Int.le_ediv_iff_mul_le hp, Int.neg_mul]; exact h.1
  unfold rnd
  refine ⟨by split <;> omega, ?_⟩
  rcases Int.lt_or_eq_of_le h1 with h3 | h3
  · split <;> omega
  · have h4 : z % p = 0 := by
      rw [h3, Int.mul_comm] at e1
      omega
    rw [if_neg (by omega)]; omega
theorem rndG_pos {z p : Int} (hp : 0 < p) (h : 0 ≤ z) : 0 ≤ rnd z p := by
  have h1 : 0 ≤ z / p := Int.ediv_nonneg h (by omega)
  unfold rnd
  split <;> omega
/-- A product with fifty bits behind the point. -/
def tmG (a b : Int) : Int := bndI (rnd (a * b) (2 ^ 50))
def oneG : Int := 1125899906842624
theorem tmG_in {a b : Int} (ha : 0 ≤ a ∧ a ≤ 1125899906842624) (hb : 0 ≤ b ∧ b ≤ 1125899906842624) : 0 ≤ tmG a b ∧ tmG a b ≤ a := by
  have h1 : 0 ≤ a * b := Int.mul_nonneg ha.1 hb.1
  have h2 : a * b ≤ a * 1125899906842624 := Int.mul_le_mul_of_nonneg_left hb.2 ha.1
  have h3 := rndG_pos (z := a * b) (p := 2 ^ 50) (by decide) h1
  have h4 := rndG_le (z := a * b) (p := 2 ^ 50) (C := a) (by decide) (by
    have e : (2 : Int) ^ 50 = 1125899906842624 := by decide
    rw [e]; omega)
  unfold tmG bndI
  omega
def fT (r : Int) : Nat → Int
  | 0 => 1125899906842624
  | n + 1 => (tmG (fT r n) r).tdiv ((n + 1 : Nat) : Int)
def fS (r : Int) : Nat → Int
  | 0 => 1125899906842624
  | n + 1 => if (n + 1) % 2 = 1 then fS r n - fT r (n + 1) else fS r n + fT r (n + 1)
theorem tdiv_in {a d B : Int} (ha : 0 ≤ a ∧ a ≤ B) (hd : 1 ≤ d) : 0 ≤ a.tdiv d ∧ a.tdiv d ≤ B := by
  rw [Int.tdiv_eq_ediv_of_nonneg ha.1]
  have h1 := Int.ediv_nonneg ha.1 (show 0 ≤ d by omega)
  have h2 := Int.ediv_le_self d ha.1
  omega
theorem fT_in {r : Int} (hr : 0 ≤ r ∧ r ≤ 1125899906842624) (n : Nat) : 0 ≤ fT r n ∧ fT r n ≤ 1125899906842624 := by
  induction n with
  | zero => unfold fT; omega
  | succ n ih =>
    have h := tmG_in ih hr
    exact tdiv_in ⟨h.1, by omega⟩ (by omega)
theorem fS_in {r : Int} (hr : 0 ≤ r ∧ r ≤ 1125899906842624) (n : Nat) : -((n + 1 : Nat) : Int) * 1125899906842624 ≤ fS r n ∧ fS r n ≤ ((n + 1 : Nat) : Int) * 1125899906842624 := by
  induction n with
  | zero => unfold fS; omega
  | succ n ih =>
    have h := fT_in hr (n + 1)
    unfold fS
    split <;> omega
/-- What two to the power of sixty-three, and more, leaves of a number of 62 bits. -/
theorem rnd_far {z : Int} (k : Nat) (hk : 63 ≤ k) (h : -4611686018427387904 ≤ z ∧ z ≤ 4611686018427387904) : rnd z (2 ^ k) = 0 := by
  have hp : (9223372036854775808 : Int) ≤ 2 ^ k := by
    obtain ⟨j, rfl⟩ : ∃ j, k = 63 + j := ⟨k - 63, by omega⟩
    rw [Int.pow_add]
    have h1 : (1 : Int) ≤ 2 ^ j := Int.pow_pos (by decide)
    have h2 : (2 : Int) ^ 63 = 9223372036854775808 := by decide
    rw [h2]
    omega
  generalize (2 : Int) ^ k = p at *
  have e1 := Int.mul_ediv_add_emod z p
  have e2 := Int.emod_nonneg z (show p ≠ 0 by omega)
  have e3 := Int.emod_lt_of_pos z (show 0 < p by omega)
  unfold rnd
  rcases Int.lt_or_le z 0 with hz | hz
  · have hq : z / p = -1 := by
      have h1 : z / p < 0 := Int.ediv_neg_of_neg_of_pos hz (by omega)
      have h2 : -1 ≤ z / p := by rw [Int.le_ediv_iff_mul_le (by omega)]; omega
      omega
    rw [hq] at e1 ⊢
    rw [if_pos (by omega)]; rfl
  · have hq : z / p = 0 := Int.ediv_eq_zero_of_lt hz (by omega)
    rw [hq] at e1 ⊢
    rw [if_neg (by omega)]; rfl
/-- e to the power of a number that is not above 0. -/
def expG (x : Int) : Int :=
  if x < -47185920 then 0 else bndI (rnd (fS (-x * 1073741824 % 780414346020670) 20) (2 ^ (20 + (-x * 1073741824 / 780414346020670).toNat)))
theorem expG_in (x : Int) : -4611686018427387903 ≤ expG x ∧ expG x ≤ 4611686018427387903 := by
  unfold expG
  split
  · omega
  · unfold bndI; omega
noncomputable def c120 : Code := Tryd.f120.body.getD .skip
theorem b120 : Tryd.f120.body = some c120 := rfl
theorem d120 : fnOk Tryd.f120 c120 = true := by kernel_rfl
def D120 : Nat → List Tag := fun _ => []
theorem e120 : drawsOk D120 c120 = true := by kernel_rfl
theorem timesG_ok (a b : Int) (S : Heap) (ha : inI a) (hb : inI b) : Call theE 120 [.int .i64 a, .int .i64 b] S (.int .i64 (tmG a b)) S := by
  have m := fun S => mul_ok a b 50 S (by omega) ha hb
  change ∀ S, Call theE _ [_, _, .int .i64 50] _ (.tup [.int .i64 (tmG a b), _, _]) _ at m
  generalize ovrB (rnd (a * b) (2 ^ 50)) = o at m
  refine Call.ofC Tryd.func120 YtdknnaalfoongaaDoor.b120 YtdknnaalfoongaaDoor.d120 YtdknnaalfoongaaDoor.e120 (by simp [Tryd.f120]) ?_
  dsimp only [YtdknnaalfoongaaDoor.c120, Tryd.f120, Option.getD_some]
  iterate 2
    simp (maxSteps := 2000000) only [wk0, wk1, wk2, wk3, wk4, wk5, Fr.ev, Fr.put, Fr.get, pkB, pkT, pkF, storeA, if_false, if_true, Nat.reduceEqDiff, reduceIte, Nat.reduceAdd, List.replicate, Nat.reduceLeDiff, Nat.reduceMul, Nat.reduceSub, Nat.reducePow, Int.reduceLT, Int.reduceLE, Int.reduceToNat, Int.reducePow, IntKind.bits, Int.reduceEq, Int.reduceMul, Int.reduceNeg, ne_eq, reduceCtorEq, BEq.rfl, beq_self_eq_true, Int.reduceAdd, Int.reduceSub, Int.reduceMod, Int.reduceDiv, Nat.reduceMod, Nat.reduceDiv, Nat.reduceLT, cond_true, cond_false, gt_iff_lt, ge_iff_le, YtdknnaalfoongaaDoor.D120, ty2, ty3, ty4, ty25]
    try first
      | refine callThen_of (m _) ?_
  exact retB_plain (by simp [nmd_int]) rfl (by simp)
def dcB (z : Int) : Option Blk := some ⟨[.bool (decide (z < 0)), .lst ((digs z.natAbs).map fun x => .int .i64 x) (lenD z.natAbs)], 0⟩
end Go.Proofs.YtdknnaalfoongaaDoor
