/- The document's sum of products, rounded once. -/
import Derived.Test.YtoncolpkpgbfiaaDoorP5
import Derived.Test.YtoncolpkpgbfiaaDoorQ2
set_option linter.unusedSimpArgs false
set_option linter.unusedVariables false
set_option maxRecDepth 100000
set_option maxHeartbeats 4000000
namespace Go.Proofs.YtoncolpkpgbfiaaDoor
def prodL (x y : Int) : Bool × Nat := (decide (x < 0) != decide (y < 0), x.natAbs * y.natAbs)
theorem valL_prod (x y : Int) : valL (prodL x y) = x * y := by
  unfold valL prodL
  rcases Int.natAbs_eq x with hx | hx <;> rcases Int.natAbs_eq y with hy | hy
  all_goals
    generalize x.natAbs = a at *
    generalize y.natAbs = b at *
    subst hx hy
  · rw [decide_eq_false (by omega), decide_eq_false (by omega)]; simp
  · by_cases h : b = 0
    · subst h; simp
    · rw [decide_eq_false (by omega), decide_eq_true (by omega)]; simp [Int.mul_neg]
  · by_cases h : a = 0
    · subst h; simp
    · rw [decide_eq_true (by omega), decide_eq_false (by omega)]; simp [Int.neg_mul]
  · by_cases h : a = 0
    · subst h; simp
    · by_cases h2 : b = 0
      · subst h2; simp
      · rw [decide_eq_true (by omega), decide_eq_true (by omega)]; simp [Int.neg_mul, Int.mul_neg]
def sumL (l r : List Int) : Nat → Bool × Nat
  | 0 => (false, 0)
  | i + 1 => joinW (sumL l r i) (prodL (l.getD i 0) (r.getD i 0))
theorem valL_sum (l r : List Int) (i : Nat) (h1 : i ≤ l.length) (h2 : i ≤ r.length) : valL (sumL l r i) = dotP l r i := by
  induction i with
  | zero => rw [dotP_zero]; rfl
  | succ i ih =>
    rw [sumL, valL_join, valL_prod, ih (by omega) (by omega), dotP_succ l r i (by omega) (by omega)]
    simp [List.getD_eq_getElem?_getD, List.getElem?_eq_getElem (show i < l.length by omega), List.getElem?_eq_getElem (show i < r.length by omega)]

end Go.Proofs.YtoncolpkpgbfiaaDoor
