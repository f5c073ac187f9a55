/- Decimal digits, the lowest first: plain laws. -/
import Derived.Test.YtoncolpkpgbfiaaDoorB0
set_option linter.unusedSimpArgs false
set_option linter.unusedVariables false
namespace Go.Proofs.YtoncolpkpgbfiaaDoor
def lenD (n : Nat) : Nat := if h : n = 0 then 0 else lenD (n / 10) + 1
termination_by n
decreasing_by omega
def dgt (n k : Nat) : Nat := n / 10 ^ k % 10
def dgN (n i : Nat) : List Int := (List.range i).map fun k => ((dgt n k : Nat) : Int)
def digs (n : Nat) : List Int := dgN n (lenD n)
theorem lenD_zero : lenD 0 = 0 := by unfold lenD; simp
theorem lenD_le (k : Nat) : ∀ n, lenD n ≤ k ↔ n < 10 ^ k := by
  induction k with
  | zero =>
    intro n
    unfold lenD
    by_cases h : n = 0
    · simp [h]
    · simp [h]
  | succ k ih =>
    intro n
    unfold lenD
    by_cases h : n = 0
    · subst h; simp; exact Nat.pow_pos (by omega)
    · rw [dif_neg h, Nat.add_le_add_iff_right, ih, Nat.div_lt_iff_lt_mul (by omega), Nat.pow_succ]
theorem lt_lenD (n k : Nat) : k < lenD n ↔ 10 ^ k ≤ n := by
  have := lenD_le k n
  omega
theorem lt_pow_lenD (n : Nat) : n < 10 ^ lenD n := (lenD_le _ _).1 (Nat.le_refl _)
theorem dgt_lt (n k : Nat) : dgt n k < 10 := Nat.mod_lt _ (by omega)
theorem dgt_zero_of_lt {n k : Nat} (h : n < 10 ^ k) : dgt n k = 0 := by unfold dgt; rw [Nat.div_eq_of_lt h]
theorem dgt_zero {n k : Nat} (h : n < 10 ^ (k + 1)) (h0 : dgt n k = 0) : n < 10 ^ k := by
  unfold dgt at h0
  have h1 : n / 10 ^ k < 10 := by rw [Nat.div_lt_iff_lt_mul (Nat.pow_pos (by omega))]; rw [Nat.pow_succ] at h; omega
  rcases Nat.lt_or_ge n (10 ^ k) with h2 | h2
  · exact h2
  · have := Nat.div_pos h2 (Nat.pow_pos (by omega)); omega
theorem dgN_len (n i : Nat) : (dgN n i).length = i := by simp [dgN]
theorem digs_len (n : Nat) : (digs n).length = lenD n := dgN_len _ _
theorem dgN_succ (n i : Nat) : dgN n (i + 1) = dgN n i ++ [((dgt n i : Nat) : Int)] := by unfold dgN; rw [List.range_succ, List.map_append]; rfl
theorem dgN_zero (n : Nat) : dgN n 0 = [] := rfl
theorem dgN_get (n : Nat) {i k : Nat} (h : k < i) : (dgN n i)[k]? = some ((dgt n k : Nat) : Int) := by simp [dgN, h]
theorem digs_get (n : Nat) {k : Nat} (h : k < lenD n) : (digs n)[k]? = some ((dgt n k : Nat) : Int) := dgN_get n h
theorem dgN_take (n : Nat) {i k : Nat} (h : k ≤ i) : (dgN n i).take k = dgN n k := by
  unfold dgN
  rw [← List.map_take, List.take_range, Nat.min_eq_left h]
theorem div_step (n k : Nat) : n / 10 ^ k = 10 * (n / 10 ^ (k + 1)) + dgt n k := by
  unfold dgt
  rw [Nat.pow_succ, ← Nat.div_div_eq_div_mul]
  omega
theorem mod_step (n k : Nat) : n % 10 ^ (k + 1) = n % 10 ^ k + 10 ^ k * dgt n k := by
  unfold dgt; rw [Nat.pow_succ, Nat.mod_mul]
/-- The carry of a sum. -/
def caD (a b i : Nat) : Nat := (a % 10 ^ i + b % 10 ^ i) / 10 ^ i
theorem caD_lt (a b i : Nat) : caD a b i < 2 := by
  unfold caD
  have hp : 0 < 10 ^ i := Nat.pow_pos (by omega)
  rw [Nat.div_lt_iff_lt_mul hp]
  have := Nat.mod_lt a hp; have := Nat.mod_lt b hp; omega
theorem caD_zero (a b : Nat) : caD a b 0 = 0 := by simp [caD, Nat.mod_one]
theorem caD_sum (a b i : Nat) : (a % 10 ^ (i + 1) + b % 10 ^ (i + 1)) / 10 ^ i = caD a b i + dgt a i + dgt b i := by
  have hp : 0 < 10 ^ i := Nat.pow_pos (by omega)
  rw [mod_step, mod_step, show a % 10 ^ i + 10 ^ i * dgt a i + (b % 10 ^ i + 10 ^ i * dgt b i) = a % 10 ^ i + b % 10 ^ i + 10 ^ i * (dgt a i + dgt b i) by rw [Nat.mul_add]; omega, Nat.add_mul_div_left _ _ hp]
  unfold caD; omega
theorem caD_step (a b i : Nat) : caD a b (i + 1) = (caD a b i + dgt a i + dgt b i) / 10 := by
  rw [← caD_sum, Nat.div_div_eq_div_mul, ← Nat.pow_succ]; rfl
theorem caD_dgt (a b i : Nat) : dgt (a + b) i = (caD a b i + dgt a i + dgt b i) % 10 := by
  have hp : 0 < 10 ^ i := Nat.pow_pos (by omega)
  rw [← caD_sum]
  have ea := Nat.div_add_mod a (10 ^ (i + 1))
  have eb := Nat.div_add_mod b (10 ^ (i + 1))
  have : a + b = a % 10 ^ (i + 1) + b % 10 ^ (i + 1) + 10 ^ i * (10 * (a / 10 ^ (i + 1) + b / 10 ^ (i + 1))) := by
    rw [← Nat.mul_assoc, ← Nat.pow_succ, Nat.mul_add]
    generalize 10 ^ (i + 1) * (a / 10 ^ (i + 1)) = p at *
    generalize 10 ^ (i + 1) * (b / 10 ^ (i + 1)) = q at *
    generalize a % 10 ^ (i + 1) = r at *
    generalize b % 10 ^ (i + 1) = t at *
    omega
  unfold dgt
  conv => lhs; rw [this]
  rw [Nat.add_mul_div_left _ _ hp]; omega
theorem caD_end {a b M : Nat} (ha : a < 10 ^ M) (hb : b < 10 ^ M) : caD a b M = dgt (a + b) M := by
  rw [caD_dgt, dgt_zero_of_lt ha, dgt_zero_of_lt hb]
  have := caD_lt a b M
  omega
/-- The borrow of a difference. -/
def boD (a b i : Nat) : Nat := if a % 10 ^ i < b % 10 ^ i then 1 else 0
theorem boD_zero (a b : Nat) : boD a b 0 = 0 := by simp [boD, Nat.mod_one]
theorem boD_le (a b i : Nat) : boD a b i ≤ 1 := by unfold boD; split <;> omega
theorem boD_step (a b i : Nat) : boD a b (i + 1) = if ((dgt a i : Nat) : Int) - (boD a b i : Nat) - (dgt b i : Nat) < 0 then 1 else 0 := by
  have hp : 0 < 10 ^ i := Nat.pow_pos (by omega)
  have la := Nat.mod_lt a hp; have lb := Nat.mod_lt b hp
  unfold boD
  rw [mod_step, mod_step]
  rcases Nat.lt_trichotomy (dgt a i) (dgt b i) with h | h | h
  · have := Nat.mul_le_mul_left (10 ^ i) (show dgt a i + 1 ≤ dgt b i by omega)
    rw [Nat.mul_add] at this
    rw [if_pos (by omega), if_pos (by split <;> omega)]
  · rw [h]
    by_cases h1 : a % 10 ^ i < b % 10 ^ i
    · simp [h1]; omega
    · simp [h1]
  · have := Nat.mul_le_mul_left (10 ^ i) (show dgt b i + 1 ≤ dgt a i by omega)
    rw [Nat.mul_add] at this
    rw [if_neg (by omega), if_neg (by split <;> omega)]
theorem boD_div {a b : Nat} (h : b ≤ a) (i : Nat) : (a - b) / 10 ^ i + boD a b i + b / 10 ^ i = a / 10 ^ i := by
  have hp : 0 < 10 ^ i := Nat.pow_pos (by omega)
  have ea := Nat.div_add_mod a (10 ^ i)
  have eb := Nat.div_add_mod b (10 ^ i)
  have la := Nat.mod_lt a hp; have lb := Nat.mod_lt b hp
  have hd : b / 10 ^ i ≤ a / 10 ^ i := Nat.div_le_div_right h
  unfold boD
  generalize hq : a / 10 ^ i = q at *
  generalize hr : b / 10 ^ i = r at *
  generalize hP : 10 ^ i = P at *
  generalize a % P = x at *
  generalize b % P = y at *
  obtain ⟨d, rfl⟩ : ∃ d, q = r + d := ⟨q - r, by omega⟩
  rw [Nat.mul_add] at ea
  by_cases hxy : x < y
  · rw [if_pos hxy]
    have hd1 : d ≠ 0 := by rintro rfl; omega
    obtain ⟨e, rfl⟩ : ∃ e, d = e + 1 := ⟨d - 1, by omega⟩
    rw [Nat.mul_add P e 1] at ea
    have : a - b = P * e + (P + x - y) := by omega
    rw [this, Nat.mul_add_div hp, Nat.div_eq_of_lt (by omega)]
    omega
  · rw [if_neg hxy]
    have : a - b = P * d + (x - y) := by omega
    rw [this, Nat.mul_add_div hp, Nat.div_eq_of_lt (by omega)]
    omega
theorem boD_dgt {a b : Nat} (h : b ≤ a) (i : Nat) : ((dgt (a - b) i : Nat) : Int) = if ((dgt a i : Nat) : Int) - (boD a b i : Nat) - (dgt b i : Nat) < 0 then ((dgt a i : Nat) : Int) - (boD a b i : Nat) - (dgt b i : Nat) + 10 else ((dgt a i : Nat) : Int) - (boD a b i : Nat) - (dgt b i : Nat) := by
  have := boD_div h i
  have := boD_le a b i
  unfold dgt
  split <;> omega
/-- Less, from the highest digit on. -/
theorem less_dgt {a b i : Nat} (h : a / 10 ^ (i + 1) = b / 10 ^ (i + 1)) : (dgt a i = dgt b i → a / 10 ^ i = b / 10 ^ i) ∧ (dgt a i ≠ dgt b i → (a < b ↔ dgt a i < dgt b i)) := by
  have ea := div_step a i
  have eb := div_step b i
  refine ⟨fun he => by omega, fun hn => ?_⟩
  constructor
  · intro hl
    have := Nat.div_le_div_right (c := 10 ^ i) (Nat.le_of_lt hl)
    omega
  · intro hl
    rcases Nat.lt_or_ge a b with h1 | h1
    · exact h1
    · have := Nat.div_le_div_right (c := 10 ^ i) h1
      omega
/-- A number: its sign, and its digits. -/
def decA (z : Int) : AV := .agg [.bool (decide (z < 0)), lstI (digs z.natAbs)]
end Go.Proofs.YtoncolpkpgbfiaaDoor
