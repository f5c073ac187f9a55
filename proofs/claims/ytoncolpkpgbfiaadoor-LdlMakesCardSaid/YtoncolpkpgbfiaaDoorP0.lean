/- Numbers of 256 bits in eight parts: plain laws. -/
import Derived.Test.YtoncolpkpgbfiaaDoorB0
set_option linter.unusedSimpArgs false
set_option linter.unusedVariables false
namespace Go.Proofs.YtoncolpkpgbfiaaDoor
def dB (n k : Nat) : Nat := n / 4294967296 ^ k % 4294967296
def uL (l : List Int) : List AV := l.map fun x => AV.int .u64 x
/-- The first i parts of one, the others of another. -/
def mixL (r a i : Nat) : List Int := (List.range 8).map fun k => if k < i then ((dB r k : Nat) : Int) else ((dB a k : Nat) : Int)
def wB (n : Nat) : List Int := (List.range 8).map fun k => ((dB n k : Nat) : Int)
def longA (s : Bool) (n : Nat) : AV := .agg (.bool s :: uL (wB n))
def arrB (n : Nat) : AV := .agg (uL (wB n))
theorem dB_lt (n k : Nat) : dB n k < 4294967296 := Nat.mod_lt _ (by decide)
theorem mixL_zero (r a : Nat) : mixL r a 0 = wB a := by simp [mixL, wB]
theorem mixL_all (r a : Nat) : mixL r a 8 = wB r := by
  unfold mixL wB
  apply List.map_congr_left
  intro k hk
  rw [if_pos (List.mem_range.1 hk)]
theorem mixL_len (r a i : Nat) : (mixL r a i).length = 8 := by simp [mixL]
theorem wB_len (n : Nat) : (wB n).length = 8 := by simp [wB]
theorem uL_len (l : List Int) : (uL l).length = l.length := by simp [uL]
theorem wB_get (n : Nat) {k : Nat} (h : k < 8) : (uL (wB n))[k]? = some (.int .u64 ((dB n k : Nat) : Int)) := by simp [uL, wB, h]
theorem mixL_get (r a i : Nat) {k : Nat} (h : k < 8) (hi : i ≤ k) : (uL (mixL r a i))[k]? = some (.int .u64 ((dB a k : Nat) : Int)) := by simp [uL, mixL, h]; omega
theorem mixL_set (r a i : Nat) (h : i < 8) : (mixL r a i).set i ((dB r i : Nat) : Int) = mixL r a (i + 1) := by
  apply List.ext_getElem
  · simp [mixL]
  · intro q h1 h2
    simp only [mixL, List.getElem_set, List.getElem_map, List.getElem_range]
    by_cases e : i = q
    · subst e; simp
    · rw [if_neg e]
      by_cases h3 : q < i
      · rw [if_pos h3, if_pos (by omega)]
      · rw [if_neg h3, if_neg (by omega)]
theorem ex8 (l : List Int) (h : l.length = 8) : ∃ x0 x1 x2 x3 x4 x5 x6 x7 : Int, uL l = [.int .u64 x0, .int .u64 x1, .int .u64 x2, .int .u64 x3, .int .u64 x4, .int .u64 x5, .int .u64 x6, .int .u64 x7] := by
  match l, h with
  | [x0, x1, x2, x3, x4, x5, x6, x7], _ => exact ⟨x0, x1, x2, x3, x4, x5, x6, x7, rfl⟩
theorem uL_set (l : List Int) (i : Nat) (x : Int) : (uL l).set i (.int .u64 x) = uL (l.set i x) := by unfold uL; rw [List.map_set]
theorem bu_get {b : AV} {l : List AV} {k : Nat} {v : AV} (h : l[k]? = some v) : (b :: l)[1 + k]? = some v := by rw [Nat.add_comm]; simpa using h
theorem bu_set {b : AV} {l : List AV} {k : Nat} {v : AV} : (b :: l).set (1 + k) v = b :: l.set k v := by rw [Nat.add_comm]; rfl
theorem dB_step (n k : Nat) : n / 4294967296 ^ k = 4294967296 * (n / 4294967296 ^ (k + 1)) + dB n k := by
  unfold dB
  rw [Nat.pow_succ, ← Nat.div_div_eq_div_mul]
  omega
theorem mB_step (n k : Nat) : n % 4294967296 ^ (k + 1) = n % 4294967296 ^ k + 4294967296 ^ k * dB n k := by
  unfold dB; rw [Nat.pow_succ, Nat.mod_mul]
theorem dB_zero_of_lt {n k : Nat} (h : n < 4294967296 ^ k) : dB n k = 0 := by unfold dB; rw [Nat.div_eq_of_lt h]
theorem lessB {a b i : Nat} (h : a / 4294967296 ^ (i + 1) = b / 4294967296 ^ (i + 1)) : (dB a i = dB b i → a / 4294967296 ^ i = b / 4294967296 ^ i) ∧ (dB a i ≠ dB b i → (a < b ↔ dB a i < dB b i)) := by
  have ea := dB_step a i
  have eb := dB_step b i
  generalize hA : a / 4294967296 ^ (i + 1) = A at *
  generalize hB : b / 4294967296 ^ (i + 1) = C at *
  refine ⟨fun he => by rw [ea, eb, h, he], fun hn => ?_⟩
  constructor
  · intro hl
    have := Nat.div_le_div_right (c := 4294967296 ^ i) (Nat.le_of_lt hl)
    rw [ea, eb] at this
    omega
  · intro hl
    rcases Nat.lt_or_ge a b with h1 | h1
    · exact h1
    · have := Nat.div_le_div_right (c := 4294967296 ^ i) h1
      rw [ea, eb] at this
      omega
/-- The carry of a sum. -/
def cB (a b i : Nat) : Nat := (a % 4294967296 ^ i + b % 4294967296 ^ i) / 4294967296 ^ i
theorem cB_lt (a b i : Nat) : cB a b i < 2 := by
  unfold cB
  have hp : 0 < 4294967296 ^ i := Nat.pow_pos (by omega)
  rw [Nat.div_lt_iff_lt_mul hp]
  have h1 := Nat.mod_lt a hp; have h2 := Nat.mod_lt b hp
  generalize 4294967296 ^ i = P at *
  omega
theorem cB_zero (a b : Nat) : cB a b 0 = 0 := by simp [cB, Nat.mod_one]
theorem cB_sum (a b i : Nat) : (a % 4294967296 ^ (i + 1) + b % 4294967296 ^ (i + 1)) / 4294967296 ^ i = cB a b i + dB a i + dB b i := by
  have hp : 0 < 4294967296 ^ i := Nat.pow_pos (by omega)
  unfold cB
  rw [mB_step, mB_step]
  generalize 4294967296 ^ i = P at *
  rw [show a % P + P * dB a i + (b % P + P * dB b i) = a % P + b % P + P * (dB a i + dB b i) by rw [Nat.mul_add]; omega, Nat.add_mul_div_left _ _ hp]
  omega
theorem cB_step (a b i : Nat) : cB a b (i + 1) = (cB a b i + dB a i + dB b i) / 4294967296 := by
  rw [← cB_sum, Nat.div_div_eq_div_mul, ← Nat.pow_succ]; rfl
theorem cB_dgt (a b i : Nat) : dB (a + b) i = (cB a b i + dB a i + dB b i) % 4294967296 := by
  have hp : 0 < 4294967296 ^ i := Nat.pow_pos (by omega)
  rw [← cB_sum]
  have ea := Nat.div_add_mod a (4294967296 ^ (i + 1))
  have eb := Nat.div_add_mod b (4294967296 ^ (i + 1))
  have : a + b = a % 4294967296 ^ (i + 1) + b % 4294967296 ^ (i + 1) + 4294967296 ^ i * (4294967296 * (a / 4294967296 ^ (i + 1) + b / 4294967296 ^ (i + 1))) := by
    rw [← Nat.mul_assoc, ← Nat.pow_succ, Nat.mul_add]
    generalize 4294967296 ^ (i + 1) * (a / 4294967296 ^ (i + 1)) = p at *
    generalize 4294967296 ^ (i + 1) * (b / 4294967296 ^ (i + 1)) = q at *
    generalize a % 4294967296 ^ (i + 1) = r at *
    generalize b % 4294967296 ^ (i + 1) = t at *
    omega
  unfold dB
  conv => lhs; rw [this]
  rw [Nat.add_mul_div_left _ _ hp]
  generalize (a % 4294967296 ^ (i + 1) + b % 4294967296 ^ (i + 1)) / 4294967296 ^ i = x
  omega
/-- The borrow of a difference. -/
def eB (a b i : Nat) : Nat := if a % 4294967296 ^ i < b % 4294967296 ^ i then 1 else 0
theorem eB_zero (a b : Nat) : eB a b 0 = 0 := by simp [eB, Nat.mod_one]
theorem eB_le (a b i : Nat) : eB a b i ≤ 1 := by unfold eB; split <;> omega
theorem eB_step (a b i : Nat) : ((eB a b (i + 1) : Nat) : Int) = 1 - (4294967296 + ((dB a i : Nat) : Int) - ((dB b i : Nat) : Int) - ((eB a b i : Nat) : Int)) / 4294967296 := by
  have hp : 0 < 4294967296 ^ i := Nat.pow_pos (by omega)
  have la := Nat.mod_lt a hp; have lb := Nat.mod_lt b hp
  have da := dB_lt a i; have db := dB_lt b i
  unfold eB
  rw [mB_step, mB_step]
  generalize 4294967296 ^ i = P at *
  rcases Nat.lt_trichotomy (dB a i) (dB b i) with h | h | h
  · have := Nat.mul_le_mul_left P (show dB a i + 1 ≤ dB b i by omega)
    rw [Nat.mul_add] at this
    rw [if_pos (by omega)]
    split <;> omega
  · rw [h]
    by_cases h1 : a % P < b % P
    · rw [if_pos (by omega), if_pos h1]; omega
    · rw [if_neg (by omega), if_neg h1]; omega
  · have := Nat.mul_le_mul_left P (show dB b i + 1 ≤ dB a i by omega)
    rw [Nat.mul_add] at this
    rw [if_neg (by omega)]
    split <;> omega
theorem eB_div {a b : Nat} (h : b ≤ a) (i : Nat) : (a - b) / 4294967296 ^ i + eB a b i + b / 4294967296 ^ i = a / 4294967296 ^ i := by
  have hp : 0 < 4294967296 ^ i := Nat.pow_pos (by omega)
  have ea := Nat.div_add_mod a (4294967296 ^ i)
  have eb := Nat.div_add_mod b (4294967296 ^ i)
  have la := Nat.mod_lt a hp; have lb := Nat.mod_lt b hp
  have hd : b / 4294967296 ^ i ≤ a / 4294967296 ^ i := Nat.div_le_div_right h
  unfold eB
  generalize hq : a / 4294967296 ^ i = q at *
  generalize hr : b / 4294967296 ^ i = r at *
  generalize hP : 4294967296 ^ i = P at *
  generalize a % P = x at *
  generalize b % P = y at *
  obtain ⟨d, rfl⟩ : ∃ d, q = r + d := ⟨q - r, by omega⟩
  rw [Nat.mul_add] at ea
  by_cases hxy : x < y
  · rw [if_pos hxy]
    have hd1 : d ≠ 0 := by rintro rfl; omega
    obtain ⟨e, rfl⟩ : ∃ e, d = e + 1 := ⟨d - 1, by omega⟩
    rw [Nat.mul_add P e 1] at ea
    have : a - b = P * e + (P + x - y) := by omega
    rw [this, Nat.mul_add_div hp, Nat.div_eq_of_lt (by omega)]
    omega
  · rw [if_neg hxy]
    have : a - b = P * d + (x - y) := by omega
    rw [this, Nat.mul_add_div hp, Nat.div_eq_of_lt (by omega)]
    omega
theorem eB_dgt {a b : Nat} (h : b ≤ a) (i : Nat) : ((dB (a - b) i : Nat) : Int) = (4294967296 + ((dB a i : Nat) : Int) - ((dB b i : Nat) : Int) - ((eB a b i : Nat) : Int)) % 4294967296 := by
  have h1 := eB_div h i
  have h2 := eB_le a b i
  unfold dB
  generalize (a - b) / 4294967296 ^ i = x at *
  generalize a / 4294967296 ^ i = y at *
  generalize b / 4294967296 ^ i = z at *
  omega
end Go.Proofs.YtoncolpkpgbfiaaDoor
