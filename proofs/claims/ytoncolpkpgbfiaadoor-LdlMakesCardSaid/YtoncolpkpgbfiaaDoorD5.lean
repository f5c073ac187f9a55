/- Decimals: plain laws of products and quotients, digit by digit. -/
import Derived.Test.YtoncolpkpgbfiaaDoorD4
set_option linter.unusedSimpArgs false
set_option linter.unusedVariables false
set_option maxRecDepth 100000
set_option maxHeartbeats 4000000
namespace Go.Proofs.YtoncolpkpgbfiaaDoor
/-- A list of numbers, told by a function. -/
def fnL (f : Nat → Int) (n : Nat) : List Int := (List.range n).map f
theorem fnL_len (f : Nat → Int) (n : Nat) : (fnL f n).length = n := by simp [fnL]
theorem fnL_getA (f : Nat → Int) {n k : Nat} (h : k < n) : ((fnL f n).map fun x => AV.int .i64 x)[k]? = some (.int .i64 (f k)) := by simp [fnL, h]
theorem fnL_congr {f g : Nat → Int} {n : Nat} (h : ∀ k, k < n → f k = g k) : fnL f n = fnL g n := by
  unfold fnL; exact List.map_congr_left fun k hk => h k (List.mem_range.1 hk)
theorem fnL_setA (f : Nat → Int) (n k : Nat) (v : Int) : ((fnL f n).map fun x => AV.int .i64 x).set k (.int .i64 v) = (fnL (fun i => if i = k then v else f i) n).map fun x => .int .i64 x := by
  apply List.ext_getElem?
  intro i
  rw [List.getElem?_set]
  by_cases hi : i < n
  · rw [fnL_getA _ hi]
    by_cases hk : k = i
    · subst hk
      simp [fnL, hi]
    · rw [if_neg hk, fnL_getA _ hi, if_neg (by omega)]
  · have h1 : ∀ g : Nat → Int, ((fnL g n).map fun x => AV.int .i64 x)[i]? = none := fun g => by
      rw [List.getElem?_eq_none]; simp [fnL]; omega
    rw [h1, h1]
    by_cases hk : k = i
    · subst hk
      simp [fnL, hi]
    · rw [if_neg hk]
theorem fnL_zeros (n : Nat) : zeros [.int .i64 0] n = (fnL (fun _ => 0) n).map fun x => .int .i64 x := by
  unfold zeros fnL
  apply List.ext_getElem?
  intro i
  induction n with
  | zero => rfl
  | succ n ih =>
    rw [List.replicate_succ', List.flatten_append, List.range_succ, List.map_append, List.map_append]
    simp only [List.getElem?_append, List.length_flatten, List.map_replicate, List.sum_replicate_nat, List.length_map, List.length_range]
    rw [ih]
    simp
theorem fnL_dgt (n i : Nat) : fnL (fun k => ((dgt n k : Nat) : Int)) i = dgN n i := rfl
theorem dgt_shift (X i j : Nat) : dgt X (i + j) = dgt (X / 10 ^ i) j := by
  unfold dgt; rw [Nat.pow_add, Nat.div_div_eq_div_mul]
theorem dgt_low {X Y i k : Nat} (h : k < i) : dgt (X + 10 ^ i * Y) k = dgt X k := by
  obtain ⟨m, rfl⟩ : ∃ m, i = k + 1 + m := ⟨i - (k + 1), by omega⟩
  unfold dgt
  rw [Nat.pow_add, Nat.pow_succ, show 10 ^ k * 10 * 10 ^ m * Y = 10 ^ k * (10 * (10 ^ m * Y)) by simp only [Nat.mul_assoc], Nat.add_mul_div_left _ _ (Nat.pow_pos (by omega)), Nat.add_mul_mod_self_left]
/-- The carry of a product by a digit, laid upon a number. -/
def maC (X d b j : Nat) : Nat := (X % 10 ^ j + d * (b % 10 ^ j)) / 10 ^ j
theorem maC_zero (X d b : Nat) : maC X d b 0 = 0 := by simp [maC, Nat.mod_one]
theorem maC_lt {d : Nat} (hd : d < 10) (X b j : Nat) : maC X d b j < 10 := by
  unfold maC
  have hp : 0 < 10 ^ j := Nat.pow_pos (by omega)
  rw [Nat.div_lt_iff_lt_mul hp]
  have h1 := Nat.mod_lt X hp
  have h2 := Nat.mod_lt b hp
  have h3 : d * (b % 10 ^ j) ≤ 9 * (10 ^ j - 1) := Nat.mul_le_mul (by omega) (by omega)
  generalize d * (b % 10 ^ j) = t at *
  generalize 10 ^ j = p at *
  omega
theorem maC_sum (X d b j : Nat) : (X % 10 ^ (j + 1) + d * (b % 10 ^ (j + 1))) / 10 ^ j = maC X d b j + dgt X j + d * dgt b j := by
  have hp : 0 < 10 ^ j := Nat.pow_pos (by omega)
  rw [mod_step, mod_step, show X % 10 ^ j + 10 ^ j * dgt X j + d * (b % 10 ^ j + 10 ^ j * dgt b j) = X % 10 ^ j + d * (b % 10 ^ j) + 10 ^ j * (dgt X j + d * dgt b j) by
    rw [Nat.mul_add, Nat.mul_add, ← Nat.mul_assoc d, Nat.mul_comm d (10 ^ j), Nat.mul_assoc]; omega, Nat.add_mul_div_left _ _ hp]
  unfold maC; omega
theorem maC_step (X d b j : Nat) : maC X d b (j + 1) = (maC X d b j + dgt X j + d * dgt b j) / 10 := by
  rw [← maC_sum, Nat.div_div_eq_div_mul, ← Nat.pow_succ]; rfl
theorem maC_dgt (X d b j : Nat) : dgt (X + d * b) j = (maC X d b j + dgt X j + d * dgt b j) % 10 := by
  have hp : 0 < 10 ^ j := Nat.pow_pos (by omega)
  rw [← maC_sum]
  have ea := Nat.div_add_mod X (10 ^ (j + 1))
  have eb := Nat.div_add_mod b (10 ^ (j + 1))
  have : X + d * b = X % 10 ^ (j + 1) + d * (b % 10 ^ (j + 1)) + 10 ^ j * (10 * (X / 10 ^ (j + 1) + d * (b / 10 ^ (j + 1)))) := by
    rw [← Nat.mul_assoc (10 ^ j), ← Nat.pow_succ, Nat.mul_add]
    conv => lhs; rw [← eb, Nat.mul_add d]
    have e3 : d * (10 ^ (j + 1) * (b / 10 ^ (j + 1))) = 10 ^ (j + 1) * (d * (b / 10 ^ (j + 1))) := by
      rw [← Nat.mul_assoc, Nat.mul_comm d, Nat.mul_assoc]
    rw [e3]
    generalize 10 ^ (j + 1) * (X / 10 ^ (j + 1)) = p at *
    generalize 10 ^ (j + 1) * (d * (b / 10 ^ (j + 1))) = q at *
    generalize d * (b % 10 ^ (j + 1)) = t at *
    generalize X % 10 ^ (j + 1) = r at *
    omega
  unfold dgt
  conv => lhs; rw [this]
  rw [Nat.add_mul_div_left _ _ hp]; omega
/-- A product's rows: what the first i digits give. -/
def muX (a b i : Nat) : Nat := a % 10 ^ i * b
theorem muX_zero (a b : Nat) : muX a b 0 = 0 := by simp [muX, Nat.mod_one]
theorem muX_step (a b i : Nat) : muX a b (i + 1) = muX a b i + 10 ^ i * (dgt a i * b) := by
  unfold muX; rw [mod_step, Nat.add_mul, Nat.mul_assoc]
theorem muX_high (a b i : Nat) : muX a b (i + 1) / 10 ^ i = muX a b i / 10 ^ i + dgt a i * b := by
  rw [muX_step, Nat.add_mul_div_left _ _ (Nat.pow_pos (by omega))]
theorem muX_end {a i : Nat} (b : Nat) (h : a < 10 ^ i) : muX a b i = a * b := by unfold muX; rw [Nat.mod_eq_of_lt h]
theorem muX_lt (a b i : Nat) : muX a b i < 10 ^ (i + lenD b) := by
  unfold muX
  have hp : 0 < 10 ^ i := Nat.pow_pos (by omega)
  have h1 := Nat.mod_lt a hp
  have h2 := lt_pow_lenD b
  rw [Nat.pow_add]
  rcases Nat.eq_zero_or_pos b with h | h
  · subst h
    rw [Nat.mul_zero]
    exact Nat.mul_pos hp (Nat.pow_pos (by omega))
  · exact Nat.mul_lt_mul'' h1 h2
/-- The cells in the middle of a row: below p the new digits. -/
def mxD (X Z p k : Nat) : Int := if k < p then ((dgt Z k : Nat) : Int) else ((dgt X k : Nat) : Int)
theorem mxD_begin (a b i k : Nat) : mxD (muX a b i) (muX a b (i + 1)) i k = ((dgt (muX a b i) k : Nat) : Int) := by
  unfold mxD
  split
  · rw [muX_step, dgt_low (by assumption)]
  · rfl
theorem mxD_at (X Z p : Nat) : mxD X Z p p = ((dgt X p : Nat) : Int) := by unfold mxD; rw [if_neg (by omega)]
theorem mxD_set (X Z p : Nat) : (fun k => if k = p then ((dgt Z p : Nat) : Int) else mxD X Z p k) = mxD X Z (p + 1) := by
  funext k
  unfold mxD
  by_cases h : k = p
  · subst h; rw [if_pos rfl, if_pos (by omega)]
  · rw [if_neg h]
    by_cases h2 : k < p
    · rw [if_pos h2, if_pos (by omega)]
    · rw [if_neg h2, if_neg (by omega)]
theorem mxD_end {a b i k n : Nat} (hk : k < n) : mxD (muX a b i) (muX a b (i + 1)) (i + lenD b + 1) k = ((dgt (muX a b (i + 1)) k : Nat) : Int) := by
  unfold mxD
  split
  · rfl
  · rename_i h
    have h1 := muX_lt a b i
    have h2 := muX_lt a b (i + 1)
    have e1 : dgt (muX a b i) k = 0 := dgt_zero_of_lt (Nat.lt_of_lt_of_le h1 (Nat.pow_le_pow_right (by omega) (by omega)))
    have e2 : dgt (muX a b (i + 1)) k = 0 := dgt_zero_of_lt (Nat.lt_of_lt_of_le h2 (Nat.pow_le_pow_right (by omega) (by omega)))
    rw [e1, e2]
/-! quotients, digit by digit -/
theorem quD_dgt {A B : Nat} (hB : 0 < B) (i : Nat) : dgt (A / B) i = (10 * (A / 10 ^ (i + 1) % B) + dgt A i) / B ∧ A / 10 ^ i % B = (10 * (A / 10 ^ (i + 1) % B) + dgt A i) % B := by
  have h1 := div_step A i
  have h2 := Nat.div_add_mod (A / 10 ^ (i + 1)) B
  have h3 := Nat.mod_lt (A / 10 ^ (i + 1)) hB
  have h4 := dgt_lt A i
  have e1 : A / B / 10 ^ i = A / 10 ^ i / B := by rw [Nat.div_div_eq_div_mul, Nat.mul_comm, ← Nat.div_div_eq_div_mul]
  have e2 : A / 10 ^ i = (10 * (A / 10 ^ (i + 1) % B) + dgt A i) + B * (10 * (A / 10 ^ (i + 1) / B)) := by
    rw [h1]
    conv => lhs; rw [← h2]
    rw [Nat.mul_add, ← Nat.mul_assoc B, Nat.mul_comm B 10, Nat.mul_assoc 10]
    omega
  refine ⟨?_, ?_⟩
  · have h5 : (10 * (A / 10 ^ (i + 1) % B) + dgt A i) / B < 10 := by
      rw [Nat.div_lt_iff_lt_mul hB]
      omega
    show A / B / 10 ^ i % 10 = _
    rw [e1, e2, Nat.add_mul_div_left _ _ hB]
    generalize (10 * (A / 10 ^ (i + 1) % B) + dgt A i) / B = q at *
    generalize A / 10 ^ (i + 1) / B = r at *
    omega
  · conv => lhs; rw [e2]
    rw [Nat.add_mul_mod_self_left]
theorem dgt_cons_zero {d : Nat} (h : d < 10) (R : Nat) : dgt (10 * R + d) 0 = d := by unfold dgt; rw [Nat.pow_zero, Nat.div_one]; omega
theorem dgt_cons {d : Nat} (h : d < 10) (R k : Nat) : dgt (10 * R + d) (k + 1) = dgt R k := by
  unfold dgt
  rw [Nat.pow_succ, Nat.mul_comm (10 ^ k), ← Nat.div_div_eq_div_mul, show (10 * R + d) / 10 = R by omega]
theorem dgN_cons {d : Nat} (h : d < 10) (R k : Nat) : (d : Int) :: dgN R k = dgN (10 * R + d) (k + 1) := by
  unfold dgN
  rw [List.range_succ_eq_map, List.map_cons, dgt_cons_zero h, List.map_map]
  congr 1
  exact List.map_congr_left fun j _ => by rw [Function.comp_apply, dgt_cons h]
theorem digs_consA {d : Nat} (h : d < 10) (R : Nat) : AV.int .i64 (d : Int) :: (digs R).map (fun x => AV.int .i64 x) = (dgN (10 * R + d) (lenD R + 1)).map fun x => .int .i64 x := by
  rw [← dgN_cons h]; rfl
theorem cons_lt {d : Nat} (h : d < 10) (R : Nat) : 10 * R + d < 10 ^ (lenD R + 1) := by
  have := lt_pow_lenD R
  rw [Nat.pow_succ]
  omega
theorem lenD_mul {a b k m : Nat} (ha : lenD a ≤ k) (hb : lenD b ≤ m) : lenD (a * b) ≤ k + m := (lenD_le _ _).2 (by
  have h1 := (lenD_le _ _).1 ha
  have h2 := (lenD_le _ _).1 hb
  rw [Nat.pow_add]
  rcases Nat.eq_zero_or_pos b with h | h
  · subst h
    rw [Nat.mul_zero]
    exact Nat.mul_pos (Nat.pow_pos (by omega)) (Nat.pow_pos (by omega))
  · exact Nat.mul_lt_mul'' h1 h2)
theorem lenD_le_of {n k : Nat} (h : n < 10 ^ k) : lenD n ≤ k := (lenD_le _ _).2 h
end Go.Proofs.YtoncolpkpgbfiaaDoor
