/- trig: the pair that is turned keeps its size; both squares together are one, but for little (no program in sight). -/
import Derived.Test.YtoncolpkpgbfiaaDoorU1
set_option linter.unusedSimpArgs false
set_option linter.unusedVariables false
set_option maxRecDepth 100000
set_option maxHeartbeats 4000000
namespace Go.Proofs.YtoncolpkpgbfiaaDoor
theorem norm_id (q x y X Y u r : Int) (hx : x = q * X + u) (hy : y = q * Y + r) :
   q * q * ((x - Y) * (x - Y) + (y + X) * (y + X)) = (q * q + 1) * (x * x + y * y) + (2 * r * (q * x - y) + r * r - 2 * u * (q * y + x) + u * u) := by
  subst hx hy
  grind
theorem abs_mul_le {a b A B : Int} (ha : -A ≤ a ∧ a ≤ A) (hb : -B ≤ b ∧ b ≤ B) : -(A * B) ≤ a * b ∧ a * b ≤ A * B := by
  have h := Int.natAbs_mul a b
  have h1 : a.natAbs * b.natAbs ≤ A.toNat * B.toNat := Nat.mul_le_mul (by omega) (by omega)
  have h2 : ((A.toNat * B.toNat : Nat) : Int) = A * B := by rw [Int.natCast_mul, Int.toNat_of_nonneg (by omega), Int.toNat_of_nonneg (by omega)]
  omega
theorem idA (Q N V B : Int) : Q * (N + V + (8 * B + 3)) = Q * (N + V) + 8 * (Q * B) + 3 * Q := by grind
theorem idB (Q N V B : Int) : Q * (N + V - (8 * B + 3)) = Q * (N + V) - 8 * (Q * B) - 3 * Q := by grind
theorem idC (q B : Int) : q * (2 * (q * B)) = 2 * (q * q * B) := by grind
theorem norm_step {q x y X Y u r B : Int} (hq : 1 ≤ q) (hx : x = q * X + u) (hy : y = q * Y + r) (hu : 0 ≤ u ∧ u < q) (hr : 0 ≤ r ∧ r < q) (bx : -B ≤ x ∧ x ≤ B) (bY : -B ≤ y ∧ y ≤ B) (hB : 0 ≤ B) :
    (x - Y) * (x - Y) + (y + X) * (y + X) ≤ (x * x + y * y) + (x * x + y * y) / (q * q) + (8 * B + 3) ∧
    (x * x + y * y) + (x * x + y * y) / (q * q) - (8 * B + 3) ≤ (x - Y) * (x - Y) + (y + X) * (y + X) := by
  have id := norm_id q x y X Y u r hx hy
  clear hx hy
  generalize (x - Y) * (x - Y) + (y + X) * (y + X) = M at *
  generalize x * x + y * y = N at *
  have q2 : 1 ≤ q * q := by have := Int.mul_le_mul_of_nonneg_left hq (show 0 ≤ q by omega); omega
  have a1 := abs_mul_le (A := q) (B := B) (a := q) (b := x) (by omega) bx
  have a2 := abs_mul_le (A := q) (B := B) (a := q) (b := y) (by omega) bY
  have a3 : B ≤ q * B := by have := Int.mul_le_mul_of_nonneg_right hq hB; omega
  have a4 := abs_mul_le (A := q) (B := 2 * (q * B)) (a := r) (b := q * x - y) (by omega) (by omega)
  have a5 := abs_mul_le (A := q) (B := 2 * (q * B)) (a := u) (b := q * y + x) (by omega) (by omega)
  have a6 := abs_mul_le (A := q) (B := q) (a := r) (b := r) (by omega) (by omega)
  have a7 := abs_mul_le (A := q) (B := q) (a := u) (b := u) (by omega) (by omega)
  have e1 : q * (2 * (q * B)) = 2 * (q * q * B) := by grind
  have e2 : 2 * r * (q * x - y) = 2 * (r * (q * x - y)) := by rw [Int.mul_assoc]
  have e3 : 2 * u * (q * y + x) = 2 * (u * (q * y + x)) := by rw [Int.mul_assoc]
  rw [e1] at a4 a5
  rw [e2, e3] at id
  have d := Int.mul_ediv_add_emod N (q * q)
  have d1 := Int.emod_nonneg N (show q * q ≠ 0 by omega)
  have d2 := Int.emod_lt_of_pos N (show 0 < q * q by omega)
  generalize q * q = Q at *
  generalize r * (q * x - y) = t1 at *
  generalize u * (q * y + x) = t2 at *
  generalize r * r = t3 at *
  generalize u * u = t4 at *
  generalize N / Q = V at *
  generalize N % Q = W at *
  -- Q * M = (Q + 1) * N + D, N = Q * V + W
  have f1 : (Q + 1) * N = Q * (N + V) + W := by rw [Int.add_mul, Int.mul_add]; omega
  rw [f1] at id
  constructor
  · have : Q * M ≤ Q * (N + V + (8 * B + 3)) := by
      have := idA Q N V B
      omega
    exact Int.le_of_mul_le_mul_left this (by omega)
  · have : Q * (N + V - (8 * B + 3)) ≤ Q * M := by
      have := idB Q N V B
      omega
    exact Int.le_of_mul_le_mul_left this (by omega)
/-- Bounds of both squares together, step by step. -/
def nmH : Nat → Int
  | 0 => 2 * (495056041134655927 * 495056041134655927)
  | k + 1 => nmH k + nmH k / (2 ^ k * 2 ^ k) + 18446744073709551619
def nmL : Nat → Int
  | 0 => 2 * (495056041134655927 * 495056041134655927)
  | k + 1 => nmL k + nmL k / (2 ^ k * 2 ^ k) - 18446744073709551619
theorem nmH_top : ∀ k, k < 41 → nmH k ≤ 5316911983139663491615228241121378304 := by decide +kernel
theorem nm_end : 1329227995784915872903807060280344576 - 2361183241434822606848 ≤ nmL 40 ∧ nmH 40 ≤ 1329227995784915872903807060280344576 + 2361183241434822606848 := by decide +kernel
theorem sq_bound {x N : Int} (h : x * x ≤ N) (hN : N ≤ 5316911983139663491615228241121378304) : -2305843009213693952 ≤ x ∧ x ≤ 2305843009213693952 := by
  have e : x * x = ((x.natAbs * x.natAbs : Nat) : Int) := by rw [Int.natAbs_mul_self]
  have : x.natAbs ≤ 2305843009213693952 := by
    rcases Nat.lt_or_ge 2305843009213693952 x.natAbs with h1 | h1
    · have := Nat.mul_le_mul (show 2305843009213693953 ≤ x.natAbs from h1) (show 2305843009213693953 ≤ x.natAbs from h1)
      omega
    · exact h1
  omega
theorem sq_nonneg (x : Int) : 0 ≤ x * x := by rw [← Int.natAbs_mul_self]; omega
theorem div_in {y : Int} (k : Nat) (h : -2305843009213693952 ≤ y ∧ y ≤ 2305843009213693952) : -2305843009213693953 ≤ y / 2 ^ k ∧ y / 2 ^ k ≤ 2305843009213693952 := by
  have hp : (0 : Int) < 2 ^ k := Int.pow_pos (by decide)
  have e := Int.mul_ediv_add_emod y (2 ^ k)
  have e1 := Int.emod_nonneg y (show (2 : Int) ^ k ≠ 0 by omega)
  have e2 := Int.emod_lt_of_pos y hp
  generalize (2 : Int) ^ k = p at *
  generalize y / p = v at *
  generalize y % p = r at *
  constructor
  · rcases Int.lt_or_le v (-2305843009213693953) with h1 | h1
    · have : p * v ≤ p * (-2305843009213693954) := Int.mul_le_mul_of_nonneg_left (by omega) (by omega)
      omega
    · exact h1
  · rcases Int.lt_or_le 2305843009213693952 v with h1 | h1
    · have : p * 2305843009213693953 ≤ p * v := Int.mul_le_mul_of_nonneg_left (by omega) (by omega)
      omega
    · exact h1
structure NmP (k : Nat) (p : P3) : Prop where
  lo : nmL k ≤ p.x * p.x + p.y * p.y
  hi : p.x * p.x + p.y * p.y ≤ nmH k
theorem NmP.small {k : Nat} {p : P3} (h : NmP k p) (hk : k < 41) : (-2305843009213693952 ≤ p.x ∧ p.x ≤ 2305843009213693952) ∧ -2305843009213693952 ≤ p.y ∧ p.y ≤ 2305843009213693952 := by
  have hT := nmH_top k hk
  have h1 := h.hi
  have h2 := sq_nonneg p.x
  have h3 := sq_nonneg p.y
  exact ⟨sq_bound (N := nmH k) (by omega) hT, sq_bound (N := nmH k) (by omega) hT⟩
theorem NmP.step {l : Bool} {k : Nat} {p : P3} (hk : k < 40) (h : NmP k p) : NmP (k + 1) (stepP l k p) := by
  obtain ⟨hx, hy⟩ := h.small (by omega)
  have hp : (0 : Int) < 2 ^ k := Int.pow_pos (by decide)
  have dx := div_in k hx
  have dy := div_in k hy
  have lo := h.lo
  have hi := h.hi
  have qq : (0 : Int) < 2 ^ k * 2 ^ k := Int.mul_pos hp hp
  have x1 := (Int.mul_ediv_add_emod p.x (2 ^ k)).symm
  have y1 := (Int.mul_ediv_add_emod p.y (2 ^ k)).symm
  have x2 := Int.emod_nonneg p.x (show (2 : Int) ^ k ≠ 0 by omega)
  have y2 := Int.emod_nonneg p.y (show (2 : Int) ^ k ≠ 0 by omega)
  have x3 := Int.emod_lt_of_pos p.x hp
  have y3 := Int.emod_lt_of_pos p.y hp
  have d1 := Int.ediv_le_ediv qq lo
  have d2 := Int.ediv_le_ediv qq hi
  have eH : nmH (k + 1) = nmH k + nmH k / (2 ^ k * 2 ^ k) + 18446744073709551619 := rfl
  have eL : nmL (k + 1) = nmL k + nmL k / (2 ^ k * 2 ^ k) - 18446744073709551619 := rfl
  cases l
  · have st := norm_step (q := 2 ^ k) (x := p.y) (y := p.x) (B := 2305843009213693952) (by omega) y1 x1 ⟨y2, y3⟩ ⟨x2, x3⟩ hy hx (by decide)
    rw [Int.add_comm (p.y * p.y) (p.x * p.x)] at st
    rw [stepP_right]
    constructor
    · simp only
      rw [wrapI (by omega), wrapI (by omega), Int.add_comm ((p.x + _) * _)]
      omega
    · simp only
      rw [wrapI (by omega), wrapI (by omega), Int.add_comm ((p.x + _) * _)]
      omega
  · have st := norm_step (q := 2 ^ k) (x := p.x) (y := p.y) (B := 2305843009213693952) (by omega) x1 y1 ⟨x2, x3⟩ ⟨y2, y3⟩ hx hy (by decide)
    rw [stepP_left]
    constructor
    · simp only
      rw [wrapI (by omega), wrapI (by omega)]
      omega
    · simp only
      rw [wrapI (by omega), wrapI (by omega)]
      omega
theorem both_norm (z : Int) : NmP 40 (bothP z) := by
  have key : ∀ k, k ≤ 40 → NmP k (runP (fun p => decide (0 ≤ p.z)) ⟨495056041134655927, 495056041134655927, z⟩ k) := by
    intro k
    induction k with
    | zero => intro _; exact ⟨by show nmL 0 ≤ 495056041134655927 * 495056041134655927 + 495056041134655927 * 495056041134655927; decide, by show 495056041134655927 * 495056041134655927 + 495056041134655927 * 495056041134655927 ≤ nmH 0; decide⟩
    | succ k ih => intro hk; exact (ih (by omega)).step (by omega)
  exact key 40 (by omega)
/-- What is rounded is near. -/
theorem rnd_near {z p : Int} (hp : 0 < p) : -p ≤ 2 * (p * rnd z p - z) ∧ 2 * (p * rnd z p - z) ≤ p := by
  have e := Int.mul_ediv_add_emod z p
  have e1 := Int.emod_nonneg z (show p ≠ 0 by omega)
  have e2 := Int.emod_lt_of_pos z hp
  unfold rnd
  rw [Int.mul_add]
  split
  · rw [Int.mul_one]; omega
  · rw [Int.mul_zero]; omega
theorem sq_diff (a b : Int) : a * a - b * b = (a - b) * (a + b) := by grind
theorem sq_near {y s : Int} (hy : -2305843009213693952 ≤ y ∧ y ≤ 2305843009213693952) (h : -1073741824 ≤ 2 * (1073741824 * s - y) ∧ 2 * (1073741824 * s - y) ≤ 1073741824) :
    -4951760157141521099596496896 ≤ 1152921504606846976 * (s * s) - y * y ∧ 1152921504606846976 * (s * s) - y * y ≤ 4951760157141521099596496896 := by
  have e : 1152921504606846976 * (s * s) = (1073741824 * s) * (1073741824 * s) := by rw [show (1152921504606846976 : Int) = 1073741824 * 1073741824 by decide]; grind
  rw [e, sq_diff]
  generalize 1073741824 * s = S at *
  have := abs_mul_le (a := S - y) (b := S + y) (A := 536870912) (B := 9223372036854775808) (by omega) (by omega)
  omega
theorem both_one (z : Int) : -17179869184 ≤ r30 (bothP z).x * r30 (bothP z).x + r30 (bothP z).y * r30 (bothP z).y - 1152921504606846976 ∧ r30 (bothP z).x * r30 (bothP z).x + r30 (bothP z).y * r30 (bothP z).y - 1152921504606846976 ≤ 17179869184 := by
  have h := both_norm z
  obtain ⟨hx, hy⟩ := h.small (by omega)
  have lo := h.lo
  have hi := h.hi
  have en := nm_end
  have r1 := rnd_near (z := (bothP z).x) (p := 1073741824) (by decide)
  have r2 := rnd_near (z := (bothP z).y) (p := 1073741824) (by decide)
  have b1 : r30 (bothP z).x = rnd (bothP z).x 1073741824 := by
    unfold r30; rw [show (2 : Int) ^ 30 = 1073741824 by decide]; unfold bndI; omega
  have b2 : r30 (bothP z).y = rnd (bothP z).y 1073741824 := by
    unfold r30; rw [show (2 : Int) ^ 30 = 1073741824 by decide]; unfold bndI; omega
  rw [b1, b2]
  have n1 := sq_near hx r1
  have n2 := sq_near hy r2
  generalize rnd (bothP z).x 1073741824 * rnd (bothP z).x 1073741824 = A at *
  generalize rnd (bothP z).y 1073741824 * rnd (bothP z).y 1073741824 = C at *
  generalize (bothP z).x * (bothP z).x = X at *
  generalize (bothP z).y * (bothP z).y = Y at *
  omega
/-- Both squares together are one, but for little. -/
theorem sc_one (t : Int) : -17179869184 ≤ sinT t * sinT t + cosT t * cosT t - 1152921504606846976 ∧ sinT t * sinT t + cosT t * cosT t - 1152921504606846976 ≤ 17179869184 := by
  have h := both_one (bothZ t)
  have e : sinT t * sinT t + cosT t * cosT t = cosQ t * cosQ t + sinQ t * sinQ t := by
    have e1 : ∀ a : Int, -a * -a = a * a := fun a => by rw [Int.neg_mul_neg]
    unfold sinT cosT
    split
    · rw [Int.add_comm]
    · split
      · rw [e1]
      · split
        · rw [e1, e1, Int.add_comm]
        · rw [e1]
  rw [e]
  exact h
end Go.Proofs.YtoncolpkpgbfiaaDoor
