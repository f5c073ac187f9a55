/- grow: the logarithm (what layer 9 needs). -/
import Derived.Test.YtoncolpkpgbfiaaDoorQ8
import Derived.Test.YtoncolpkpgbfiaaDoorEvV
set_option linter.unusedSimpArgs false
set_option linter.unusedVariables false
set_option maxRecDepth 100000
set_option maxHeartbeats 8000000
namespace Go.Proofs.YtoncolpkpgbfiaaDoor
theorem rndG_le {z p C : Int} (hp : 0 < p) (h : -(C * p) ≤ z ∧ z ≤ C * p) : -C ≤ rnd z p ∧ rnd z p ≤ C := by
  have e1 := Int.mul_ediv_add_emod z p
  have e2 := Int.emod_nonneg z (show p ≠ 0 by omega)
  have e3 := Int.emod_lt_of_pos z hp
  have h1 : z / p ≤ C := Int.ediv_le_of_le_mul hp h.2
  have h2 : -C ≤ z / p := by rw [Int.le_ediv_iff_mul_le hp, Int.neg_mul]; exact h.1
  unfold rnd
  refine ⟨by split <;> omega, ?_⟩
  rcases Int.lt_or_eq_of_le h1 with h3 | h3
  · split <;> omega
  · have h4 : z % p = 0 := by
      rw [h3, Int.mul_comm] at e1
      omega
    rw [if_neg (by omega)]; omega
theorem rndG_pos {z p : Int} (hp : 0 < p) (h : 0 ≤ z) : 0 ≤ rnd z p := by
  have h1 : 0 ≤ z / p := Int.ediv_nonneg h (by omega)
  unfold rnd
  split <;> omega
/-- A product with fifty bits behind the point. -/
def tmG (a b : Int) : Int := bndI (rnd (a * b) (2 ^ 50))
def oneG : Int := 1125899906842624
theorem tmG_in {a b : Int} (ha : 0 ≤ a ∧ a ≤ 1125899906842624) (hb : 0 ≤ b ∧ b ≤ 1125899906842624) : 0 ≤ tmG a b ∧ tmG a b ≤ a := by
  have h1 : 0 ≤ a * b := Int.mul_nonneg ha.1 hb.1
  have h2 : a * b ≤ a * 1125899906842624 := Int.mul_le_mul_of_nonneg_left hb.2 ha.1
  have h3 := rndG_pos (z := a * b) (p := 2 ^ 50) (by decide) h1
  have h4 := rndG_le (z := a * b) (p := 2 ^ 50) (C := a) (by decide) (by
    have e : (2 : Int) ^ 50 = 1125899906842624 := by decide
    rw [e]; omega)
  unfold tmG bndI
  omega
def fT (r : Int) : Nat → Int
  | 0 => 1125899906842624
  | n + 1 => (tmG (fT r n) r).tdiv ((n + 1 : Nat) : Int)
def fS (r : Int) : Nat → Int
  | 0 => 1125899906842624
  | n + 1 => if (n + 1) % 2 = 1 then fS r n - fT r (n + 1) else fS r n + fT r (n + 1)
theorem tdiv_in {a d B : Int} (ha : 0 ≤ a ∧ a ≤ B) (hd : 1 ≤ d) : 0 ≤ a.tdiv d ∧ a.tdiv d ≤ B := by
  rw [Int.tdiv_eq_ediv_of_nonneg ha.1]
  have h1 := Int.ediv_nonneg ha.1 (show 0 ≤ d by omega)
  have h2 := Int.ediv_le_self d ha.1
  omega
theorem fT_in {r : Int} (hr : 0 ≤ r ∧ r ≤ 1125899906842624) (n : Nat) : 0 ≤ fT r n ∧ fT r n ≤ 1125899906842624 := by
  induction n with
  | zero => unfold fT; omega
  | succ n ih =>
    have h := tmG_in ih hr
    exact tdiv_in ⟨h.1, by omega⟩ (by omega)
theorem fS_in {r : Int} (hr : 0 ≤ r ∧ r ≤ 1125899906842624) (n : Nat) : -((n + 1 : Nat) : Int) * 1125899906842624 ≤ fS r n ∧ fS r n ≤ ((n + 1 : Nat) : Int) * 1125899906842624 := by
  induction n with
  | zero => unfold fS; omega
  | succ n ih =>
    have h := fT_in hr (n + 1)
    unfold fS
    split <;> omega
/-- What two to the power of sixty-three, and more, leaves of a number of 62 bits. -/
theorem rnd_far {z : Int} (k : Nat) (hk : 63 ≤ k) (h : -4611686018427387904 ≤ z ∧ z ≤ 4611686018427387904) : rnd z (2 ^ k) = 0 := by
  have hp : (9223372036854775808 : Int) ≤ 2 ^ k := by
    obtain ⟨j, rfl⟩ : ∃ j, k = 63 + j := ⟨k - 63, by omega⟩
    rw [Int.pow_add]
    have h1 : (1 : Int) ≤ 2 ^ j := Int.pow_pos (by decide)
    have h2 : (2 : Int) ^ 63 = 9223372036854775808 := by decide
    rw [h2]
    omega
  generalize (2 : Int) ^ k = p at *
  have e1 := Int.mul_ediv_add_emod z p
  have e2 := Int.emod_nonneg z (show p ≠ 0 by omega)
  have e3 := Int.emod_lt_of_pos z (show 0 < p by omega)
  unfold rnd
  rcases Int.lt_or_le z 0 with hz | hz
  · have hq : z / p = -1 := by
      have h1 : z / p < 0 := Int.ediv_neg_of_neg_of_pos hz (by omega)
      have h2 : -1 ≤ z / p := by rw [Int.le_ediv_iff_mul_le (by omega)]; omega
      omega
    rw [hq] at e1 ⊢
    rw [if_pos (by omega)]; rfl
  · have hq : z / p = 0 := Int.ediv_eq_zero_of_lt hz (by omega)
    rw [hq] at e1 ⊢
    rw [if_neg (by omega)]; rfl
/-- e to the power of a number that is not above 0. -/
def expG (x : Int) : Int :=
  if x < -47185920 then 0 else bndI (rnd (fS (-x * 1073741824 % 780414346020670) 20) (2 ^ (20 + (-x * 1073741824 / 780414346020670).toNat)))
theorem expG_in (x : Int) : -4611686018427387903 ≤ expG x ∧ expG x ≤ 4611686018427387903 := by
  unfold expG
  split
  · omega
  · unfold bndI; omega
noncomputable def c119 : Code := Tryd.f119.body.getD .skip
theorem b119 : Tryd.f119.body = some c119 := rfl
theorem d119 : fnOk Tryd.f119 c119 = true := by kernel_rfl
def D119 : Nat → List Tag := fun _ => []
theorem e119 : drawsOk D119 c119 = true := by kernel_rfl
theorem timesG_ok (a b : Int) (S : Heap) (ha : inI a) (hb : inI b) : Call theE 119 [.int .i64 a, .int .i64 b] S (.int .i64 (tmG a b)) S := by
  have m := fun S => mul_ok a b 50 S (by omega) ha hb
  change ∀ S, Call theE _ [_, _, .int .i64 50] _ (.tup [.int .i64 (tmG a b), _, _]) _ at m
  generalize ovrB (rnd (a * b) (2 ^ 50)) = o at m
  refine Call.ofC Tryd.func119 YtoncolpkpgbfiaaDoor.b119 YtoncolpkpgbfiaaDoor.d119 YtoncolpkpgbfiaaDoor.e119 (by simp [Tryd.f119]) ?_
  dsimp only [YtoncolpkpgbfiaaDoor.c119, Tryd.f119, Option.getD_some]
  simp (maxSteps := 2000000) only [wk0, wk1, wk2, wk3, wk4, wk5, wk6, Fr.ev, Fr.put, Fr.get, storeA, List.replicate, IntKind.bits, sevalprocAttr, YtoncolpkpgbfiaaDoor.D119, ty2, ty3, ty4, ty30]
  refine callThen_of (m _) ?_
  simp (maxSteps := 2000000) only [wk0, wk1, wk2, wk3, wk4, wk5, wk6, Fr.ev, Fr.put, Fr.get, storeA, List.replicate, IntKind.bits, sevalprocAttr, YtoncolpkpgbfiaaDoor.D119, ty2, ty3, ty4, ty30]
  exact retB_plain (by simp [nmd_int]) rfl (by simp)
theorem lt_lenU {k n : Nat} (hn : n ≠ 0) : k < lenU n ↔ 2 ^ k ≤ n := by
  unfold lenU
  rw [if_neg hn, Nat.lt_succ_iff, Nat.le_log2 hn]
def logM (X : Nat) : Nat := X / 2 ^ (lenU X - 51) * 2 ^ (51 - lenU X)
theorem lenG_in {X : Nat} (h0 : X ≠ 0) (h1 : X < 4611686018427387904) : 1 ≤ lenU X ∧ lenU X ≤ 62 := by
  have a := (lt_lenU (k := 0) h0).2 (by omega)
  have b : ¬ 62 < lenU X := fun h => by have := (lt_lenU h0).1 h; omega
  omega
theorem logM_in {X : Nat} (h0 : X ≠ 0) : 1125899906842624 ≤ logM X ∧ logM X < 2251799813685248 := by
  have hB := (lt_lenU (k := 0) h0).2 (by omega)
  obtain ⟨B, hBe⟩ : ∃ B, lenU X = B + 1 := ⟨lenU X - 1, by omega⟩
  have lo := (lt_lenU (k := B) h0).1 (by omega)
  have hi : X < 2 ^ (B + 1) := by
    rcases Nat.lt_or_ge X (2 ^ (B + 1)) with h | h
    · exact h
    · have := (lt_lenU (k := B + 1) h0).2 h; omega
  unfold logM
  rw [hBe]
  rcases Nat.lt_or_ge B 50 with h | h
  · rw [show B + 1 - 51 = 0 by omega, Nat.pow_zero, Nat.div_one]
    have e1 : 2 ^ B * 2 ^ (51 - (B + 1)) = 1125899906842624 := by rw [← Nat.pow_add, show B + (51 - (B + 1)) = 50 by omega]
    have e2 : 2 ^ (B + 1) * 2 ^ (51 - (B + 1)) = 2251799813685248 := by rw [← Nat.pow_add, show B + 1 + (51 - (B + 1)) = 51 by omega]
    have hp := Nat.two_pow_pos (51 - (B + 1))
    refine ⟨?_, ?_⟩
    · rw [← e1]; exact Nat.mul_le_mul_right _ lo
    · rw [← e2]; exact Nat.mul_lt_mul_of_pos_right hi hp
  · rw [show 51 - (B + 1) = 0 by omega, Nat.pow_zero, Nat.mul_one]
    have hp := Nat.two_pow_pos (B + 1 - 51)
    have e1 : 1125899906842624 * 2 ^ (B + 1 - 51) = 2 ^ B := by rw [show (1125899906842624 : Nat) = 2 ^ 50 by decide, ← Nat.pow_add, show 50 + (B + 1 - 51) = B by omega]
    have e2 : 2251799813685248 * 2 ^ (B + 1 - 51) = 2 ^ (B + 1) := by rw [show (2251799813685248 : Nat) = 2 ^ 51 by decide, ← Nat.pow_add, show 51 + (B + 1 - 51) = B + 1 by omega]
    refine ⟨?_, ?_⟩
    · rw [Nat.le_div_iff_mul_le hp, e1]; exact lo
    · rw [Nat.div_lt_iff_lt_mul hp, e2]; exact hi
theorem log_dn {X i : Nat} (h0 : X ≠ 0) : 2251799813685248 ≤ X / 2 ^ i ↔ i < lenU X - 51 := by
  rw [Nat.le_div_iff_mul_le (Nat.two_pow_pos i), show (2251799813685248 : Nat) = 2 ^ 51 by decide, ← Nat.pow_add, ← lt_lenU h0]
  omega
theorem log_up {X j : Nat} (h0 : X ≠ 0) (hj : j ≤ 51 - lenU X) : X / 2 ^ (lenU X - 51) * 2 ^ j < 1125899906842624 ↔ j < 51 - lenU X := by
  have hm := logM_in h0
  have hB := (lt_lenU (k := 0) h0).2 (by omega)
  unfold logM at hm
  rcases Nat.lt_or_ge (lenU X) 51 with h | h
  · rw [show lenU X - 51 = 0 by omega, Nat.pow_zero, Nat.div_one]
    have hp := Nat.two_pow_pos j
    have e : 1125899906842624 = 2 ^ (50 - j) * 2 ^ j := by rw [← Nat.pow_add, show 50 - j + j = 50 by omega]
    rw [e, Nat.mul_lt_mul_right hp]
    have := lt_lenU (k := 50 - j) h0
    omega
  · have e : 51 - lenU X = 0 := by omega
    obtain rfl : j = 0 := by omega
    rw [e] at hm ⊢
    omega
def logS0 (m : Int) : Int := bndI (rnd ((m - 1125899906842624) * 2 ^ 50) (m + 1125899906842624))
def rsS (s q : Int) : Nat → Int
  | 0 => s
  | n + 1 => tmG (rsS s q n) q
def rsU (s q : Int) : Nat → Int
  | 0 => 0
  | n + 1 => rsU s q n + (rsS s q n).tdiv ((2 * n + 1 : Nat) : Int)
def riseV (m : Int) : Int := 2 * rsU (logS0 m) (tmG (logS0 m) (logS0 m)) 20
theorem logS0_in {m : Int} (h : 1125899906842624 ≤ m ∧ m < 2251799813685248) : 0 ≤ logS0 m ∧ logS0 m ≤ 1125899906842624 := by
  have e : (2 : Int) ^ 50 = 1125899906842624 := by decide
  have h1 : 0 ≤ (m - 1125899906842624) * 2 ^ 50 := Int.mul_nonneg (by omega) (by decide)
  have h2 := rndG_pos (p := m + 1125899906842624) (by omega) h1
  have h3 := rndG_le (z := (m - 1125899906842624) * 2 ^ 50) (p := m + 1125899906842624) (C := 1125899906842624) (by omega) (by rw [e]; omega)
  unfold logS0 bndI
  omega
theorem rsS_in {s q : Int} (hs : 0 ≤ s ∧ s ≤ 1125899906842624) (hq : 0 ≤ q ∧ q ≤ 1125899906842624) (n : Nat) : 0 ≤ rsS s q n ∧ rsS s q n ≤ 1125899906842624 := by
  induction n with
  | zero => exact hs
  | succ n ih =>
    have h := tmG_in ih hq
    have e : rsS s q (n + 1) = tmG (rsS s q n) q := rfl
    omega
theorem rsU_in {s q : Int} (hs : 0 ≤ s ∧ s ≤ 1125899906842624) (hq : 0 ≤ q ∧ q ≤ 1125899906842624) (n : Nat) : 0 ≤ rsU s q n ∧ rsU s q n ≤ (n : Int) * 1125899906842624 := by
  induction n with
  | zero => unfold rsU; omega
  | succ n ih =>
    have h := tdiv_in (d := ((2 * n + 1 : Nat) : Int)) (rsS_in hs hq n) (by omega)
    have e : rsU s q (n + 1) = rsU s q n + (rsS s q n).tdiv ((2 * n + 1 : Nat) : Int) := rfl
    omega
/-- The logarithm of a number above 0, with so many bits behind the point. -/
def logV (x b : Int) : Int := bndI (rnd (riseV (logM x.toNat) + ((lenU x.toNat : Nat) - 1 - b) * 780414346020670) (2 ^ 30))
theorem quo_pos {a b : Int} (ha : 0 ≤ a) (hb : 0 < b) (n : Nat) : (if (a < 0) ↔ (b < 0) then rnd (a.natAbs * 2 ^ n) b.natAbs else -(rnd (a.natAbs * 2 ^ n) b.natAbs)) = rnd (a * 2 ^ n) b := by
  rw [if_pos (by omega), Int.natAbs_of_nonneg ha, Int.natAbs_of_nonneg (by omega)]
noncomputable def c111 : Code := Tryd.f111.body.getD .skip
theorem b111 : Tryd.f111.body = some c111 := rfl
theorem d111 : fnOk Tryd.f111 c111 = true := by kernel_rfl
def D111 : Nat → List Tag := fun _ => []
theorem e111 : drawsOk D111 c111 = true := by kernel_rfl
noncomputable def c80 : Code := Tryd.f80.body.getD .skip
theorem b80 : Tryd.f80.body = some c80 := rfl
theorem d80 : fnOk Tryd.f80 c80 = true := by kernel_rfl
def D80 : Nat → List Tag := fun _ => []
theorem e80 : drawsOk D80 c80 = true := by kernel_rfl
theorem rise_ok (m : Int) (S : Heap) (hm : 1125899906842624 ≤ m ∧ m < 2251799813685248) : Call theE 111 [.int .i64 m] S (.int .i64 (riseV m)) S := by
  have w1 : IntKind.i64.wrap (m - 1125899906842624) = m - 1125899906842624 := wrapI (by omega)
  have w2 : IntKind.i64.wrap (m + 1125899906842624) = m + 1125899906842624 := wrapI (by omega)
  have d : ∀ S, ∃ o, Call theE 78 [.int .i64 (m - 1125899906842624), .int .i64 (m + 1125899906842624), .int .i64 50] S (.tup [.int .i64 (logS0 m), .bool o, .nili]) S := fun S => by
    obtain ⟨v, hv, hc⟩ := div_ok (m - 1125899906842624) (m + 1125899906842624) 50 S (by unfold inI; omega) (by unfold inI; omega) (by omega) (by omega)
    rw [quo_pos (by omega) (by omega)] at hv
    subst hv
    exact ⟨_, hc⟩
  have hs := logS0_in hm
  have hq := tmG_in hs hs
  have t0 := fun S => timesG_ok (logS0 m) (logS0 m) S (by unfold inI; omega) (by unfold inI; omega)
  unfold riseV
  generalize logS0 m = s at *
  generalize tmG s s = q at *
  obtain ⟨o, dS⟩ := d S
  refine Call.ofC Tryd.func111 YtoncolpkpgbfiaaDoor.b111 YtoncolpkpgbfiaaDoor.d111 YtoncolpkpgbfiaaDoor.e111 (by simp [Tryd.f111]) ?_
  dsimp only [YtoncolpkpgbfiaaDoor.c111, Tryd.f111, Option.getD_some]
  simp (maxSteps := 2000000) only [wk0, wk1, wk2, wk3, wk4, wk5, wk6, Fr.ev, Fr.put, Fr.get, storeA, List.replicate, IntKind.bits, sevalprocAttr, w1, w2, YtoncolpkpgbfiaaDoor.D111, ty2, ty3, ty4, ty30]
  refine callThen_of (dS) ?_
  simp (maxSteps := 2000000) only [wk0, wk1, wk2, wk3, wk4, wk5, wk6, Fr.ev, Fr.put, Fr.get, storeA, List.replicate, IntKind.bits, sevalprocAttr, w1, w2, YtoncolpkpgbfiaaDoor.D111, ty2, ty3, ty4, ty30]
  refine callThen_of (t0 _) ?_
  simp (maxSteps := 2000000) only [wk0, wk1, wk2, wk3, wk4, wk5, wk6, Fr.ev, Fr.put, Fr.get, storeA, List.replicate, IntKind.bits, sevalprocAttr, w1, w2, YtoncolpkpgbfiaaDoor.D111, ty2, ty3, ty4, ty30]
  refine loopC_ind (fun m fr H => ∃ n : Nat, n + m = 20 ∧ fr.get 3 = .int .i64 (rsS s q n) ∧ fr.get 6 = .int .i64 q ∧ fr.get 7 = .int .i64 (rsU s q n) ∧ fr.get 8 = .int .i64 (n : Int) ∧ H = S) ?_ (n := 20) ⟨0, by omega, rfl, rfl, rfl, rfl, rfl⟩
  rintro m' fr H ⟨n, hnm, g3, g6, g7, g8, rfl⟩ ih
  have h1 := rsS_in hs (show 0 ≤ q ∧ q ≤ 1125899906842624 by omega) n
  have h3 := rsU_in hs (show 0 ≤ q ∧ q ≤ 1125899906842624 by omega) n
  by_cases hn : (n : Int) < 20
  · have h4 := rsU_in hs (show 0 ≤ q ∧ q ≤ 1125899906842624 by omega) (n + 1)
    have h5 := tdiv_in (d := ((2 * n + 1 : Nat) : Int)) h1 (by omega)
    have tm := fun S => timesG_ok (rsS s q n) q S (by unfold inI; omega) (by unfold inI; omega)
    have wi : IntKind.i64.wrap ((n : Int) + 1) = ((n + 1 : Nat) : Int) := wrapI (by omega)
    have wa : IntKind.i64.wrap (2 * (n : Int)) = 2 * (n : Int) := wrapI (by omega)
    have wb : IntKind.i64.wrap (2 * (n : Int) + 1) = ((2 * n + 1 : Nat) : Int) := by rw [wrapI (by omega)]; omega
    have n0 : ¬ ((2 * n + 1 : Nat) : Int) = 0 := by omega
    have wc : IntKind.i64.wrap ((rsS s q n).tdiv ((2 * n + 1 : Nat) : Int)) = (rsS s q n).tdiv ((2 * n + 1 : Nat) : Int) := wrapI (by omega)
    have eu : rsU s q n + (rsS s q n).tdiv ((2 * n + 1 : Nat) : Int) = rsU s q (n + 1) := rfl
    have wd : IntKind.i64.wrap (rsU s q (n + 1)) = rsU s q (n + 1) := wrapI (by omega)
    simp (maxSteps := 2000000) only [wk0, wk1, wk2, wk3, wk4, wk5, wk6, Fr.ev, Fr.put, Fr.get, storeA, List.replicate, IntKind.bits, sevalprocAttr, g3, g6, g7, g8, hn, wi, wa, wb, n0, wc, eu, wd, YtoncolpkpgbfiaaDoor.D111, ty2, ty3, ty4, ty30]
    refine callThen_of (tm _) ?_
    simp (maxSteps := 2000000) only [wk0, wk1, wk2, wk3, wk4, wk5, wk6, Fr.ev, Fr.put, Fr.get, storeA, List.replicate, IntKind.bits, sevalprocAttr, g3, g6, g7, g8, hn, wi, wa, wb, n0, wc, eu, wd, YtoncolpkpgbfiaaDoor.D111, ty2, ty3, ty4, ty30]
    exact ih (m' - 1) _ _ (by omega) ⟨n + 1, by omega, by simp [Fr.get, rsS], by simp [Fr.get, g6], by simp [Fr.get], by simp [Fr.get], rfl⟩
  · obtain rfl : n = 20 := by omega
    have w3 : IntKind.i64.wrap (2 * rsU s q 20) = 2 * rsU s q 20 := wrapI (by omega)
    simp (maxSteps := 2000000) only [wk0, wk1, wk2, wk3, wk4, wk5, wk6, Fr.ev, Fr.put, Fr.get, storeA, List.replicate, IntKind.bits, sevalprocAttr, g3, g6, g7, g8, hn, w3, YtoncolpkpgbfiaaDoor.D111, ty2, ty3, ty4, ty30]
    exact retB_plain (by simp [nmd_int]) rfl (by simp)
theorem riseV_in {m : Int} (h : 1125899906842624 ≤ m ∧ m < 2251799813685248) : 0 ≤ riseV m ∧ riseV m ≤ 45035996273704960 := by
  have hs := logS0_in h
  have hq := tmG_in hs hs
  have := rsU_in hs (show 0 ≤ tmG (logS0 m) (logS0 m) ∧ tmG (logS0 m) (logS0 m) ≤ 1125899906842624 by omega) 20
  unfold riseV
  omega
theorem log_bad (x b : Int) (S : Heap) (h : ¬ ((1 ≤ x ∧ x ≤ 4611686018427387903) ∧ 0 ≤ b ∧ b ≤ 62)) : Call theE 80 [.int .i64 x, .int .i64 b] S (.tup [.int .i64 0, errA 1]) S := by
  refine Call.ofC Tryd.func80 YtoncolpkpgbfiaaDoor.b80 YtoncolpkpgbfiaaDoor.d80 YtoncolpkpgbfiaaDoor.e80 (by simp [Tryd.f80]) ?_
  dsimp only [YtoncolpkpgbfiaaDoor.c80, Tryd.f80, Option.getD_some]
  by_cases h1 : x < 1
  · simp (maxSteps := 2000000) only [wk0, wk1, wk2, wk3, wk4, wk5, wk6, Fr.ev, Fr.put, Fr.get, storeA, List.replicate, IntKind.bits, sevalprocAttr, h1, decide_true, decide_false, YtoncolpkpgbfiaaDoor.D80, ty2, ty3, ty4, ty30, ty75, ty151]
    exact retB_plain (by simp [nmd_int, nmd_ifc]) rfl (by simp)
  · by_cases h2 : 4611686018427387903 < x
    · simp (maxSteps := 2000000) only [wk0, wk1, wk2, wk3, wk4, wk5, wk6, Fr.ev, Fr.put, Fr.get, storeA, List.replicate, IntKind.bits, sevalprocAttr, h1, h2, decide_true, decide_false, YtoncolpkpgbfiaaDoor.D80, ty2, ty3, ty4, ty30, ty75, ty151]
      exact retB_plain (by simp [nmd_int, nmd_ifc]) rfl (by simp)
    · by_cases h3 : b < 0
      · simp (maxSteps := 2000000) only [wk0, wk1, wk2, wk3, wk4, wk5, wk6, Fr.ev, Fr.put, Fr.get, storeA, List.replicate, IntKind.bits, sevalprocAttr, h1, h2, h3, decide_true, decide_false, YtoncolpkpgbfiaaDoor.D80, ty2, ty3, ty4, ty30, ty75, ty151]
        exact retB_plain (by simp [nmd_int, nmd_ifc]) rfl (by simp)
      · have h4 : 62 < b := by omega
        simp (maxSteps := 2000000) only [wk0, wk1, wk2, wk3, wk4, wk5, wk6, Fr.ev, Fr.put, Fr.get, storeA, List.replicate, IntKind.bits, sevalprocAttr, h1, h2, h3, h4, decide_true, decide_false, YtoncolpkpgbfiaaDoor.D80, ty2, ty3, ty4, ty30, ty75, ty151]
        exact retB_plain (by simp [nmd_int, nmd_ifc]) rfl (by simp)
theorem log_ok (x b : Int) (S : Heap) (hx : 1 ≤ x ∧ x ≤ 4611686018427387903) (hb : 0 ≤ b ∧ b ≤ 62) : Call theE 80 [.int .i64 x, .int .i64 b] S (.tup [.int .i64 (logV x b), .nili]) S := by
  have h1 : ¬ x < 1 := by omega
  have h2 : ¬ 4611686018427387903 < x := by omega
  have h3 : ¬ b < 0 := by omega
  have h4 : ¬ 62 < b := by omega
  have wx : IntKind.u64.wrap x = x := wrapU (by omega)
  have le := fun S => len64_ok x S (by omega)
  obtain ⟨X, hX⟩ : ∃ X : Nat, x = (X : Int) := ⟨x.toNat, by omega⟩
  subst hX
  have h0 : X ≠ 0 := by omega
  have hm := logM_in h0
  have hB := lenG_in h0 (by omega)
  have hmI : 1125899906842624 ≤ ((logM X : Nat) : Int) ∧ ((logM X : Nat) : Int) < 2251799813685248 := by omega
  have ri := fun S => rise_ok (logM X) S hmI
  have hr := riseV_in hmI
  have hM : logM X = X / 2 ^ (lenU X - 51) * 2 ^ (51 - lenU X) := rfl
  unfold logV
  rw [Int.toNat_natCast] at le ⊢
  generalize hBB : lenU X = B at *
  generalize riseV ((logM X : Nat) : Int) = R at *
  have w1 : IntKind.i64.wrap ((B : Int) - 1) = (B : Int) - 1 := wrapI (by omega)
  have w2 : IntKind.i64.wrap ((B : Int) - 1 - 50) = (B : Int) - 51 := by rw [wrapI (by omega)]; omega
  have mx1 : max ((B : Int) - 51) 0 = ((B - 51 : Nat) : Int) := by omega
  have w3 : IntKind.i64.wrap (0 - ((B : Int) - 51)) = 51 - (B : Int) := by rw [wrapI (by omega)]; omega
  have mx2 : max (51 - (B : Int)) 0 = ((51 - B : Nat) : Int) := by omega
  have p1 : ¬ ((B - 51 : Nat) : Int) < 0 := by omega
  have p2 : ¬ ((51 - B : Nat) : Int) < 0 := by omega
  have mk1 : min (B - 51) 64 = B - 51 := by omega
  have mk2 : min (51 - B) 64 = 51 - B := by omega
  have fd : (X : Int).fdiv (2 ^ (B - 51)) = ((X / 2 ^ (B - 51) : Nat) : Int) := by
    rw [Int.fdiv_eq_ediv_of_nonneg _ (Int.le_of_lt (Int.pow_pos (by decide))), Int.natCast_ediv, Int.natCast_pow]; rfl
  have mm : ((X / 2 ^ (B - 51) : Nat) : Int) * 2 ^ (51 - B) = ((logM X : Nat) : Int) := by
    rw [hM, Int.natCast_mul, Int.natCast_pow]; rfl
  have wm : IntKind.i64.wrap ((logM X : Nat) : Int) = ((logM X : Nat) : Int) := wrapI (by omega)
  have w4 : IntKind.i64.wrap ((B : Int) - 51 - b) = (B : Int) - 51 - b := wrapI (by omega)
  have w5 : IntKind.i64.wrap ((B : Int) - 51 - b + 50) = (B : Int) - 1 - b := by rw [wrapI (by omega)]; omega
  have w6 : IntKind.i64.wrap (((B : Int) - 1 - b) * 780414346020670) = ((B : Int) - 1 - b) * 780414346020670 := wrapI (by omega)
  have w7 : IntKind.i64.wrap (R + ((B : Int) - 1 - b) * 780414346020670) = R + ((B : Int) - 1 - b) * 780414346020670 := wrapI (by omega)
  have mo := fun S => move_down (R + ((B : Int) - 1 - b) * 780414346020670) 0 29 S (by omega) (by unfold inI; omega)
  rw [show (29 + 1 : Nat) = 30 by omega] at mo
  change ∀ S, Call theE _ [_, .int .i64 30, .int .i64 0] S _ S at mo
  generalize ovrB (rnd (R + ((B : Int) - 1 - b) * 780414346020670) (2 ^ 30)) = o at *
  refine Call.ofC Tryd.func80 YtoncolpkpgbfiaaDoor.b80 YtoncolpkpgbfiaaDoor.d80 YtoncolpkpgbfiaaDoor.e80 (by simp [Tryd.f80]) ?_
  dsimp only [YtoncolpkpgbfiaaDoor.c80, Tryd.f80, Option.getD_some]
  simp (maxSteps := 2000000) only [wk0, wk1, wk2, wk3, wk4, wk5, wk6, Fr.ev, Fr.put, Fr.get, storeA, List.replicate, IntKind.bits, sevalprocAttr, h1, h2, h3, h4, wx, w1, w2, w3, w4, w5, w6, w7, mx1, mx2, p1, p2, mk1, mk2, fd, mm, wm, Int.toNat_natCast, decide_false, YtoncolpkpgbfiaaDoor.D80, ty2, ty3, ty4, ty30, ty75, ty151]
  refine callThen_of (le _) ?_
  simp (maxSteps := 2000000) only [wk0, wk1, wk2, wk3, wk4, wk5, wk6, Fr.ev, Fr.put, Fr.get, storeA, List.replicate, IntKind.bits, sevalprocAttr, h1, h2, h3, h4, wx, w1, w2, w3, w4, w5, w6, w7, mx1, mx2, p1, p2, mk1, mk2, fd, mm, wm, Int.toNat_natCast, decide_false, YtoncolpkpgbfiaaDoor.D80, ty2, ty3, ty4, ty30, ty75, ty151]
  refine callThen_of (ri _) ?_
  simp (maxSteps := 2000000) only [wk0, wk1, wk2, wk3, wk4, wk5, wk6, Fr.ev, Fr.put, Fr.get, storeA, List.replicate, IntKind.bits, sevalprocAttr, h1, h2, h3, h4, wx, w1, w2, w3, w4, w5, w6, w7, mx1, mx2, p1, p2, mk1, mk2, fd, mm, wm, Int.toNat_natCast, decide_false, YtoncolpkpgbfiaaDoor.D80, ty2, ty3, ty4, ty30, ty75, ty151]
  refine callThen_of (mo _) ?_
  simp (maxSteps := 2000000) only [wk0, wk1, wk2, wk3, wk4, wk5, wk6, Fr.ev, Fr.put, Fr.get, storeA, List.replicate, IntKind.bits, sevalprocAttr, h1, h2, h3, h4, wx, w1, w2, w3, w4, w5, w6, w7, mx1, mx2, p1, p2, mk1, mk2, fd, mm, wm, Int.toNat_natCast, decide_false, YtoncolpkpgbfiaaDoor.D80, ty2, ty3, ty4, ty30, ty75, ty151]
  exact retB_plain (by simp [nmd_int, nmd_nili]) rfl (by simp)
end Go.Proofs.YtoncolpkpgbfiaaDoor
