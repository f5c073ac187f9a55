/- ldl: the factors make the matrix again, but for little (no program in sight). -/
import Derived.Test.YtoncolpkpgbfiaaDoorF3
import Derived.Test.YtoncolpkpgbfiaaDoorF2
set_option linter.unusedSimpArgs false
set_option linter.unusedVariables false
set_option maxRecDepth 100000
set_option maxHeartbeats 4000000
namespace Go.Proofs.YtoncolpkpgbfiaaDoor
def sumF (f : Nat → Int) : Nat → Int
  | 0 => 0
  | k + 1 => sumF f k + f k
theorem sumF_congr {f g : Nat → Int} : ∀ {n : Nat}, (∀ k, k < n → f k = g k) → sumF f n = sumF g n
  | 0, _ => rfl
  | n + 1, h => by unfold sumF; rw [sumF_congr fun k hk => h k (by omega), h n (by omega)]
theorem dotZ_app : ∀ (a b : List Int) (x y : Int), a.length = b.length → dotZ (a ++ [x]) (b ++ [y]) = dotZ a b + x * y
  | [], [], x, y, _ => by simp [dotZ]
  | u :: a, v :: b, x, y, h => by
    simp only [List.cons_append, dotZ]
    rw [dotZ_app a b x y (by simpa using h), Int.add_assoc]
theorem dotZ_sum (a b : Nat → Int) : ∀ n, dotZ ((List.range n).map a) ((List.range n).map b) = sumF (fun k => a k * b k) n
  | 0 => rfl
  | n + 1 => by rw [List.range_succ, List.map_append, List.map_append]; show dotZ (_ ++ [a n]) (_ ++ [b n]) = _; rw [dotZ_app _ _ _ _ (by simp), dotZ_sum a b n]; rfl
theorem sum_near {a e : Nat → Int} {B : Int} : ∀ {n : Nat}, (∀ k, k < n → -B ≤ 2 * e k ∧ 2 * e k ≤ B) → 0 ≤ B →
    -(sumF (fun k => ((a k).natAbs : Int) * B) n) ≤ 2 * sumF (fun k => a k * e k) n ∧ 2 * sumF (fun k => a k * e k) n ≤ sumF (fun k => ((a k).natAbs : Int) * B) n
  | 0, _, _ => by simp [sumF]
  | n + 1, h, hB => by
    have ih := sum_near (a := a) (n := n) (fun k hk => h k (by omega)) hB
    have hn := h n (by omega)
    unfold sumF
    have e1 : 2 * (a n * e n) = a n * (2 * e n) := by rw [Int.mul_left_comm]
    have h3 : ((a n * (2 * e n)).natAbs : Int) ≤ (a n).natAbs * B := by
      rw [Int.natAbs_mul, Int.natCast_mul]
      exact Int.mul_le_mul_of_nonneg_left (by omega) (by omega)
    omega
theorem rnd_nearF {z p : Int} (hp : 0 < p) : -p ≤ 2 * (z - p * rnd z p) ∧ 2 * (z - p * rnd z p) ≤ p := by
  have e := Int.mul_ediv_add_emod z p
  have e1 := Int.emod_nonneg z (show p ≠ 0 by omega)
  have e2 := Int.emod_lt_of_pos z hp
  unfold rnd
  rw [Int.mul_add]
  split
  · rw [Int.mul_one]; omega
  · rw [Int.mul_zero]; omega
theorem divZ_near (a d : Int) (n : Nat) (hd : 0 < d) : -d ≤ 2 * (d * divZ a d n - a * 2 ^ n) ∧ 2 * (d * divZ a d n - a * 2 ^ n) ≤ d := by
  have h := rnd_nearF (z := (a.natAbs : Int) * 2 ^ n) (p := (d.natAbs : Int)) (by omega)
  have ed : (d.natAbs : Int) = d := by omega
  rw [ed] at h
  unfold divZ
  rw [ed]
  by_cases h0 : a < 0
  · rw [if_neg (by omega)]
    have ea : (a.natAbs : Int) * 2 ^ n = -(a * 2 ^ n) := by rw [show (a.natAbs : Int) = -a by omega, Int.neg_mul]
    rw [ea] at h ⊢
    rw [Int.mul_neg]
    omega
  · rw [if_pos (by omega)]
    have ea : (a.natAbs : Int) * 2 ^ n = a * 2 ^ n := by rw [show (a.natAbs : Int) = a by omega]
    rw [ea] at h ⊢
    omega
theorem ovr_bndF {x : Int} (h : ovrB x = false) : bndI x = x := by
  have := of_decide_eq_false h
  unfold bndI; omega
/-! what is kept of a stage -/
theorem ofG_succ (n : Nat) (M : Nat → Nat → Int) (i : Nat) (G : List Int) (j : Nat) : ofG n M i G (j + 1) = (ofG n M i G j).set (i * n + j) (bndI (ofQ n M i (ofG n M i G j) j)) := rfl
theorem ofB_succ (n : Nat) (M : Nat → Nat → Int) (i : Nat) (G : List Int) (j : Nat) : ofB n M i G (j + 1) = (lrT n (ofG n M i G j) (M i j) i j (ofB n M i G j) || ovrB (ofQ n M i (ofG n M i G j) j)) := rfl
theorem ofG_ne {n : Nat} {M : Nat → Nat → Int} {i q : Nat} {G : List Int} : ∀ {j : Nat}, (q < i * n ∨ i * n + j ≤ q) → (ofG n M i G j).getD q 0 = G.getD q 0
  | 0, _ => rfl
  | j + 1, h => by rw [ofG_succ, getD_set_ne (by omega)]; exact ofG_ne (by omega)
theorem ofG_len {n : Nat} {M : Nat → Nat → Int} {i : Nat} {G : List Int} : ∀ {j : Nat}, (ofG n M i G j).length = G.length
  | 0 => rfl
  | j + 1 => by rw [ofG_succ, List.length_set]; exact ofG_len
theorem ofG_at {n : Nat} {M : Nat → Nat → Int} {i t : Nat} {G : List Int} (hl : i * n + n ≤ G.length) : ∀ {j : Nat}, t < j → j ≤ n → (ofG n M i G j).getD (i * n + t) 0 = bndI (ofQ n M i (ofG n M i G t) t)
  | 0, h, _ => absurd h (by omega)
  | j + 1, h, hj => by
    rw [ofG_succ]
    by_cases e : t = j
    · subst e
      rw [getD_set_self (by rw [ofG_len]; omega)]
    · rw [getD_set_ne (by omega)]; exact ofG_at hl (by omega) (by omega)
theorem ofB_false {n : Nat} {M : Nat → Nat → Int} {i : Nat} {G : List Int} : ∀ {j : Nat}, ofB n M i G j = false → ∀ t, t < j → ofB n M i G t = false ∧ lrT n (ofG n M i G t) (M i t) i t (ofB n M i G t) = false ∧ ovrB (ofQ n M i (ofG n M i G t) t) = false
  | 0, _, t, h => absurd h (by omega)
  | j + 1, h, t, ht => by
    rw [ofB_succ] at h
    simp only [Bool.or_eq_false_iff] at h
    have h1 := h.1
    unfold lrT at h1
    simp only [Bool.or_eq_false_iff] at h1
    by_cases e : t = j
    · subst e; exact ⟨h1.1.1.1, h.1, h.2⟩
    · exact ofB_false h1.1.1.1 t (by omega)
/-- Two lists of numbers agree where the rest of row i looks at, up to column j. -/
def Agr (n : Nat) (G G' : List Int) (i j : Nat) : Prop := ∀ k, k < j → G.getD (i * n + k) 0 = G'.getD (i * n + k) 0 ∧ G.getD (j * n + k) 0 = G'.getD (j * n + k) 0 ∧ G.getD (36 + k) 0 = G'.getD (36 + k) 0
def lvS (n : Nat) (G : List Int) (i j : Nat) : Int := rnd (sumF (fun k => G.getD (i * n + k) 0 * bndI (rnd (G.getD (j * n + k) 0 * G.getD (36 + k) 0) (2 ^ 30))) j) (2 ^ 30)
theorem lrS_eq {n : Nat} {G : List Int} {i j : Nat} (h : i * n + j ≤ G.length) : lrS n G i j = lvS n G i j := by
  unfold lrS lvS
  rw [← gC_cut h]
  unfold gC gF lrL
  rw [dotZ_sum]
  rfl
theorem lvS_agr {n : Nat} {G G' : List Int} {i j : Nat} (h : Agr n G G' i j) : lvS n G i j = lvS n G' i j := by
  unfold lvS
  rw [sumF_congr fun k hk => by rw [(h k hk).1, (h k hk).2.1, (h k hk).2.2]]
/-- What is known of a place behind all stages. -/
structure PlF (n : Nat) (M : Nat → Nat → Int) (G : List Int) (i j : Nat) : Prop where
  w : ∀ k, k < j → bndI (rnd (G.getD (j * n + k) 0 * G.getD (36 + k) 0) (2 ^ 30)) = rnd (G.getD (j * n + k) 0 * G.getD (36 + k) 0) (2 ^ 30)
  low : j < i → G.getD (i * n + j) 0 = divZ (M i j - lvS n G i j) (G.getD (36 + j) 0) 30
  dia : i = j → G.getD (i * n + i) 0 = 1073741824 ∧ G.getD (36 + i) 0 = M i i - lvS n G i i
theorem PlF.agr {n : Nat} {M : Nat → Nat → Int} {G G' : List Int} {i j : Nat} (h : PlF n M G i j) (ha : Agr n G G' i j) (h1 : G.getD (i * n + j) 0 = G'.getD (i * n + j) 0) (h2 : G.getD (36 + j) 0 = G'.getD (36 + j) 0) : PlF n M G' i j where
  w k hk := by rw [← (ha k hk).2.1, ← (ha k hk).2.2]; exact h.w k hk
  low hj := by rw [← h1, ← h2, ← lvS_agr ha]; exact h.low hj
  dia hj := by subst hj; rw [← h1, ← h2, ← lvS_agr ha]; exact h.dia rfl
theorem lr_parts {n : Nat} {G : List Int} {z : Int} {i j : Nat} {o : Bool} (hl : i * n + j ≤ G.length) (h : lrT n G z i j o = false) :
    (∀ k, k < j → bndI (rnd (G.getD (j * n + k) 0 * G.getD (36 + k) 0) (2 ^ 30)) = rnd (G.getD (j * n + k) 0 * G.getD (36 + k) 0) (2 ^ 30)) ∧ lrV n G z i j = z - lvS n G i j := by
  unfold lrT at h
  simp only [Bool.or_eq_false_iff] at h
  obtain ⟨⟨⟨-, h1⟩, h2⟩, h3⟩ := h
  refine ⟨fun k hk => ?_, ?_⟩
  · unfold lrO at h1
    rw [List.any_eq_false] at h1
    exact ovr_bndF (x := lrW n G j k) (Bool.eq_false_iff.2 (h1 k (List.mem_range.2 hk)))
  · unfold lrV
    rw [ovr_bndF h2] at h3 ⊢
    rw [ovr_bndF h3, lrS_eq hl]
    omega
theorem row_low {n a b t u : Nat} (h : a < b) (ht : t < n) : a * n + t < b * n + u := by
  have := Nat.mul_le_mul_right n (show a + 1 ≤ b by omega)
  rw [Nat.add_mul, Nat.one_mul] at this
  omega
theorem plF_all {n : Nat} (M : Nat → Nat → Int) (hn : n ≤ 6) : ∀ (m : Nat), m ≤ n → ∀ G, ofAll n M m = some G → G.length = 42 ∧ ∀ i j, j ≤ i → i < m → PlF n M G i j
  | 0, _, G, h => by
    obtain rfl : List.replicate 42 0 = G := by simpa [ofAll] using h
    exact ⟨rfl, fun i j _ hi => absurd hi (by omega)⟩
  | m + 1, hm, G, h => by
    unfold ofAll at h
    cases hG : ofAll n M m with
    | none => rw [hG] at h; simp at h
    | some G0 =>
      rw [hG] at h
      simp only [Option.bind_some] at h
      obtain ⟨hl, ih⟩ := plF_all M hn m (by omega) G0 hG
      split at h
      · cases h
      · rename_i hc
        obtain rfl : (ofI n M m G0).set (36 + m) (ofD n M m G0) = G := by simpa using h
        have hO : ofO n M m G0 = false := by
          cases e : ofO n M m G0
          · rfl
          · exact absurd (.inr e) hc
        have h36 : m * n + n ≤ 36 := by
          have := Nat.mul_le_mul (show m + 1 ≤ 6 by omega) hn
          rw [Nat.add_mul, Nat.one_mul] at this; exact this
        have hlI : (ofI n M m G0).length = 42 := by unfold ofI; rw [List.length_set, ofG_len, hl]
        -- the numbers behind this stage
        have g1 : ∀ q, q < m * n → ((ofI n M m G0).set (36 + m) (ofD n M m G0)).getD q 0 = G0.getD q 0 := fun q hq => by
          rw [getD_set_ne (by omega)]; unfold ofI; rw [getD_set_ne (by omega)]; exact ofG_ne (.inl hq)
        have g2 : ∀ k, k < m → ((ofI n M m G0).set (36 + m) (ofD n M m G0)).getD (36 + k) 0 = G0.getD (36 + k) 0 := fun k hk => by
          rw [getD_set_ne (by omega)]; unfold ofI; rw [getD_set_ne (by omega)]; exact ofG_ne (.inr (by omega))
        have g3 : ∀ t, t < m → ((ofI n M m G0).set (36 + m) (ofD n M m G0)).getD (m * n + t) 0 = (ofG n M m G0 m).getD (m * n + t) 0 := fun t ht => by
          rw [getD_set_ne (by omega)]; unfold ofI; rw [getD_set_ne (by omega)]
        have g4 : ((ofI n M m G0).set (36 + m) (ofD n M m G0)).getD (m * n + m) 0 = 1073741824 := by
          rw [getD_set_ne (by omega)]; unfold ofI; rw [getD_set_self (by rw [ofG_len]; omega)]
        have g5 : ((ofI n M m G0).set (36 + m) (ofD n M m G0)).getD (36 + m) 0 = ofD n M m G0 := getD_set_self (by omega)
        refine ⟨by rw [List.length_set, hlI], fun i j hj hi => ?_⟩
        obtain ⟨Gn, hGn⟩ : ∃ Gn, (ofI n M m G0).set (36 + m) (ofD n M m G0) = Gn := ⟨_, rfl⟩
        rw [hGn] at g1 g2 g3 g4 g5 ⊢
        by_cases him : i < m
        · refine (ih i j hj him).agr (fun k hk => ⟨?_, ?_, ?_⟩) ?_ ?_
          · exact (g1 _ (row_low (u := 0) him (by omega))).symm
          · exact (g1 _ (row_low (u := 0) (show j < m by omega) (by omega))).symm
          · exact (g2 _ (by omega)).symm
          · exact (g1 _ (row_low (u := 0) him (by omega))).symm
          · exact (g2 _ (by omega)).symm
        · obtain rfl : i = m := by omega
          unfold ofO at hO
          have hB : ofB n M i G0 i = false := by
            unfold lrT at hO
            simp only [Bool.or_eq_false_iff] at hO
            exact hO.1.1.1
          by_cases hji : j < i
          · obtain ⟨-, hT, hQ⟩ := ofB_false hB j hji
            obtain ⟨p1, p2⟩ := lr_parts (by rw [ofG_len]; omega) hT
            have agr : Agr n (ofG n M i G0 j) Gn i j := fun k hk => by
              refine ⟨?_, ?_, ?_⟩
              · rw [g3 k (by omega), ofG_at (by omega) hk (by omega), ofG_at (by omega) (by omega) (by omega)]
              · rw [ofG_ne (.inl (row_low (u := 0) hji (by omega))), g1 _ (row_low (u := 0) hji (by omega))]
              · rw [ofG_ne (.inr (by omega)), g2 k (by omega)]
            refine ⟨fun k hk => ?_, fun _ => ?_, fun e => absurd e (by omega)⟩
            · rw [← (agr k hk).2.1, ← (agr k hk).2.2]; exact p1 k hk
            · rw [g3 j hji, ofG_at (by omega) hji (by omega), ovr_bndF hQ, ← lvS_agr agr, ← p2, g2 j hji]
              unfold ofQ
              rw [ofG_ne (.inr (by omega))]
          · obtain rfl : i = j := by omega
            obtain ⟨p1, p2⟩ := lr_parts (by omega) hO
            have agr : Agr n (ofI n M i G0) Gn i i := fun k hk => by
              refine ⟨?_, ?_, ?_⟩
              · rw [← hGn, getD_set_ne (by omega)]
              · rw [← hGn, getD_set_ne (by omega)]
              · rw [← hGn, getD_set_ne (by omega)]
            refine ⟨fun k hk => ?_, fun e => absurd e (by omega), fun _ => ⟨g4, ?_⟩⟩
            · rw [← (agr k hk).2.1, ← (agr k hk).2.2]; exact p1 k hk
            · rw [g5, ← lvS_agr agr, ← p2]; rfl
/-- The sum that the factors make, and how far it may be off, in parts of 2^60. -/
def mkT (n : Nat) (G : List Int) (i j : Nat) : Int := sumF (fun k => G.getD (i * n + k) 0 * G.getD (j * n + k) 0 * G.getD (36 + k) 0) (j + 1)
def mkE (n : Nat) (G : List Int) (i j : Nat) (m : Nat) : Int := (2 * (j : Int) + 4) * 1152921504606846976 + sumF (fun k => ((G.getD (i * n + k) 0).natAbs : Int) * 2147483648) m
theorem sumF_nonneg {f : Nat → Int} : ∀ {n : Nat}, (∀ k, k < n → 0 ≤ f k) → 0 ≤ sumF f n
  | 0, _ => Int.le_refl _
  | n + 1, h => by unfold sumF; have := sumF_nonneg (n := n) fun k hk => h k (by omega); have := h n (by omega); omega
theorem sumF_add (f g : Nat → Int) : ∀ n, sumF (fun k => f k + g k) n = sumF f n + sumF g n
  | 0 => rfl
  | n + 1 => by unfold sumF; rw [sumF_add f g n]; omega
theorem sumF_mul (c : Int) (f : Nat → Int) : ∀ n, sumF (fun k => c * f k) n = c * sumF f n
  | 0 => by simp [sumF]
  | n + 1 => by unfold sumF; rw [sumF_mul c f n, Int.mul_add]
theorem makes_near {n : Nat} {M : Nat → Nat → Int} {G : List Int} {i j : Nat} (h : PlF n M G i j) (hj : j ≤ i) (hd : 0 < G.getD (36 + j) 0) (hjj : G.getD (j * n + j) 0 = 1073741824) :
    ¬ (mkE n G i j (j + 1) + G.getD (36 + j) 0 * 2147483648).natAbs < (mkT n G i j - M i j * 1152921504606846976).natAbs := by
  -- the sum of what is ahead
  obtain ⟨A, hA⟩ : ∃ A, sumF (fun k => G.getD (i * n + k) 0 * G.getD (j * n + k) 0 * G.getD (36 + k) 0) j = A := ⟨_, rfl⟩
  obtain ⟨Q, hQ⟩ : ∃ Q, sumF (fun k => ((G.getD (i * n + k) 0).natAbs : Int) * 1073741824) j = Q := ⟨_, rfl⟩
  have eQ : sumF (fun k => ((G.getD (i * n + k) 0).natAbs : Int) * 2147483648) j = 2 * Q := by
    rw [← hQ, ← sumF_mul]; exact sumF_congr fun k _ => by omega
  have q0 : 0 ≤ Q := by rw [← hQ]; exact sumF_nonneg fun k _ => by omega
  have wn : ∀ k, k < j → -1073741824 ≤ 2 * (G.getD (j * n + k) 0 * G.getD (36 + k) 0 - 1073741824 * rnd (G.getD (j * n + k) 0 * G.getD (36 + k) 0) 1073741824) ∧
      2 * (G.getD (j * n + k) 0 * G.getD (36 + k) 0 - 1073741824 * rnd (G.getD (j * n + k) 0 * G.getD (36 + k) 0) 1073741824) ≤ 1073741824 := fun k _ => rnd_nearF (by decide)
  have sn := sum_near (a := fun k => G.getD (i * n + k) 0) (e := fun k => G.getD (j * n + k) 0 * G.getD (36 + k) 0 - 1073741824 * rnd (G.getD (j * n + k) 0 * G.getD (36 + k) 0) 1073741824) (B := 1073741824) (n := j) wn (by decide)
  rw [hQ] at sn
  have e1 : sumF (fun k => G.getD (i * n + k) 0 * (G.getD (j * n + k) 0 * G.getD (36 + k) 0 - 1073741824 * rnd (G.getD (j * n + k) 0 * G.getD (36 + k) 0) 1073741824)) j =
      A - 1073741824 * sumF (fun k => G.getD (i * n + k) 0 * rnd (G.getD (j * n + k) 0 * G.getD (36 + k) 0) 1073741824) j := by
    rw [← hA, ← sumF_mul, Int.sub_eq_add_neg, ← Int.neg_one_mul (sumF _ j), ← sumF_mul, ← sumF_add]
    exact sumF_congr fun k _ => by rw [Int.mul_sub, Int.mul_assoc]; generalize G.getD (j * n + k) 0 * G.getD (36 + k) 0 = x; generalize rnd x 1073741824 = y; generalize G.getD (i * n + k) 0 = z; rw [Int.mul_left_comm z 1073741824 y]; omega
  rw [e1] at sn
  have eS : lvS n G i j = rnd (sumF (fun k => G.getD (i * n + k) 0 * rnd (G.getD (j * n + k) 0 * G.getD (36 + k) 0) 1073741824) j) 1073741824 := by
    have e : sumF (fun k => G.getD (i * n + k) 0 * bndI (rnd (G.getD (j * n + k) 0 * G.getD (36 + k) 0) (2 ^ 30))) j = sumF (fun k => G.getD (i * n + k) 0 * rnd (G.getD (j * n + k) 0 * G.getD (36 + k) 0) (2 ^ 30)) j := sumF_congr fun k hk => by rw [h.w k hk]
    unfold lvS
    rw [e, show (2 : Int) ^ 30 = 1073741824 by decide]
  have n2 := rnd_nearF (z := sumF (fun k => G.getD (i * n + k) 0 * rnd (G.getD (j * n + k) 0 * G.getD (36 + k) 0) 1073741824) j) (p := 1073741824) (by decide)
  rw [← eS] at n2
  generalize sumF (fun k => G.getD (i * n + k) 0 * rnd (G.getD (j * n + k) 0 * G.getD (36 + k) 0) 1073741824) j = B at *
  have hT : mkT n G i j = A + G.getD (i * n + j) 0 * G.getD (j * n + j) 0 * G.getD (36 + j) 0 := by unfold mkT sumF; rw [hA]
  have hE : mkE n G i j (j + 1) = (2 * (j : Int) + 4) * 1152921504606846976 + (2 * Q + ((G.getD (i * n + j) 0).natAbs : Int) * 2147483648) := by unfold mkE; rw [sumF, eQ]
  rw [hT, hE, hjj]
  by_cases hji : j < i
  · have n3 := divZ_near (M i j - lvS n G i j) (G.getD (36 + j) 0) 30 hd
    rw [← h.low hji, show (2 : Int) ^ 30 = 1073741824 by decide] at n3
    rw [show G.getD (i * n + j) 0 * 1073741824 * G.getD (36 + j) 0 = 1073741824 * (G.getD (36 + j) 0 * G.getD (i * n + j) 0) by rw [Int.mul_comm (G.getD (i * n + j) 0) 1073741824, Int.mul_assoc, Int.mul_comm (G.getD (i * n + j) 0)]]
    generalize G.getD (36 + j) 0 * G.getD (i * n + j) 0 = p at *
    generalize lvS n G i j = S at *
    generalize G.getD (36 + j) 0 = D at *
    generalize M i j = m at *
    have := Int.natAbs_of_nonneg (show (0 : Int) ≤ ((G.getD (i * n + j) 0).natAbs : Int) by omega)
    generalize (G.getD (i * n + j) 0).natAbs = x at *
    clear e1 eS hA hQ eQ hT hE wn
    omega
  · obtain rfl : i = j := by omega
    obtain ⟨-, hD⟩ := h.dia rfl
    rw [hjj]
    generalize lvS n G i i = S at *
    generalize G.getD (36 + i) 0 = D at *
    generalize M i i = m at *
    clear e1 eS hA hQ eQ hT hE wn
    omega
end Go.Proofs.YtoncolpkpgbfiaaDoor
