/- ldl: how far a vector is: not below nought, of nought nought, and the same of the other way round (no program in sight). -/
import Derived.Test.YtoncolpkpgbfiaaDoorF11
import Derived.Test.YtoncolpkpgbfiaaDoorL7
set_option linter.unusedSimpArgs false
set_option linter.unusedVariables false
set_option maxRecDepth 100000
set_option maxHeartbeats 4000000
namespace Go.Proofs.YtoncolpkpgbfiaaDoor
theorem rndF_zero (p : Int) (hp : 0 < p) : rnd 0 p = 0 := by unfold rnd; simp; omega
theorem rndF_nonneg {z p : Int} (hp : 0 < p) (h : 0 ≤ z) : 0 ≤ rnd z p := by
  have := Int.ediv_nonneg h (Int.le_of_lt hp)
  unfold rnd
  split <;> omega
theorem rndF_neg (z p : Int) (hp : 0 < p) : rnd (-z) p = -rnd z p := rnd_neg z p hp
theorem bndF_neg (x : Int) : bndI (-x) = -bndI x := by unfold bndI; omega
theorem dotZ_neg : ∀ (a y : List Int), dotZ a (y.map fun x => -x) = -dotZ a y
  | [], _ => rfl
  | _ :: _, [] => rfl
  | u :: a, v :: y => by
    simp only [List.map_cons, dotZ]
    rw [dotZ_neg a y, Int.mul_neg]; omega
theorem getD_neg (l : List Int) (i : Nat) : (l.map fun x => -x).getD i 0 = -l.getD i 0 := by
  simp only [List.getD_eq_getElem?_getD, List.getElem?_map]
  cases l[i]? <;> simp
theorem dnY_neg (n : Nat) (G l : List Int) : ∀ i, dnY n G (l.map fun x => -x) i = (dnY n G l i).map fun x => -x
  | 0 => rfl
  | i + 1 => by
    unfold dnY
    rw [dnY_neg n G l i, List.map_append]
    congr 1
    simp only [List.map_cons, List.map_nil, List.cons.injEq, and_true]
    unfold dnS
    rw [dotZ_neg, rndF_neg _ _ (by decide), bndF_neg, getD_neg]
    generalize bndI (rnd (dotZ (cutL G (i * n) i) (dnY n G l i)) (2 ^ 30)) = b
    rw [← bndF_neg (l.getD i 0 + -b)]
    congr 1
    omega
theorem faS_neg (G Y : List Int) : ∀ i, faS G (Y.map fun x => -x) i = faS G Y i
  | 0 => rfl
  | i + 1 => by
    unfold faS
    have e : faP G (Y.map fun x => -x) i = faP G Y i := by unfold faP; rw [getD_neg, Int.neg_mul_neg]
    rw [faS_neg G Y i, e]
theorem divZ_nonneg {a d : Int} (n : Nat) (ha : 0 ≤ a) (hd : 0 < d) : 0 ≤ divZ a d n := by
  unfold divZ
  rw [if_pos (by omega)]
  exact rndF_nonneg (by omega) (Int.mul_nonneg (by omega) (Int.le_of_lt (Int.pow_pos (by decide))))
theorem divZ_zero {d : Int} (n : Nat) (hd : 0 < d) : divZ 0 d n = 0 := by
  unfold divZ
  rw [if_pos (by omega), show ((Int.natAbs 0 : Nat) : Int) * 2 ^ n = 0 by simp]
  exact rndF_zero _ (by omega)
theorem sqF (x : Int) : 0 ≤ x * x := by rw [← Int.natAbs_mul_self]; omega
theorem faS_nonneg {G Y : List Int} : ∀ {i : Nat}, (∀ k, k < i → 0 < G.getD (36 + k) 0) → 0 ≤ faS G Y i
  | 0, _ => Int.le_refl _
  | i + 1, h => by
    have ih := faS_nonneg (Y := Y) (i := i) fun k hk => h k (by omega)
    have hp : 0 ≤ faP G Y i := divZ_nonneg 20 (by have := rndF_nonneg (z := Y.getD i 0 * Y.getD i 0) (p := 2 ^ 20) (by decide) (sqF _); unfold bndI; omega) (h i (by omega))
    unfold faS bndI
    omega
theorem dotZ_zeros (a : List Int) (n : Nat) : dotZ a (List.replicate n 0) = 0 := by
  induction a generalizing n with
  | nil => cases n <;> rfl
  | cons u a ih =>
    cases n with
    | zero => rfl
    | succ n => simp only [List.replicate_succ, dotZ, ih]; omega
theorem zer_getD (n i : Nat) : (List.replicate n (0 : Int)).getD i 0 = 0 := by
  rw [List.getD_eq_getElem?_getD, List.getElem?_replicate]; split <;> rfl
theorem ovr_zero : ovrB 0 = false := by decide
theorem bnd_zero : bndI 0 = 0 := by decide
theorem dnS_zero (n : Nat) (G : List Int) (i m : Nat) : dnS n G i (List.replicate m 0) = 0 := by unfold dnS; rw [dotZ_zeros, rndF_zero _ (by decide)]
theorem dnY_zero (n : Nat) (G : List Int) (m : Nat) : ∀ i, dnY n G (List.replicate m 0) i = List.replicate i 0
  | 0 => rfl
  | i + 1 => by
    unfold dnY
    rw [dnY_zero n G m i, dnS_zero, zer_getD, bnd_zero, show (0 : Int) + -0 = 0 by omega, bnd_zero, List.replicate_succ']
theorem dnT_zero (n : Nat) (G : List Int) (m : Nat) : ∀ i, dnT n G (List.replicate m 0) false i = false
  | 0 => rfl
  | i + 1 => by
    unfold dnT
    rw [dnT_zero n G m i, dnY_zero, dnS_zero, zer_getD, bnd_zero, show (0 : Int) + -0 = 0 by omega, ovr_zero]; rfl
theorem faP_zero {G : List Int} {m i : Nat} (hd : 0 < G.getD (36 + i) 0) : faP G (List.replicate m 0) i = 0 := by
  unfold faP
  rw [zer_getD, show (0 : Int) * 0 = 0 by omega, rndF_zero _ (by decide), bnd_zero, divZ_zero 20 hd]
theorem faS_zero {G : List Int} {m : Nat} : ∀ {i : Nat}, (∀ k, k < i → 0 < G.getD (36 + k) 0) → faS G (List.replicate m 0) i = 0
  | 0, _ => rfl
  | i + 1, h => by
    unfold faS
    rw [faS_zero fun k hk => h k (by omega), faP_zero (h i (by omega)), bnd_zero]; decide
theorem faT_zero {G : List Int} {m : Nat} : ∀ {i : Nat}, (∀ k, k < i → 0 < G.getD (36 + k) 0) → faT G (List.replicate m 0) false i = false
  | 0, _ => rfl
  | i + 1, h => by
    unfold faT
    rw [faT_zero fun k hk => h k (by omega), faS_zero fun k hk => h k (by omega), faP_zero (h i (by omega)), zer_getD, show (0 : Int) * 0 = 0 by omega, rndF_zero _ (by decide), bnd_zero, show (0 : Int) + - -0 = 0 by omega, ovr_zero]; rfl
theorem rep_set (m k : Nat) : (List.replicate m (0 : Int)).set k 0 = List.replicate m 0 := by
  apply List.ext_getElem (by simp)
  intro i h1 h2
  rw [List.getElem_set]
  split <;> simp
theorem svP_zero {G : List Int} {m k : Nat} (hd : 0 < G.getD (36 + k) 0) : svP G (List.replicate m 0) k = 0 := by unfold svP; rw [zer_getD, divZ_zero 20 hd]
theorem svX_zero {G : List Int} {m : Nat} : ∀ {k : Nat}, (∀ t, t < k → 0 < G.getD (36 + t) 0) → svX G (List.replicate m 0) k = List.replicate m 0
  | 0, _ => rfl
  | k + 1, h => by
    unfold svX
    rw [svX_zero fun t ht => h t (by omega), svP_zero (h k (by omega)), bnd_zero, rep_set]
theorem svT_zero {G : List Int} {m : Nat} : ∀ {k : Nat}, (∀ t, t < k → 0 < G.getD (36 + t) 0) → svT G (List.replicate m 0) false k = false
  | 0, _ => rfl
  | k + 1, h => by
    unfold svT
    rw [svT_zero fun t ht => h t (by omega), svX_zero fun t ht => h t (by omega), svP_zero (h k (by omega)), ovr_zero]; rfl
theorem bkS_zero (n : Nat) (G : List Int) (m i : Nat) : bkS n G (List.replicate m 0) i = 0 := by
  unfold bkS
  have e : bkR (List.replicate m 0) i (n - 1 - i) = List.replicate (n - 1 - i) 0 := by
    unfold bkR
    apply List.ext_getElem (by simp)
    intro t h1 h2
    simp only [List.getElem_map, List.getElem_range, List.getElem_replicate]
    exact zer_getD _ _
  rw [e, dotZ_zeros, rndF_zero _ (by decide)]
theorem bkV_zero (n : Nat) (G : List Int) (m i : Nat) : bkV n G (List.replicate m 0) i = 0 := by unfold bkV; rw [zer_getD, bkS_zero, bnd_zero]; decide
theorem bkX_zero (n : Nat) (G : List Int) (m : Nat) : ∀ k, bkX n G (List.replicate m 0) k = List.replicate m 0
  | 0 => rfl
  | k + 1 => by unfold bkX; rw [bkX_zero n G m k, bkV_zero, bnd_zero, rep_set]
theorem bkT_zero (n : Nat) (G : List Int) (m : Nat) : ∀ k, bkT n G (List.replicate m 0) false k = false
  | 0 => rfl
  | k + 1 => by unfold bkT; rw [bkT_zero n G m k, bkX_zero, bkS_zero, bkV_zero, ovr_zero]; rfl
end Go.Proofs.YtoncolpkpgbfiaaDoor
