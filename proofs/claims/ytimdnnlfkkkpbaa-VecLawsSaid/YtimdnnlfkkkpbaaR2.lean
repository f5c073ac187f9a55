/- Layer 7's theorem: the law. -/
import Derived.Test.YtimdnnlfkkkpbaaR1
set_option linter.unusedSimpArgs false
set_option linter.unusedVariables false
set_option maxRecDepth 100000
set_option maxHeartbeats 4000000
namespace Go.Proofs.Ytimdnnlfkkkpbaa
/-! ### plain -/
theorem bnd_id' {x : Int} (h : -4611686018427387903 ≤ x ∧ x ≤ 4611686018427387903) : bndI x = x := by unfold bndI; omega
theorem ovr_no' {x : Int} (h : -4611686018427387903 ≤ x ∧ x ≤ 4611686018427387903) : ovrB x = false := decide_eq_false (by omega)
def cutL (l : List Int) (n : Nat) : List Int := (l.take n).map fun x => x.tmod 1152921504606846976
theorem cutL_len {l : List Int} {n : Nat} (h : n ≤ l.length) : (cutL l n).length = n := by simp [cutL]; omega
theorem cutL_succ {l : List Int} {n : Nat} (h : n < l.length) : cutL l (n + 1) = cutL l n ++ [l[n].tmod 1152921504606846976] := by
  unfold cutL
  rw [List.take_succ_eq_append_getElem h, List.map_append]
  rfl
def smallI (x : Int) : Prop := -1152921504606846976 < x ∧ x < 1152921504606846976
theorem tmod_bound (x m : Int) (h : 0 < m) : -m < x.tmod m ∧ x.tmod m < m := by
  have h1 := Int.tmod_lt_of_pos x h
  have h2 := Int.tmod_lt_of_pos (-x) h
  rw [Int.neg_tmod] at h2
  omega
theorem cutL_small {l : List Int} {n : Nat} : ∀ x ∈ cutL l n, smallI x := by
  intro x hx
  obtain ⟨y, _, rfl⟩ := List.mem_map.1 hx
  exact tmod_bound y _ (by decide)
theorem small_in {x : Int} (h : smallI x) : inI x := by unfold smallI at h; unfold inI; omega
theorem addL_get (l r : List Int) (i : Nat) (h : i < l.length) : (addL l r)[i]? = some (bndI (l.getD i 0 + r.getD i 0)) := by
  unfold addL; rw [List.getElem?_map, List.getElem?_range h]; rfl
theorem getD_of {l : List Int} {i : Nat} (h : i < l.length) : l.getD i 0 = l[i] := by rw [List.getD_eq_getElem?_getD, List.getElem?_eq_getElem h]; rfl
theorem addL_small {l r : List Int} (hlr : r.length = l.length) (h1 : ∀ x ∈ l, smallI x) (h2 : ∀ x ∈ r, smallI x) :
    (addL l r).length = l.length ∧ (∀ i (h : i < l.length), (addL l r).getD i 0 = l.getD i 0 + r.getD i 0) ∧ addO l r = false ∧ (∀ x ∈ addL l r, inI x) ∧ subL (addL l r) r = l ∧ subO (addL l r) r = false := by
  have hb : ∀ i, i < l.length → -4611686018427387903 ≤ l.getD i 0 + r.getD i 0 ∧ l.getD i 0 + r.getD i 0 ≤ 4611686018427387903 := by
    intro i hi
    rw [getD_of hi, getD_of (by omega)]
    have a := h1 _ (List.getElem_mem hi)
    have b := h2 _ (List.getElem_mem (show i < r.length by omega))
    unfold smallI at a b
    omega
  have hlen : (addL l r).length = l.length := by simp [addL]
  have hget : ∀ i (h : i < l.length), (addL l r).getD i 0 = l.getD i 0 + r.getD i 0 := by
    intro i h
    rw [List.getD_eq_getElem?_getD, addL_get l r i h, Option.getD_some, bnd_id' (hb i h)]
  refine ⟨hlen, hget, ?_, ?_, ?_, ?_⟩
  · unfold addO
    rw [List.any_eq_false]
    intro i hi
    rw [ovr_no' (hb i (List.mem_range.1 hi))]
    simp
  · intro x hx
    unfold addL at hx
    obtain ⟨i, _, rfl⟩ := List.mem_map.1 hx
    unfold inI bndI
    omega
  · apply List.ext_getElem
    · simp [subL, hlen]
    · intro i h h'
      simp only [subL, List.getElem_map, List.getElem_range]
      rw [hget i h', show l.getD i 0 + r.getD i 0 + -r.getD i 0 = l.getD i 0 by omega, getD_of h']
      have a := h1 _ (List.getElem_mem h')
      unfold smallI at a
      exact bnd_id' (by omega)
  · unfold subO
    rw [List.any_eq_false]
    intro i hi
    have hi := List.mem_range.1 hi
    rw [hlen] at hi
    rw [hget i hi, show l.getD i 0 + r.getD i 0 + -r.getD i 0 = l.getD i 0 by omega, getD_of hi]
    have a := h1 _ (List.getElem_mem hi)
    unfold smallI at a
    rw [ovr_no' (by omega)]
    simp
theorem rnd_between {x y k : Int} (hk : 0 ≤ k ∧ k ≤ 1073741824) : min x y ≤ rnd (x * k + y * (1073741824 - k)) 1073741824 ∧ rnd (x * k + y * (1073741824 - k)) 1073741824 ≤ max x y + 1 := by
  have a1 : min x y * k ≤ x * k := Int.mul_le_mul_of_nonneg_right (by omega) hk.1
  have a2 : min x y * (1073741824 - k) ≤ y * (1073741824 - k) := Int.mul_le_mul_of_nonneg_right (by omega) (by omega)
  have a3 : min x y * k + min x y * (1073741824 - k) = min x y * 1073741824 := by rw [← Int.mul_add]; congr 1; omega
  have b1 : x * k ≤ max x y * k := Int.mul_le_mul_of_nonneg_right (by omega) hk.1
  have b2 : y * (1073741824 - k) ≤ max x y * (1073741824 - k) := Int.mul_le_mul_of_nonneg_right (by omega) (by omega)
  have b3 : max x y * k + max x y * (1073741824 - k) = max x y * 1073741824 := by rw [← Int.mul_add]; congr 1; omega
  obtain ⟨A, hA⟩ : ∃ A, x * k + y * (1073741824 - k) = A := ⟨_, rfl⟩
  obtain ⟨m, hm⟩ : ∃ m, min x y = m := ⟨_, rfl⟩
  obtain ⟨M, hM⟩ : ∃ M, max x y = M := ⟨_, rfl⟩
  rw [hm] at a1 a2 a3
  rw [hM] at b1 b2 b3
  have c1 : m * 1073741824 ≤ A := by rw [← hA, ← a3]; exact Int.add_le_add a1 a2
  have c2 : A ≤ M * 1073741824 := by rw [← hA, ← b3]; exact Int.add_le_add b1 b2
  rw [hA, hm, hM]
  unfold rnd
  split <;> omega
theorem sizeL_le {l : List Int} {B : Int} (hB : 0 ≤ B) (h : ∀ x ∈ l, -B ≤ bndI x ∧ bndI x ≤ B) : sizeL l ≤ B := by
  have key : ∀ (l : List Int) (n : Int), n ≤ B → (∀ x ∈ l, -B ≤ bndI x ∧ bndI x ≤ B) → l.foldl (fun n x => max (max n (bndI x)) (-(bndI x))) n ≤ B := by
    intro l
    induction l with
    | nil => intro n h _; exact h
    | cons x l ih =>
      intro n hn h
      have := h x (by simp)
      simp only [List.foldl_cons]
      exact ih _ (by omega) fun y hy => h y (by simp [hy])
  exact key l 0 hB h
theorem sizeL_ge {l : List Int} {x : Int} (hx : x ∈ l) : -(sizeL l) ≤ bndI x ∧ bndI x ≤ sizeL l := by
  have mono : ∀ (l : List Int) (n : Int), n ≤ l.foldl (fun n x => max (max n (bndI x)) (-(bndI x))) n := by
    intro l
    induction l with
    | nil => intro n; exact Int.le_refl _
    | cons x l ih =>
      intro n
      simp only [List.foldl_cons]
      have := ih (max (max n (bndI x)) (-(bndI x)))
      omega
  have key : ∀ (l : List Int) (n : Int), x ∈ l → -(l.foldl (fun n x => max (max n (bndI x)) (-(bndI x))) n) ≤ bndI x ∧ bndI x ≤ l.foldl (fun n x => max (max n (bndI x)) (-(bndI x))) n := by
    intro l
    induction l with
    | nil => intro n h; cases h
    | cons y l ih =>
      intro n h
      rcases List.mem_cons.1 h with rfl | h
      · have := mono l (max (max n (bndI x)) (-(bndI x)))
        simp only [List.foldl_cons]
        omega
      · exact ih _ h
  exact key l 0 hx
theorem join_laws {l r : List Int} {k : Int} {n : Nat} (hl : l.length = n) (hr : r.length = n) (h1 : ∀ x ∈ l, smallI x) (h2 : ∀ x ∈ r, smallI x) (hk : 0 ≤ k ∧ k ≤ 1073741824) :
    joinO [l, r] [k, 1073741824 - k] n = false ∧ (joinL [l, r] [k, 1073741824 - k] n).length = n ∧
    (∀ i (h : i < n), min (l.getD i 0) (r.getD i 0) - 1 ≤ (joinL [l, r] [k, 1073741824 - k] n).getD i 0 ∧ (joinL [l, r] [k, 1073741824 - k] n).getD i 0 ≤ max (l.getD i 0) (r.getD i 0) + 1) ∧
    (∀ x ∈ joinL [l, r] [k, 1073741824 - k] n, inI x) ∧ sizeL (joinL [l, r] [k, 1073741824 - k] n) ≤ max (sizeL l) (sizeL r) + 1 := by
  have hd : ∀ i, dotZ (colI [l, r] i) [k, 1073741824 - k] = l.getD i 0 * k + r.getD i 0 * (1073741824 - k) := by
    intro i; simp [colI, dotZ]
  have hs : ∀ i, i < n → smallI (l.getD i 0) ∧ smallI (r.getD i 0) := by
    intro i hi
    rw [getD_of (by omega), getD_of (by omega)]
    exact ⟨h1 _ (List.getElem_mem _), h2 _ (List.getElem_mem _)⟩
  have hv : ∀ i, i < n → min (l.getD i 0) (r.getD i 0) ≤ rnd (dotZ (colI [l, r] i) [k, 1073741824 - k]) (2 ^ 30) ∧ rnd (dotZ (colI [l, r] i) [k, 1073741824 - k]) (2 ^ 30) ≤ max (l.getD i 0) (r.getD i 0) + 1 := by
    intro i hi
    rw [hd]
    exact rnd_between hk
  have hlen : (joinL [l, r] [k, 1073741824 - k] n).length = n := by simp [joinL]
  have hget : ∀ i, i < n → (joinL [l, r] [k, 1073741824 - k] n).getD i 0 = rnd (dotZ (colI [l, r] i) [k, 1073741824 - k]) (2 ^ 30) := by
    intro i hi
    unfold joinL
    rw [List.getD_eq_getElem?_getD, List.getElem?_map, List.getElem?_range hi, Option.map_some, Option.getD_some]
    have a := hv i hi
    have b := hs i hi
    unfold smallI at b
    exact bnd_id' (by omega)
  refine ⟨?_, hlen, fun i hi => by rw [hget i hi]; have := hv i hi; omega, ?_, ?_⟩
  · unfold joinO
    rw [List.any_eq_false]
    intro i hi
    have hi := List.mem_range.1 hi
    have a := hv i hi
    have b := hs i hi
    unfold smallI at b
    rw [ovr_no' (by omega)]
    simp
  · intro x hx
    unfold joinL at hx
    obtain ⟨i, _, rfl⟩ := List.mem_map.1 hx
    unfold inI bndI
    omega
  · have z1 := (sizeL_bound l l.length (Nat.le_refl _)).1
    rw [List.take_length] at z1
    refine sizeL_le (by omega) fun x hx => ?_
    obtain ⟨i, hi, rfl⟩ := List.getElem_of_mem hx
    rw [hlen] at hi
    have e := hget i hi
    rw [getD_of (by omega)] at e
    have a := hv i hi
    have b := hs i hi
    have c := sizeL_ge (List.getElem_mem (show i < l.length by omega))
    have d := sizeL_ge (List.getElem_mem (show i < r.length by omega))
    rw [← getD_of] at c d
    unfold smallI at b
    rw [bnd_id' (by omega)] at c d
    rw [e, bnd_id' (by omega)]
    omega
end Go.Proofs.Ytimdnnlfkkkpbaa
