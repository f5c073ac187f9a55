/- The document's answer (chapter 8): a matrix as its rows. -/
import Derived.Test.YtdknnaalfoongaaDoorN1
import Derived.Test.YtdknnaalfoongaaDoorV5
set_option linter.unusedSimpArgs false
set_option linter.unusedVariables false
set_option maxRecDepth 100000
set_option maxHeartbeats 4000000
namespace Go.Proofs.YtdknnaalfoongaaDoor
def rowsA (r c : Nat) (f : Nat → Nat → Int) : List AV := (List.range r).map fun i => lstI (rowF f c i)
/-- The matrix of these numbers, as its rows. -/
def mtx (r c : Nat) (f : Nat → Nat → Int) : AV := .lst (rowsA r c f) r
theorem rowF_len (f : Nat → Nat → Int) (c i : Nat) : (rowF f c i).length = c := by simp [rowF]
theorem rowF_in {f : Nat → Nat → Int} {c i : Nat} (h : ∀ j, j < c → inI (f i j)) : ∀ x ∈ rowF f c i, inI x := by
  intro x hx
  obtain ⟨k, hk, rfl⟩ := List.mem_map.1 hx
  exact h k (List.mem_range.1 hk)
theorem rowsA_len (r c : Nat) (f : Nat → Nat → Int) : (rowsA r c f).length = r := by simp [rowsA]
theorem rowsA_get {r c i : Nat} {f : Nat → Nat → Int} (h : i < r) : (rowsA r c f)[i]? = some (.lst ((rowF f c i).map fun x => .int .i64 x) c) := by simp [rowsA, h, lstI, rowF_len]
theorem rowF_get {c i j : Nat} {f : Nat → Nat → Int} (h : j < c) : ((rowF f c i).map fun x => AV.int .i64 x)[j]? = some (.int .i64 (f i j)) := by simp [rowF, h]
theorem rowsA_app (i c : Nat) (f : Nat → Nat → Int) : rowsA i c f ++ [.lst ((rowF f c i).map fun x => .int .i64 x) c] = rowsA (i + 1) c f := by
  unfold rowsA
  rw [List.range_succ, List.map_append]
  simp [lstI, rowF_len]
theorem rowF_pre (f : Nat → Nat → Int) (c i : Nat) : rowF f c i = preL (f i) c := rfl
theorem mtx_of {l : List (List Int)} (h : MayR l) : lstL l = mtx l.length (l.getD 0 []).length (rowsF l) := by
  unfold lstL mtx
  congr 1
  apply List.ext_getElem
  · simp [rowsA]
  · intro i h1 h2
    have hi : i < l.length := by simpa using h1
    simp only [rowsA, List.getElem_map, List.getElem_range]
    rw [rowF_rows hi (h.2.2 _ (List.getElem_mem hi))]
theorem rowsA_nmd (n r c : Nat) (f : Nat → Nat → Int) : ∀ x ∈ rowsA r c f, Nmd n x := by
  intro x hx
  obtain ⟨k, _, rfl⟩ := List.mem_map.1 hx
  exact .lst _ _
theorem rowsA_one (r c : Nat) (f : Nat → Nat → Int) : (rowsA r c f).all AV.one = true := by
  rw [List.all_eq_true]
  intro x hx
  obtain ⟨k, _, rfl⟩ := List.mem_map.1 hx
  rfl
theorem fin_rows {base id ver cap u r c : Nat} {f : Nat → Nat → Int} {H : Heap} (h : base ≤ id) (hb : blkAt H id ver = some ⟨rowsA r c f, u⟩) : Fin1 base H (.sl id ver 0 r cap 1) (mtx r c f) := by
  have e := Fin1.sl (base := base) (H := H) id ver 0 r cap 1 _ h hb (rowsA_nmd 0 r c f) (by simp [rowsA_len])
  have e2 : List.take (r * 1) (List.drop 0 (rowsA r c f)) = rowsA r c f := by rw [List.drop_zero, Nat.mul_one, List.take_of_length_le (by rw [rowsA_len]; omega)]
  rwa [e2] at e
theorem anyP_zero (c : Nat) (os : Nat → Nat → Bool) : anyP c os 0 = false := by simp [anyP]
theorem anyP_row (c : Nat) (os : Nat → Nat → Bool) (i : Nat) : anyP c os ((i + 1) * c) = (anyP c os (i * c) || preO (os i) c) := by
  have key : ∀ j, j ≤ c → anyP c os (i * c + j) = (anyP c os (i * c) || preO (os i) j) := by
    intro j
    induction j with
    | zero => intro _; simp [preO]
    | succ j ih =>
      intro hj
      rw [← Nat.add_assoc, anyP_succ c os i j (by omega), ih (by omega), preO_succ, Bool.or_assoc]
  rw [Nat.add_mul, Nat.one_mul]
  exact key c (Nat.le_refl _)
theorem pl_nmd (n : Nat) (l : List Int) : ∀ x ∈ l.map (fun x => AV.int .i64 x), Nmd n x := by
  intro x hx
  obtain ⟨y, _, rfl⟩ := List.mem_map.1 hx
  exact .int _ _

end Go.Proofs.YtdknnaalfoongaaDoor
