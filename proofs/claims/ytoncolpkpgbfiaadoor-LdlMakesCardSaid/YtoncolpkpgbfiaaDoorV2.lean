/- vec: joins, sizes, multiples. -/
import Derived.Test.YtoncolpkpgbfiaaDoorV1
set_option linter.unusedSimpArgs false
set_option linter.unusedVariables false
set_option maxRecDepth 100000
set_option maxHeartbeats 4000000
namespace Go.Proofs.YtoncolpkpgbfiaaDoor

def lstL (l : List (List Int)) : AV := .lst (l.map lstI) l.length
theorem get_lstL {l : List (List Int)} {i : Nat} (h : i < l.length) : (l.map lstI)[i]? = some (lstI l[i]) := by rw [List.getElem?_map, List.getElem?_eq_getElem h]; rfl
theorem get_lstI {l : List Int} {i : Nat} (h : i < l.length) : (l.map fun x => AV.int .i64 x)[i]? = some (.int .i64 l[i]) := by rw [List.getElem?_map, List.getElem?_eq_getElem h]; rfl
def colI (l : List (List Int)) (k : Nat) : List Int := l.map fun r => r.getD k 0
theorem colI_in {l : List (List Int)} {k : Nat} (h : ∀ r ∈ l, ∀ x ∈ r, inI x) : ∀ x ∈ colI l k, inI x := by
  intro x hx
  obtain ⟨r, hr, rfl⟩ := List.mem_map.1 hx
  rw [List.getD_eq_getElem?_getD]
  cases hk : r[k]? with
  | none => simp [inI]
  | some y => exact h r hr y (List.mem_of_getElem? hk)
def joinL (l : List (List Int)) (ch : List Int) (n : Nat) : List Int := (List.range n).map fun k => bndI (rnd (dotZ (colI l k) ch) (2 ^ 30))
def joinO (l : List (List Int)) (ch : List Int) (n : Nat) : Bool := (List.range n).any fun k => ovrB (rnd (dotZ (colI l k) ch) (2 ^ 30))
def sizeL (l : List Int) : Int := l.foldl (fun n x => max (max n (bndI x)) (-(bndI x))) 0
theorem sizeL_step (l : List Int) (i : Nat) (h : i < l.length) : sizeL (l.take (i + 1)) = max (max (sizeL (l.take i)) (bndI l[i])) (-(bndI l[i])) := by
  unfold sizeL
  rw [List.take_succ_eq_append_getElem h, List.foldl_append]
  rfl
theorem sizeL_bound (l : List Int) (i : Nat) (h : i ≤ l.length) : 0 ≤ sizeL (l.take i) ∧ sizeL (l.take i) ≤ 4611686018427387903 := by
  induction i with
  | zero => simp [sizeL]
  | succ i ih =>
    have ih := ih (by omega)
    rw [sizeL_step l i (by omega)]
    have : -4611686018427387903 ≤ bndI l[i] ∧ bndI l[i] ≤ 4611686018427387903 := by unfold bndI; omega
    omega
def sclL (l : List Int) (k : Int) : List Int := (List.range l.length).map fun i => bndI (rnd (l.getD i 0 * k) (2 ^ 20))
def sclO (l : List Int) (k : Int) : Bool := (List.range l.length).any fun i => ovrB (rnd (l.getD i 0 * k) (2 ^ 20))
end Go.Proofs.YtoncolpkpgbfiaaDoor
