/- vec: one by one. -/
import Derived.Test.YtoncolpkpgbfiaaDoorQ2
set_option linter.unusedSimpArgs false
set_option linter.unusedVariables false
set_option maxRecDepth 100000
set_option maxHeartbeats 4000000
namespace Go.Proofs.YtoncolpkpgbfiaaDoor

def eachC (xs : Nat → Int) (n i : Nat) : List AV := ((List.range i).map fun j => AV.int .i64 (xs j)) ++ List.replicate (n - i) (AV.int .i64 0)
theorem eachC_len (xs : Nat → Int) (n i : Nat) (h : i ≤ n) : (eachC xs n i).length = n := by simp [eachC]; omega
theorem eachC_set (xs : Nat → Int) (n i : Nat) (h : i < n) : (eachC xs n i).set i (.int .i64 (xs i)) = eachC xs n (i + 1) := by
  unfold eachC
  rw [List.set_append_right _ _ (by simp), List.range_succ, List.map_append]
  simp only [List.length_map, List.length_range, Nat.sub_self, List.map_cons, List.map_nil, List.append_assoc]
  rw [show n - i = (n - (i + 1)) + 1 by omega, List.replicate_succ, List.set_cons_zero]
  rfl
theorem eachC_all (xs : Nat → Int) (n : Nat) : eachC xs n n = (List.range n).map fun j => AV.int .i64 (xs j) := by simp [eachC]
end Go.Proofs.YtoncolpkpgbfiaaDoor
