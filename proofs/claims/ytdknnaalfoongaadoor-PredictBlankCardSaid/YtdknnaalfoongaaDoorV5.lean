/- The document's answer (chapter 7): sums and differences. -/
import Derived.Test.YtdknnaalfoongaaDoorV4
import Derived.Test.YtdknnaalfoongaaDoorEvV
set_option linter.unusedSimpArgs false
set_option linter.unusedVariables false
set_option maxRecDepth 100000
set_option maxHeartbeats 4000000
namespace Go.Proofs.YtdknnaalfoongaaDoor
/-! an own slice, and blocks behind it -/
section
variable {S T P : Heap} {a b c : Option Blk} {v : Nat} {x : Blk}
theorem tail_set (h : S ++ a :: T = P) (L : Heap) (b : Option Blk) : (P ++ L).set S.length b = P.set S.length b ++ L := by
  rw [List.set_append_left]; rw [← h]; simp
theorem tail_blk (h : S ++ some x :: T = P) (L : Heap) (hv : x.ver = v) : blkAt (P ++ L) S.length v = some x := by
  subst hv
  rw [← h, List.append_assoc, blkAt_app0]; simp [blkAt]
theorem tail_blk0 (h : S ++ some x :: T = P) (hv : x.ver = v) : blkAt P S.length v = some x := by
  subst hv
  rw [← h, blkAt_app0]; simp [blkAt]
theorem tail_may (h : S ++ a :: T = P) (vs : List AV) : mayStore S.length P.length vs = True := by
  simp only [mayStore, eq_iff_iff, iff_true]; left; rw [← h]; simp
theorem tail_may2 (h : S ++ a :: T = P) (j : Nat) (vs : List AV) : mayStore S.length (P.length + j) vs = True := by
  simp only [mayStore, eq_iff_iff, iff_true]; left; rw [← h]; simp; omega
theorem tail_step (h : S ++ a :: T = P) : S ++ b :: (T ++ [c]) = P.set S.length b ++ [c] := by
  rw [← h, set_app0]; simp
theorem tail_take (h : S ++ a :: T = P) : P.take S.length = S := by rw [← h]; simp
end
theorem inI_len {x : Int} (h : inI x) : lenD x.natAbs ≤ 20 := (lenD_le _ _).2 (by unfold inI at h; omega)
theorem inI_getD {l : List Int} (h : ∀ x ∈ l, inI x) (i : Nat) : inI (l.getD i 0) := by
  rcases Nat.lt_or_ge i l.length with h1 | h1
  · rw [List.getD_eq_getElem?_getD, List.getElem?_eq_getElem h1]; exact h _ (List.getElem_mem h1)
  · rw [List.getD_eq_getElem?_getD, List.getElem?_eq_none h1]; simp [inI]
theorem getA_lst {l : List Int} {i : Nat} (h : i < l.length) : (l.map fun x => AV.int .i64 x)[i]? = some (.int .i64 (l.getD i 0)) := by simp [List.getD_eq_getElem?_getD, List.getElem?_eq_getElem h]
def sgn (less : Bool) (y : Int) : Int := bif less then -y else y

end Go.Proofs.YtdknnaalfoongaaDoor
