/- The law LdlSolves. -/
import Derived.Test.YtdknnaalfoongaaGreatDoorF9
import Derived.Test.YtdknnaalfoongaaGreatDoorKR
set_option linter.unusedSimpArgs false
set_option linter.unusedVariables false
set_option maxRecDepth 100000
set_option maxHeartbeats 8000000
namespace Go.Proofs.YtdknnaalfoongaaGreatDoor
theorem ldlSolvesLaw_ok (rows : List (List Int)) (more : Int) (l : List Int) (S : Heap) (hr : ∀ r ∈ rows, ∀ x ∈ r, inI x) (hmore : inI more) (hlin : ∀ x ∈ l, inI x) : Call theE 5 [lstL rows, .int .i64 more, lstI l] S (.bool true) S := by
  by_cases hm : MayR rows
  · by_cases hs : rows.length = (rows.getD 0 []).length
    · have hn : 1 ≤ rows.length ∧ rows.length ≤ 6 := hm.1
      have := ldlSolvesGood_ok (fun x S h => refLog_ok x 20 S h (by decide)) rows.length (rowsF rows) more l S hn hmore hlin
      rw [mtx_of hm, ← hs]
      exact this
    · have hb := hm.2.1
      have ev := fun S => evenRows_same rows more S (fun h => hs h.2)
      have mo := fun S => matOf9_ok (lstL rows) rows.length (rows.getD 0 []).length (rowsF rows) S (fun _ _ _ => rfl) (fun S => of_mat_ok rows _ S hm.1 hb (fun r hr => hm.2.2 r hr))
      exact ldlSolvesBad_ok _ _ _ 1 more l S (fun _ _ _ => rfl) (fun _ _ _ => rfl) ev mo (fun S => ldlOf_odd _ _ _ S (by simp [gridP]) (fun S => ldlEven_ok _ _ _ S hm.1 hb false (by simp; intro h; exact hs h.1)))
  · exact ldlSolvesBad_ok _ _ zeroM 1 more l S (fun _ _ _ => rfl) (fun _ _ _ => rfl) (fun S => evenRows_same rows more S (fun h => hm h.1)) (fun S => matOf9_bad rows S hm) (fun S => ldlOf_odd 0 0 _ S (by simp) ldlEven_bad)
end Go.Proofs.YtdknnaalfoongaaGreatDoor
