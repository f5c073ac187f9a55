/- The document's answer (chapter 7): a vector times a number. -/
import Derived.Test.YtdknnaalfoongaaGreatDoorV3
import Derived.Test.YtdknnaalfoongaaGreatDoorP6
import Derived.Test.YtdknnaalfoongaaGreatDoorD4
set_option linter.unusedSimpArgs false
set_option linter.unusedVariables false
set_option maxRecDepth 100000
set_option maxHeartbeats 4000000
namespace Go.Proofs.YtdknnaalfoongaaGreatDoor
/-- The first i of what is told of each place. -/
def preL (f : Nat → Int) (i : Nat) : List Int := (List.range i).map f
def preO (f : Nat → Bool) (i : Nat) : Bool := (List.range i).any f
theorem preL_len (f : Nat → Int) (i : Nat) : (preL f i).length = i := by simp [preL]
theorem preL_app (f : Nat → Int) (i : Nat) : (preL f i).map (fun x => AV.int .i64 x) ++ [AV.int .i64 (f i)] = (preL f (i + 1)).map fun x => .int .i64 x := by unfold preL; rw [List.range_succ, List.map_append, List.map_append]; rfl
theorem preO_succ (f : Nat → Bool) (i : Nat) : preO f (i + 1) = (preO f i || f i) := by unfold preO; rw [List.range_succ, List.any_append]; simp

end Go.Proofs.YtdknnaalfoongaaGreatDoor
