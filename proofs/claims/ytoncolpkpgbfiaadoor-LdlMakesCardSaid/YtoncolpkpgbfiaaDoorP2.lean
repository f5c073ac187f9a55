/- Numbers of 256 bits in eight parts: sums with signs. -/
import Derived.Test.YtoncolpkpgbfiaaDoorP1
set_option linter.unusedSimpArgs false
set_option linter.unusedVariables false
set_option maxRecDepth 100000
set_option maxHeartbeats 4000000
namespace Go.Proofs.YtoncolpkpgbfiaaDoor
/-- A sum of both, with their signs. -/
def joinW (x y : Bool × Nat) : Bool × Nat := if x.1 = y.1 then (x.1, x.2 + y.2) else if x.2 < y.2 then (y.1, y.2 - x.2) else (x.1, x.2 - y.2)
def longP (x : Bool × Nat) : AV := longA x.1 x.2
def valL (x : Bool × Nat) : Int := if x.1 then -(x.2 : Int) else x.2
theorem valL_join (x y : Bool × Nat) : valL (joinW x y) = valL x + valL y := by
  obtain ⟨s, n⟩ := x
  obtain ⟨t, m⟩ := y
  unfold joinW valL
  cases s <;> cases t <;> simp only [if_true, reduceCtorEq, if_false, Bool.false_eq_true] <;> (try split) <;> simp <;> omega
theorem abs_valL (x : Bool × Nat) : (valL x).natAbs = x.2 := by unfold valL; split <;> omega
theorem blkL {S : Heap} {L : Heap} {b0 b1 : Option Blk} {v : Nat} : blkAt (S ++ (b0 :: b1 :: L)) (S.length + 1) v = (match b1 with | some b => if b.ver = v then some b else none | none => none) := by
  rw [blkAt_app, blkAt_succ]
  cases b1 <;> rfl

end Go.Proofs.YtoncolpkpgbfiaaDoor
