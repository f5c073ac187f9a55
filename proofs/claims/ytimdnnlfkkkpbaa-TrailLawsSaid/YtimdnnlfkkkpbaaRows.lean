/-
  No cell of these rows narrows 'for every input' (looked for: loops, veiled, ifaces, maps, wideKeys, modest, calm, conditions, laid).
  DERIVED. THE GIVEN ROWS OF THIS SEAT. 7 by the template 'for every input the law returns true; each argument reads behind the call as it read before'; 0 by the template 'total and deterministic' (their statements: YtimdnnlfkkkpbaaTotals.lean).
  GIVEN WITH THE SEED: the statements are not yours to turn. If you find one false, say at which input.
  Laid BY PROGRAM, IN A SANDBOX (cutbox-rows.mjs): the forced cells as the released guide's own fill.sh prints them over the translation 227930fd008c07c4… (all of the seat's roots in one cut). By AI agents, Wed Nov 11 2026. No macro, syntax, notation, axiom, sorry.
-/
import Derived.Test.YtimdnnlfkkkpbaaChecked
import GoSem.Claim
import GoSem.ClaimJoined
import GoSem.ClaimMapViews
import Derived.JoinedTies
import Derived.KernelRfl
namespace Go.Proofs.Ytimdnnlfkkkpbaa
/- THE CELL 'sum', in the pinned program and in every row, IS THE sha256 OF THE DUMP (.gsa) THAT YtimdnnlfkkkpbaaProg.lean LOADS. Nothing in Lean hashes anything: it is a label: what it is worth is what the hold of that sum in a sandbox is worth. -/
noncomputable def Try.pinned : Pinned := { name := "ytimdnnlfkkkpbaa", sum := "227930fd008c07c4f9111942c83aa02b81bb9ae2bf05b86cbf73bdf53a0a6bd3", checked := Try.checked }
namespace Rows
def none {H : Type} : Left H := { results := [], args := [] }

/-- 'radomelaw07.VecLaws': WHATEVER THE INPUT: true; the input reads as it did. -/
def vecLawsSpec : ChangeSpec := { name := "vecLaws", fn := fun _ => fun
  | [d1, d2, d3] => { results := [.lit (.bool true)], args := [d1, d2, d3] }
  | _ => none }
def vecLawsRow : OpenClaim := { program := "ytimdnnlfkkkpbaa", sum := "227930fd008c07c4f9111942c83aa02b81bb9ae2bf05b86cbf73bdf53a0a6bd3", func := "radome/radomelaw07.VecLaws", spec := "vecLaws", inPlace := ["math/bits.Add64"], unfollowed := true, recurses := true, apart := false }
def VecLawsSaid : Prop := vecLawsRow.holds Try.pinned (OpenSpec.ofChange vecLawsSpec)

/-- ITS FALSE NEIGHBOUR: 'it returns false'. Refute it at one input. -/
def vecLawsWrong : ChangeSpec := { name := "vecLaws", fn := fun _ => fun
  | [d1, d2, d3] => { results := [.lit (.bool false)], args := [d1, d2, d3] }
  | _ => none }
def VecLawsWrongFalsely : Prop := vecLawsRow.holds Try.pinned (OpenSpec.ofChange vecLawsWrong)

/-- 'radomelaw08.MatLaws': WHATEVER THE INPUT: true; the input reads as it did. -/
def matLawsSpec : ChangeSpec := { name := "matLaws", fn := fun _ => fun
  | [d1, d2] => { results := [.lit (.bool true)], args := [d1, d2] }
  | _ => none }
def matLawsRow : OpenClaim := { program := "ytimdnnlfkkkpbaa", sum := "227930fd008c07c4f9111942c83aa02b81bb9ae2bf05b86cbf73bdf53a0a6bd3", func := "radome/radomelaw08.MatLaws", spec := "matLaws", inPlace := ["math/bits.Add64"], unfollowed := true, recurses := true, apart := false }
def MatLawsSaid : Prop := matLawsRow.holds Try.pinned (OpenSpec.ofChange matLawsSpec)

/-- ITS FALSE NEIGHBOUR: 'it returns false'. Refute it at one input. -/
def matLawsWrong : ChangeSpec := { name := "matLaws", fn := fun _ => fun
  | [d1, d2] => { results := [.lit (.bool false)], args := [d1, d2] }
  | _ => none }
def MatLawsWrongFalsely : Prop := matLawsRow.holds Try.pinned (OpenSpec.ofChange matLawsWrong)

/-- 'radomelaw03.QnumSums': WHATEVER THE INPUT: true; the input reads as it did. -/
def qnumSumsSpec : ChangeSpec := { name := "qnumSums", fn := fun _ => fun
  | [d1, d2] => { results := [.lit (.bool true)], args := [d1, d2] }
  | _ => none }
def qnumSumsRow : OpenClaim := { program := "ytimdnnlfkkkpbaa", sum := "227930fd008c07c4f9111942c83aa02b81bb9ae2bf05b86cbf73bdf53a0a6bd3", func := "radome/radomelaw03.QnumSums", spec := "qnumSums", inPlace := ["math/bits.Add64"], named := ["math/bits.divideError", "math/bits.overflowError"], apart := false }
def QnumSumsSaid : Prop := qnumSumsRow.holds Try.pinned (OpenSpec.ofChange qnumSumsSpec)

/-- ITS FALSE NEIGHBOUR: 'it returns false'. Refute it at one input. -/
def qnumSumsWrong : ChangeSpec := { name := "qnumSums", fn := fun _ => fun
  | [d1, d2] => { results := [.lit (.bool false)], args := [d1, d2] }
  | _ => none }
def QnumSumsWrongFalsely : Prop := qnumSumsRow.holds Try.pinned (OpenSpec.ofChange qnumSumsWrong)

/-- 'radomelaw03.QnumNear': WHATEVER THE INPUT: true; the input reads as it did. -/
def qnumNearSpec : ChangeSpec := { name := "qnumNear", fn := fun _ => fun
  | [d1, d2, d3] => { results := [.lit (.bool true)], args := [d1, d2, d3] }
  | _ => none }
def qnumNearRow : OpenClaim := { program := "ytimdnnlfkkkpbaa", sum := "227930fd008c07c4f9111942c83aa02b81bb9ae2bf05b86cbf73bdf53a0a6bd3", func := "radome/radomelaw03.QnumNear", spec := "qnumNear", inPlace := ["math/bits.Add64"], named := ["math/bits.divideError", "math/bits.overflowError"], apart := false }
def QnumNearSaid : Prop := qnumNearRow.holds Try.pinned (OpenSpec.ofChange qnumNearSpec)

/-- ITS FALSE NEIGHBOUR: 'it returns false'. Refute it at one input. -/
def qnumNearWrong : ChangeSpec := { name := "qnumNear", fn := fun _ => fun
  | [d1, d2, d3] => { results := [.lit (.bool false)], args := [d1, d2, d3] }
  | _ => none }
def QnumNearWrongFalsely : Prop := qnumNearRow.holds Try.pinned (OpenSpec.ofChange qnumNearWrong)

/-- 'radomelaw05.TrigExact': WHATEVER THE INPUT: true; the input reads as it did. -/
def trigExactSpec : ChangeSpec := { name := "trigExact", fn := fun _ => fun
  | [d] => { results := [.lit (.bool true)], args := [d] }
  | _ => none }
def trigExactRow : OpenClaim := { program := "ytimdnnlfkkkpbaa", sum := "227930fd008c07c4f9111942c83aa02b81bb9ae2bf05b86cbf73bdf53a0a6bd3", func := "radome/radomelaw05.TrigExact", spec := "trigExact", inPlace := ["math/bits.Add64"], apart := false }
def TrigExactSaid : Prop := trigExactRow.holds Try.pinned (OpenSpec.ofChange trigExactSpec)

/-- ITS FALSE NEIGHBOUR: 'it returns false'. Refute it at one input. -/
def trigExactWrong : ChangeSpec := { name := "trigExact", fn := fun _ => fun
  | [d] => { results := [.lit (.bool false)], args := [d] }
  | _ => none }
def TrigExactWrongFalsely : Prop := trigExactRow.holds Try.pinned (OpenSpec.ofChange trigExactWrong)

/-- 'radomelaw38.TrailLaws': WHATEVER THE INPUT: true; the input reads as it did. -/
def trailLawsSpec : ChangeSpec := { name := "trailLaws", fn := fun _ => fun
  | [d1, d2] => { results := [.lit (.bool true)], args := [d1, d2] }
  | _ => none }
def trailLawsRow : OpenClaim := { program := "ytimdnnlfkkkpbaa", sum := "227930fd008c07c4f9111942c83aa02b81bb9ae2bf05b86cbf73bdf53a0a6bd3", func := "radome/radomelaw38.TrailLaws", spec := "trailLaws", inPlace := ["math/bits.Add64"], named := ["math/bits.divideError", "math/bits.overflowError"], apart := false }
def TrailLawsSaid : Prop := trailLawsRow.holds Try.pinned (OpenSpec.ofChange trailLawsSpec)

/-- ITS FALSE NEIGHBOUR: 'it returns false'. Refute it at one input. -/
def trailLawsWrong : ChangeSpec := { name := "trailLaws", fn := fun _ => fun
  | [d1, d2] => { results := [.lit (.bool false)], args := [d1, d2] }
  | _ => none }
def TrailLawsWrongFalsely : Prop := trailLawsRow.holds Try.pinned (OpenSpec.ofChange trailLawsWrong)

/-- 'radomelaw12.PredictLaws': WHATEVER THE INPUT: true; the input reads as it did. -/
def predictLawsSpec : ChangeSpec := { name := "predictLaws", fn := fun _ => fun
  | [d1, d2, d3] => { results := [.lit (.bool true)], args := [d1, d2, d3] }
  | _ => none }
def predictLawsRow : OpenClaim := { program := "ytimdnnlfkkkpbaa", sum := "227930fd008c07c4f9111942c83aa02b81bb9ae2bf05b86cbf73bdf53a0a6bd3", func := "radome/radomelaw12.PredictLaws", spec := "predictLaws", inPlace := ["math/bits.Add64"], unfollowed := true, recurses := true, apart := false }
def PredictLawsSaid : Prop := predictLawsRow.holds Try.pinned (OpenSpec.ofChange predictLawsSpec)

/-- ITS FALSE NEIGHBOUR: 'it returns false'. Refute it at one input. -/
def predictLawsWrong : ChangeSpec := { name := "predictLaws", fn := fun _ => fun
  | [d1, d2, d3] => { results := [.lit (.bool false)], args := [d1, d2, d3] }
  | _ => none }
def PredictLawsWrongFalsely : Prop := predictLawsRow.holds Try.pinned (OpenSpec.ofChange predictLawsWrong)

/- THE SECOND FORM. 'bulk': how many values and letters a reading holds, each counted each time it is reached (what is shared counts as often as it is met; a slice's spare places count too). A statement '..UptoSaid' is the law's where the arguments, and the package variables that the reading takes, are together of bulk at most 1048576: NARROWER than '..Said'. Prove '..Said' where nothing that the law and all that it calls make is longer than what came in: it says more and counts as full. Else prove '..UptoSaid'. A law counts once. -/
mutual
def uptoBulk {H : Type} : DataW H → Nat
  | .lit (.string bytes) => bytes.length + 1
  | .lit _ => 1
  | .nil => 1
  | .ptr d => uptoBulk d + 1
  | .slice elems spare => uptoBulkAll elems + uptoBulkAll spare + 1
  | .agg parts => uptoBulkAll parts + 1
  | .iface _ d => uptoBulk d + 1
  | .map entries => uptoBulkEntries entries + 1
  | .held _ => 1
def uptoBulkAll {H : Type} : List (DataW H) → Nat
  | [] => 0
  | d :: r => uptoBulk d + uptoBulkAll r
def uptoBulkEntries {H : Type} : List (Lit × DataW H) → Nat
  | [] => 0
  | x :: r => uptoBulkEntry x + uptoBulkEntries r
def uptoBulkEntry {H : Type} : Lit × DataW H → Nat
  | (.string bytes, d) => bytes.length + uptoBulk d + 1
  | (_, d) => uptoBulk d + 1
 end
def uptoSmall : (H : Type) → List (DataW H) → Bool := fun _ ds => decide (uptoBulkAll ds ≤ 1048576)
def OpenSpec.upto (s : _root_.Go.ChangeSpec) : _root_.Go.OpenSpec := { _root_.Go.OpenSpec.ofChange s with cond := some uptoSmall }

/-- 'radomelaw07.VecLaws', WHERE WHAT IT READS IS OF BULK AT MOST 1048576: true; the input reads as it did. -/
def vecLawsUptoRow : OpenClaim := { program := "ytimdnnlfkkkpbaa", sum := "227930fd008c07c4f9111942c83aa02b81bb9ae2bf05b86cbf73bdf53a0a6bd3", func := "radome/radomelaw07.VecLaws", spec := "vecLaws", inPlace := ["math/bits.Add64"], unfollowed := true, recurses := true, apart := false, narrowed := true }
def VecLawsUptoSaid : Prop := vecLawsUptoRow.holds Try.pinned (OpenSpec.upto vecLawsSpec)

/-- 'radomelaw08.MatLaws', WHERE WHAT IT READS IS OF BULK AT MOST 1048576: true; the input reads as it did. -/
def matLawsUptoRow : OpenClaim := { program := "ytimdnnlfkkkpbaa", sum := "227930fd008c07c4f9111942c83aa02b81bb9ae2bf05b86cbf73bdf53a0a6bd3", func := "radome/radomelaw08.MatLaws", spec := "matLaws", inPlace := ["math/bits.Add64"], unfollowed := true, recurses := true, apart := false, narrowed := true }
def MatLawsUptoSaid : Prop := matLawsUptoRow.holds Try.pinned (OpenSpec.upto matLawsSpec)

/-- 'radomelaw03.QnumSums', WHERE WHAT IT READS IS OF BULK AT MOST 1048576: true; the input reads as it did. -/
def qnumSumsUptoRow : OpenClaim := { program := "ytimdnnlfkkkpbaa", sum := "227930fd008c07c4f9111942c83aa02b81bb9ae2bf05b86cbf73bdf53a0a6bd3", func := "radome/radomelaw03.QnumSums", spec := "qnumSums", inPlace := ["math/bits.Add64"], named := ["math/bits.divideError", "math/bits.overflowError"], apart := false, narrowed := true }
def QnumSumsUptoSaid : Prop := qnumSumsUptoRow.holds Try.pinned (OpenSpec.upto qnumSumsSpec)

/-- 'radomelaw03.QnumNear', WHERE WHAT IT READS IS OF BULK AT MOST 1048576: true; the input reads as it did. -/
def qnumNearUptoRow : OpenClaim := { program := "ytimdnnlfkkkpbaa", sum := "227930fd008c07c4f9111942c83aa02b81bb9ae2bf05b86cbf73bdf53a0a6bd3", func := "radome/radomelaw03.QnumNear", spec := "qnumNear", inPlace := ["math/bits.Add64"], named := ["math/bits.divideError", "math/bits.overflowError"], apart := false, narrowed := true }
def QnumNearUptoSaid : Prop := qnumNearUptoRow.holds Try.pinned (OpenSpec.upto qnumNearSpec)

/-- 'radomelaw05.TrigExact', WHERE WHAT IT READS IS OF BULK AT MOST 1048576: true; the input reads as it did. -/
def trigExactUptoRow : OpenClaim := { program := "ytimdnnlfkkkpbaa", sum := "227930fd008c07c4f9111942c83aa02b81bb9ae2bf05b86cbf73bdf53a0a6bd3", func := "radome/radomelaw05.TrigExact", spec := "trigExact", inPlace := ["math/bits.Add64"], apart := false, narrowed := true }
def TrigExactUptoSaid : Prop := trigExactUptoRow.holds Try.pinned (OpenSpec.upto trigExactSpec)

/-- 'radomelaw38.TrailLaws', WHERE WHAT IT READS IS OF BULK AT MOST 1048576: true; the input reads as it did. -/
def trailLawsUptoRow : OpenClaim := { program := "ytimdnnlfkkkpbaa", sum := "227930fd008c07c4f9111942c83aa02b81bb9ae2bf05b86cbf73bdf53a0a6bd3", func := "radome/radomelaw38.TrailLaws", spec := "trailLaws", inPlace := ["math/bits.Add64"], named := ["math/bits.divideError", "math/bits.overflowError"], apart := false, narrowed := true }
def TrailLawsUptoSaid : Prop := trailLawsUptoRow.holds Try.pinned (OpenSpec.upto trailLawsSpec)

/-- 'radomelaw12.PredictLaws', WHERE WHAT IT READS IS OF BULK AT MOST 1048576: true; the input reads as it did. -/
def predictLawsUptoRow : OpenClaim := { program := "ytimdnnlfkkkpbaa", sum := "227930fd008c07c4f9111942c83aa02b81bb9ae2bf05b86cbf73bdf53a0a6bd3", func := "radome/radomelaw12.PredictLaws", spec := "predictLaws", inPlace := ["math/bits.Add64"], unfollowed := true, recurses := true, apart := false, narrowed := true }
def PredictLawsUptoSaid : Prop := predictLawsUptoRow.holds Try.pinned (OpenSpec.upto predictLawsSpec)

end Rows
end Go.Proofs.Ytimdnnlfkkkpbaa
