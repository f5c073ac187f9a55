/-
  NARROWER THAN 'FOR EVERY INPUT', by the rows' own cells (each row's printed sentence says how): TrailRuns: laid · PredictBlank: laid · LdlRaw: laid.
  DERIVED. THE GIVEN ROWS OF THIS SEAT. 3 by the template 'for every input the law returns true; each argument reads behind the call as it read before'; 0 by the template 'total and deterministic' (their statements: YtdknnaalfoongaaDoorTotals.lean).
  GIVEN WITH THE SEED: the statements are not yours to turn. If you find one false, say at which input.
  Laid BY PROGRAM, IN A SANDBOX (cutbox-rows.mjs): the forced cells as the released guide's own fill.sh prints them over the translation 99d4c70f2ffa8455… (all of the seat's roots in one cut). By AI agents, Wed Nov 11 2026. No macro, syntax, notation, axiom, sorry.
-/
import Derived.Test.YtdknnaalfoongaaDoorChecked
import GoSem.Claim
import GoSem.ClaimJoined
import GoSem.ClaimMapViews
import Derived.JoinedTies
import Derived.KernelRfl
namespace Go.Proofs.YtdknnaalfoongaaDoor
/- THE CELL 'sum', in the pinned program and in every row, IS THE sha256 OF THE DUMP (.gsa) THAT YtdknnaalfoongaaDoorProg.lean LOADS. Nothing in Lean hashes anything: it is a label: what it is worth is what the hold of that sum in a sandbox is worth. -/
noncomputable def Tryd.pinned : Pinned := { name := "ytdknnaalfoongaadoor", sum := "99d4c70f2ffa84558af6b6d05a754e2b49d71239566176b28c99b5de60411e11", checked := Tryd.checked }
namespace Rows
def none {H : Type} : Left H := { results := [], args := [] }

/- WHAT THE LISTED PACKAGE-LEVEL VARIABLES READ AS WHEN THE CALL BEGINS. Each datum BY PROGRAM (the guide's laid-datum.mjs) off the statement by which the dump's own 'gosem.cut.vars' lays the variable. In a bare row this is a premise. The card (YtdknnaalfoongaaDoorCards.lean) ties it to the program's text. -/
def laid_errors_errorType {H : Type} : DataW H := .iface "internal/reflectlite.rtype" (.agg [.ptr (.lit (.string [101, 114, 114, 111, 114]))])

/-- 'radomelaw38.TrailRuns': WHATEVER THE INPUT: true; the input reads as it did. -/
def trailRunsSpec : ChangeSpec := { name := "trailRuns", fn := fun _ => fun
  | [d1, d2] => { results := [.lit (.bool true)], args := [d1, d2] }
  | _ => none }
def trailRunsRow : OpenClaim := { program := "ytdknnaalfoongaadoor", sum := "99d4c70f2ffa84558af6b6d05a754e2b49d71239566176b28c99b5de60411e11", func := "radome/radomelaw38.TrailRuns", spec := "trailRuns", inPlace := ["math/bits.Add64", "internal/reflectlite.ValueOf", "(internal/reflectlite.Value).Type", "(internal/reflectlite.Value).IsNil", "internal/reflectlite.TypeOf", "(internal/reflectlite.Value).Elem", "(internal/reflectlite.Value).Set"], unfollowed := true, recurses := true, named := ["math/bits.divideError", "math/bits.overflowError", "errors.errorType"], apart := false, laid := [("errors.errorType", laid_errors_errorType)] }
def TrailRunsSaid : Prop := trailRunsRow.holds Tryd.pinned (OpenSpec.ofChange trailRunsSpec)

/-- ITS FALSE NEIGHBOUR: 'it returns false'. Refute it at one input. -/
def trailRunsWrong : ChangeSpec := { name := "trailRuns", fn := fun _ => fun
  | [d1, d2] => { results := [.lit (.bool false)], args := [d1, d2] }
  | _ => none }
def TrailRunsWrongFalsely : Prop := trailRunsRow.holds Tryd.pinned (OpenSpec.ofChange trailRunsWrong)

/-- 'radomelaw12.PredictBlank': WHATEVER THE INPUT: true; the input reads as it did. -/
def predictBlankSpec : ChangeSpec := { name := "predictBlank", fn := fun _ => fun
  | [d1, d2] => { results := [.lit (.bool true)], args := [d1, d2] }
  | _ => none }
def predictBlankRow : OpenClaim := { program := "ytdknnaalfoongaadoor", sum := "99d4c70f2ffa84558af6b6d05a754e2b49d71239566176b28c99b5de60411e11", func := "radome/radomelaw12.PredictBlank", spec := "predictBlank", inPlace := ["internal/reflectlite.ValueOf", "(internal/reflectlite.Value).Type", "(internal/reflectlite.Value).IsNil", "internal/reflectlite.TypeOf", "(internal/reflectlite.Value).Elem", "(internal/reflectlite.Value).Set", "math/bits.Add64"], unfollowed := true, recurses := true, named := ["errors.errorType"], apart := false, laid := [("errors.errorType", laid_errors_errorType)] }
def PredictBlankSaid : Prop := predictBlankRow.holds Tryd.pinned (OpenSpec.ofChange predictBlankSpec)

/-- ITS FALSE NEIGHBOUR: 'it returns false'. Refute it at one input. -/
def predictBlankWrong : ChangeSpec := { name := "predictBlank", fn := fun _ => fun
  | [d1, d2] => { results := [.lit (.bool false)], args := [d1, d2] }
  | _ => none }
def PredictBlankWrongFalsely : Prop := predictBlankRow.holds Tryd.pinned (OpenSpec.ofChange predictBlankWrong)

/-- 'radomelaw09.LdlRaw': WHATEVER THE INPUT: true; the input reads as it did. -/
def ldlRawSpec : ChangeSpec := { name := "ldlRaw", fn := fun _ => fun
  | [d1, d2, d3] => { results := [.lit (.bool true)], args := [d1, d2, d3] }
  | _ => none }
def ldlRawRow : OpenClaim := { program := "ytdknnaalfoongaadoor", sum := "99d4c70f2ffa84558af6b6d05a754e2b49d71239566176b28c99b5de60411e11", func := "radome/radomelaw09.LdlRaw", spec := "ldlRaw", inPlace := ["internal/reflectlite.ValueOf", "(internal/reflectlite.Value).Type", "(internal/reflectlite.Value).IsNil", "internal/reflectlite.TypeOf", "(internal/reflectlite.Value).Elem", "(internal/reflectlite.Value).Set", "math/bits.Add64"], unfollowed := true, recurses := true, named := ["errors.errorType", "math/bits.divideError", "math/bits.overflowError"], apart := false, laid := [("errors.errorType", laid_errors_errorType)] }
def LdlRawSaid : Prop := ldlRawRow.holds Tryd.pinned (OpenSpec.ofChange ldlRawSpec)

/-- ITS FALSE NEIGHBOUR: 'it returns false'. Refute it at one input. -/
def ldlRawWrong : ChangeSpec := { name := "ldlRaw", fn := fun _ => fun
  | [d1, d2, d3] => { results := [.lit (.bool false)], args := [d1, d2, d3] }
  | _ => none }
def LdlRawWrongFalsely : Prop := ldlRawRow.holds Tryd.pinned (OpenSpec.ofChange ldlRawWrong)

/- THE SECOND FORM. 'bulk': how many values and letters a reading holds, each counted each time it is reached (what is shared counts as often as it is met; a slice's spare places count too). A statement '..UptoSaid' is the law's where the arguments, and the package variables that the reading takes, are together of bulk at most 1048576: NARROWER than '..Said'. Prove '..Said' where nothing that the law and all that it calls make is longer than what came in: it says more and counts as full. Else prove '..UptoSaid'. A law counts once. -/
mutual
def uptoBulk {H : Type} : DataW H → Nat
  | .lit (.string bytes) => bytes.length + 1
  | .lit _ => 1
  | .nil => 1
  | .ptr d => uptoBulk d + 1
  | .slice elems spare => uptoBulkAll elems + uptoBulkAll spare + 1
  | .agg parts => uptoBulkAll parts + 1
  | .iface _ d => uptoBulk d + 1
  | .map entries => uptoBulkEntries entries + 1
  | .held _ => 1
def uptoBulkAll {H : Type} : List (DataW H) → Nat
  | [] => 0
  | d :: r => uptoBulk d + uptoBulkAll r
def uptoBulkEntries {H : Type} : List (Lit × DataW H) → Nat
  | [] => 0
  | x :: r => uptoBulkEntry x + uptoBulkEntries r
def uptoBulkEntry {H : Type} : Lit × DataW H → Nat
  | (.string bytes, d) => bytes.length + uptoBulk d + 1
  | (_, d) => uptoBulk d + 1
 end
def uptoSmall : (H : Type) → List (DataW H) → Bool := fun _ ds => decide (uptoBulkAll ds ≤ 1048576)
def OpenSpec.upto (s : _root_.Go.ChangeSpec) : _root_.Go.OpenSpec := { _root_.Go.OpenSpec.ofChange s with cond := some uptoSmall }

/-- 'radomelaw38.TrailRuns', WHERE WHAT IT READS IS OF BULK AT MOST 1048576: true; the input reads as it did. -/
def trailRunsUptoRow : OpenClaim := { program := "ytdknnaalfoongaadoor", sum := "99d4c70f2ffa84558af6b6d05a754e2b49d71239566176b28c99b5de60411e11", func := "radome/radomelaw38.TrailRuns", spec := "trailRuns", inPlace := ["math/bits.Add64", "internal/reflectlite.ValueOf", "(internal/reflectlite.Value).Type", "(internal/reflectlite.Value).IsNil", "internal/reflectlite.TypeOf", "(internal/reflectlite.Value).Elem", "(internal/reflectlite.Value).Set"], unfollowed := true, recurses := true, named := ["math/bits.divideError", "math/bits.overflowError", "errors.errorType"], apart := false, laid := [("errors.errorType", laid_errors_errorType)], narrowed := true }
def TrailRunsUptoSaid : Prop := trailRunsUptoRow.holds Tryd.pinned (OpenSpec.upto trailRunsSpec)

/-- 'radomelaw12.PredictBlank', WHERE WHAT IT READS IS OF BULK AT MOST 1048576: true; the input reads as it did. -/
def predictBlankUptoRow : OpenClaim := { program := "ytdknnaalfoongaadoor", sum := "99d4c70f2ffa84558af6b6d05a754e2b49d71239566176b28c99b5de60411e11", func := "radome/radomelaw12.PredictBlank", spec := "predictBlank", inPlace := ["internal/reflectlite.ValueOf", "(internal/reflectlite.Value).Type", "(internal/reflectlite.Value).IsNil", "internal/reflectlite.TypeOf", "(internal/reflectlite.Value).Elem", "(internal/reflectlite.Value).Set", "math/bits.Add64"], unfollowed := true, recurses := true, named := ["errors.errorType"], apart := false, laid := [("errors.errorType", laid_errors_errorType)], narrowed := true }
def PredictBlankUptoSaid : Prop := predictBlankUptoRow.holds Tryd.pinned (OpenSpec.upto predictBlankSpec)

/-- 'radomelaw09.LdlRaw', WHERE WHAT IT READS IS OF BULK AT MOST 1048576: true; the input reads as it did. -/
def ldlRawUptoRow : OpenClaim := { program := "ytdknnaalfoongaadoor", sum := "99d4c70f2ffa84558af6b6d05a754e2b49d71239566176b28c99b5de60411e11", func := "radome/radomelaw09.LdlRaw", spec := "ldlRaw", inPlace := ["internal/reflectlite.ValueOf", "(internal/reflectlite.Value).Type", "(internal/reflectlite.Value).IsNil", "internal/reflectlite.TypeOf", "(internal/reflectlite.Value).Elem", "(internal/reflectlite.Value).Set", "math/bits.Add64"], unfollowed := true, recurses := true, named := ["errors.errorType", "math/bits.divideError", "math/bits.overflowError"], apart := false, laid := [("errors.errorType", laid_errors_errorType)], narrowed := true }
def LdlRawUptoSaid : Prop := ldlRawUptoRow.holds Tryd.pinned (OpenSpec.upto ldlRawSpec)

end Rows
end Go.Proofs.YtdknnaalfoongaaDoor
