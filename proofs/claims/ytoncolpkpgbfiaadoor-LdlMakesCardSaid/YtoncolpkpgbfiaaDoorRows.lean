/-
  NARROWER THAN 'FOR EVERY INPUT', by the rows' own cells (each row's printed sentence says how): PolarSpreads: laid · PolarQuarter: laid · LdlMakes: laid · ModelLaws: laid.
  DERIVED. THE GIVEN ROWS OF THIS SEAT. 4 by the template 'for every input the law returns true; each argument reads behind the call as it read before'; 0 by the template 'total and deterministic' (their statements: YtoncolpkpgbfiaaDoorTotals.lean).
  GIVEN WITH THE SEED: the statements are not yours to turn. If you find one false, say at which input.
  Laid BY PROGRAM, IN A SANDBOX (cutbox-rows.mjs): the forced cells as the released guide's own fill.sh prints them over the translation 0038ae7d2a53fe14… (all of the seat's roots in one cut). By AI agents, Wed Nov 11 2026. No macro, syntax, notation, axiom, sorry.
-/
import Derived.Test.YtoncolpkpgbfiaaDoorChecked
import GoSem.Claim
import GoSem.ClaimJoined
import GoSem.ClaimMapViews
import Derived.JoinedTies
import Derived.KernelRfl
namespace Go.Proofs.YtoncolpkpgbfiaaDoor
/- THE CELL 'sum', in the pinned program and in every row, IS THE sha256 OF THE DUMP (.gsa) THAT YtoncolpkpgbfiaaDoorProg.lean LOADS. Nothing in Lean hashes anything: it is a label: what it is worth is what the hold of that sum in a sandbox is worth. -/
noncomputable def Tryd.pinned : Pinned := { name := "ytoncolpkpgbfiaadoor", sum := "0038ae7d2a53fe14677718a809b4604edb24a388b74b1935e2bde270d616e0d7", checked := Tryd.checked }
namespace Rows
def none {H : Type} : Left H := { results := [], args := [] }

/- WHAT THE LISTED PACKAGE-LEVEL VARIABLES READ AS WHEN THE CALL BEGINS. Each datum BY PROGRAM (the guide's laid-datum.mjs) off the statement by which the dump's own 'gosem.cut.vars' lays the variable. In a bare row this is a premise. The card (YtoncolpkpgbfiaaDoorCards.lean) ties it to the program's text. -/
def laid_errors_errorType {H : Type} : DataW H := .iface "internal/reflectlite.rtype" (.agg [.ptr (.lit (.string [101, 114, 114, 111, 114]))])

/-- 'radomelaw10.PolarSpreads': WHATEVER THE INPUT: true; the input reads as it did. -/
def polarSpreadsSpec : ChangeSpec := { name := "polarSpreads", fn := fun _ => fun
  | [d1, d2, d3] => { results := [.lit (.bool true)], args := [d1, d2, d3] }
  | _ => none }
def polarSpreadsRow : OpenClaim := { program := "ytoncolpkpgbfiaadoor", sum := "0038ae7d2a53fe14677718a809b4604edb24a388b74b1935e2bde270d616e0d7", func := "radome/radomelaw10.PolarSpreads", spec := "polarSpreads", inPlace := ["math/bits.Add64", "internal/reflectlite.ValueOf", "(internal/reflectlite.Value).Type", "(internal/reflectlite.Value).IsNil", "internal/reflectlite.TypeOf", "(internal/reflectlite.Value).Elem", "(internal/reflectlite.Value).Set"], unfollowed := true, recurses := true, named := ["errors.errorType"], apart := false, laid := [("errors.errorType", laid_errors_errorType)] }
def PolarSpreadsSaid : Prop := polarSpreadsRow.holds Tryd.pinned (OpenSpec.ofChange polarSpreadsSpec)

/-- ITS FALSE NEIGHBOUR: 'it returns false'. Refute it at one input. -/
def polarSpreadsWrong : ChangeSpec := { name := "polarSpreads", fn := fun _ => fun
  | [d1, d2, d3] => { results := [.lit (.bool false)], args := [d1, d2, d3] }
  | _ => none }
def PolarSpreadsWrongFalsely : Prop := polarSpreadsRow.holds Tryd.pinned (OpenSpec.ofChange polarSpreadsWrong)

/-- 'radomelaw10.PolarQuarter': WHATEVER THE INPUT: true; the input reads as it did. -/
def polarQuarterSpec : ChangeSpec := { name := "polarQuarter", fn := fun _ => fun
  | [d1, d2] => { results := [.lit (.bool true)], args := [d1, d2] }
  | _ => none }
def polarQuarterRow : OpenClaim := { program := "ytoncolpkpgbfiaadoor", sum := "0038ae7d2a53fe14677718a809b4604edb24a388b74b1935e2bde270d616e0d7", func := "radome/radomelaw10.PolarQuarter", spec := "polarQuarter", inPlace := ["math/bits.Add64", "internal/reflectlite.ValueOf", "(internal/reflectlite.Value).Type", "(internal/reflectlite.Value).IsNil", "internal/reflectlite.TypeOf", "(internal/reflectlite.Value).Elem", "(internal/reflectlite.Value).Set"], unfollowed := true, recurses := true, named := ["errors.errorType"], apart := false, laid := [("errors.errorType", laid_errors_errorType)] }
def PolarQuarterSaid : Prop := polarQuarterRow.holds Tryd.pinned (OpenSpec.ofChange polarQuarterSpec)

/-- ITS FALSE NEIGHBOUR: 'it returns false'. Refute it at one input. -/
def polarQuarterWrong : ChangeSpec := { name := "polarQuarter", fn := fun _ => fun
  | [d1, d2] => { results := [.lit (.bool false)], args := [d1, d2] }
  | _ => none }
def PolarQuarterWrongFalsely : Prop := polarQuarterRow.holds Tryd.pinned (OpenSpec.ofChange polarQuarterWrong)

/-- 'radomelaw09.LdlMakes': WHATEVER THE INPUT: true; the input reads as it did. -/
def ldlMakesSpec : ChangeSpec := { name := "ldlMakes", fn := fun _ => fun
  | [d1, d2, d3] => { results := [.lit (.bool true)], args := [d1, d2, d3] }
  | _ => none }
def ldlMakesRow : OpenClaim := { program := "ytoncolpkpgbfiaadoor", sum := "0038ae7d2a53fe14677718a809b4604edb24a388b74b1935e2bde270d616e0d7", func := "radome/radomelaw09.LdlMakes", spec := "ldlMakes", inPlace := ["math/bits.Add64", "internal/reflectlite.ValueOf", "(internal/reflectlite.Value).Type", "(internal/reflectlite.Value).IsNil", "internal/reflectlite.TypeOf", "(internal/reflectlite.Value).Elem", "(internal/reflectlite.Value).Set"], unfollowed := true, recurses := true, named := ["math/bits.divideError", "math/bits.overflowError", "errors.errorType"], apart := false, laid := [("errors.errorType", laid_errors_errorType)] }
def LdlMakesSaid : Prop := ldlMakesRow.holds Tryd.pinned (OpenSpec.ofChange ldlMakesSpec)

/-- ITS FALSE NEIGHBOUR: 'it returns false'. Refute it at one input. -/
def ldlMakesWrong : ChangeSpec := { name := "ldlMakes", fn := fun _ => fun
  | [d1, d2, d3] => { results := [.lit (.bool false)], args := [d1, d2, d3] }
  | _ => none }
def LdlMakesWrongFalsely : Prop := ldlMakesRow.holds Tryd.pinned (OpenSpec.ofChange ldlMakesWrong)

/-- 'radomelaw11.ModelLaws': WHATEVER THE INPUT: true; the input reads as it did. -/
def modelLawsSpec : ChangeSpec := { name := "modelLaws", fn := fun _ => fun
  | [d1, d2, d3] => { results := [.lit (.bool true)], args := [d1, d2, d3] }
  | _ => none }
def modelLawsRow : OpenClaim := { program := "ytoncolpkpgbfiaadoor", sum := "0038ae7d2a53fe14677718a809b4604edb24a388b74b1935e2bde270d616e0d7", func := "radome/radomelaw11.ModelLaws", spec := "modelLaws", inPlace := ["math/bits.Add64", "internal/reflectlite.ValueOf", "(internal/reflectlite.Value).Type", "(internal/reflectlite.Value).IsNil", "internal/reflectlite.TypeOf", "(internal/reflectlite.Value).Elem", "(internal/reflectlite.Value).Set"], unfollowed := true, recurses := true, named := ["errors.errorType", "math/bits.divideError", "math/bits.overflowError"], apart := false, laid := [("errors.errorType", laid_errors_errorType)] }
def ModelLawsSaid : Prop := modelLawsRow.holds Tryd.pinned (OpenSpec.ofChange modelLawsSpec)

/-- ITS FALSE NEIGHBOUR: 'it returns false'. Refute it at one input. -/
def modelLawsWrong : ChangeSpec := { name := "modelLaws", fn := fun _ => fun
  | [d1, d2, d3] => { results := [.lit (.bool false)], args := [d1, d2, d3] }
  | _ => none }
def ModelLawsWrongFalsely : Prop := modelLawsRow.holds Tryd.pinned (OpenSpec.ofChange modelLawsWrong)

/- THE SECOND FORM. 'bulk': how many values and letters a reading holds, each counted each time it is reached (what is shared counts as often as it is met; a slice's spare places count too). A statement '..UptoSaid' is the law's where the arguments, and the package variables that the reading takes, are together of bulk at most 1048576: NARROWER than '..Said'. Prove '..Said' where nothing that the law and all that it calls make is longer than what came in: it says more and counts as full. Else prove '..UptoSaid'. A law counts once. -/
mutual
def uptoBulk {H : Type} : DataW H → Nat
  | .lit (.string bytes) => bytes.length + 1
  | .lit _ => 1
  | .nil => 1
  | .ptr d => uptoBulk d + 1
  | .slice elems spare => uptoBulkAll elems + uptoBulkAll spare + 1
  | .agg parts => uptoBulkAll parts + 1
  | .iface _ d => uptoBulk d + 1
  | .map entries => uptoBulkEntries entries + 1
  | .held _ => 1
def uptoBulkAll {H : Type} : List (DataW H) → Nat
  | [] => 0
  | d :: r => uptoBulk d + uptoBulkAll r
def uptoBulkEntries {H : Type} : List (Lit × DataW H) → Nat
  | [] => 0
  | x :: r => uptoBulkEntry x + uptoBulkEntries r
def uptoBulkEntry {H : Type} : Lit × DataW H → Nat
  | (.string bytes, d) => bytes.length + uptoBulk d + 1
  | (_, d) => uptoBulk d + 1
 end
def uptoSmall : (H : Type) → List (DataW H) → Bool := fun _ ds => decide (uptoBulkAll ds ≤ 1048576)
def OpenSpec.upto (s : _root_.Go.ChangeSpec) : _root_.Go.OpenSpec := { _root_.Go.OpenSpec.ofChange s with cond := some uptoSmall }

/-- 'radomelaw10.PolarSpreads', WHERE WHAT IT READS IS OF BULK AT MOST 1048576: true; the input reads as it did. -/
def polarSpreadsUptoRow : OpenClaim := { program := "ytoncolpkpgbfiaadoor", sum := "0038ae7d2a53fe14677718a809b4604edb24a388b74b1935e2bde270d616e0d7", func := "radome/radomelaw10.PolarSpreads", spec := "polarSpreads", inPlace := ["math/bits.Add64", "internal/reflectlite.ValueOf", "(internal/reflectlite.Value).Type", "(internal/reflectlite.Value).IsNil", "internal/reflectlite.TypeOf", "(internal/reflectlite.Value).Elem", "(internal/reflectlite.Value).Set"], unfollowed := true, recurses := true, named := ["errors.errorType"], apart := false, laid := [("errors.errorType", laid_errors_errorType)], narrowed := true }
def PolarSpreadsUptoSaid : Prop := polarSpreadsUptoRow.holds Tryd.pinned (OpenSpec.upto polarSpreadsSpec)

/-- 'radomelaw10.PolarQuarter', WHERE WHAT IT READS IS OF BULK AT MOST 1048576: true; the input reads as it did. -/
def polarQuarterUptoRow : OpenClaim := { program := "ytoncolpkpgbfiaadoor", sum := "0038ae7d2a53fe14677718a809b4604edb24a388b74b1935e2bde270d616e0d7", func := "radome/radomelaw10.PolarQuarter", spec := "polarQuarter", inPlace := ["math/bits.Add64", "internal/reflectlite.ValueOf", "(internal/reflectlite.Value).Type", "(internal/reflectlite.Value).IsNil", "internal/reflectlite.TypeOf", "(internal/reflectlite.Value).Elem", "(internal/reflectlite.Value).Set"], unfollowed := true, recurses := true, named := ["errors.errorType"], apart := false, laid := [("errors.errorType", laid_errors_errorType)], narrowed := true }
def PolarQuarterUptoSaid : Prop := polarQuarterUptoRow.holds Tryd.pinned (OpenSpec.upto polarQuarterSpec)

/-- 'radomelaw09.LdlMakes', WHERE WHAT IT READS IS OF BULK AT MOST 1048576: true; the input reads as it did. -/
def ldlMakesUptoRow : OpenClaim := { program := "ytoncolpkpgbfiaadoor", sum := "0038ae7d2a53fe14677718a809b4604edb24a388b74b1935e2bde270d616e0d7", func := "radome/radomelaw09.LdlMakes", spec := "ldlMakes", inPlace := ["math/bits.Add64", "internal/reflectlite.ValueOf", "(internal/reflectlite.Value).Type", "(internal/reflectlite.Value).IsNil", "internal/reflectlite.TypeOf", "(internal/reflectlite.Value).Elem", "(internal/reflectlite.Value).Set"], unfollowed := true, recurses := true, named := ["math/bits.divideError", "math/bits.overflowError", "errors.errorType"], apart := false, laid := [("errors.errorType", laid_errors_errorType)], narrowed := true }
def LdlMakesUptoSaid : Prop := ldlMakesUptoRow.holds Tryd.pinned (OpenSpec.upto ldlMakesSpec)

/-- 'radomelaw11.ModelLaws', WHERE WHAT IT READS IS OF BULK AT MOST 1048576: true; the input reads as it did. -/
def modelLawsUptoRow : OpenClaim := { program := "ytoncolpkpgbfiaadoor", sum := "0038ae7d2a53fe14677718a809b4604edb24a388b74b1935e2bde270d616e0d7", func := "radome/radomelaw11.ModelLaws", spec := "modelLaws", inPlace := ["math/bits.Add64", "internal/reflectlite.ValueOf", "(internal/reflectlite.Value).Type", "(internal/reflectlite.Value).IsNil", "internal/reflectlite.TypeOf", "(internal/reflectlite.Value).Elem", "(internal/reflectlite.Value).Set"], unfollowed := true, recurses := true, named := ["errors.errorType", "math/bits.divideError", "math/bits.overflowError"], apart := false, laid := [("errors.errorType", laid_errors_errorType)], narrowed := true }
def ModelLawsUptoSaid : Prop := modelLawsUptoRow.holds Tryd.pinned (OpenSpec.upto modelLawsSpec)

end Rows
end Go.Proofs.YtoncolpkpgbfiaaDoor
