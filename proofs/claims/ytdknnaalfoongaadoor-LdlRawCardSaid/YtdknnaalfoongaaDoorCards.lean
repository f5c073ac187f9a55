/-
  DERIVED. GIVEN WITH THE SEED: THE CARDS: each row of YtdknnaalfoongaaDoorRows.lean that lists a variable, with what it lists TIED to the program's text (the seventh form; the later family's looks); each row that meets fmt, with fmt's text TOLD by the authors' own Lean function (tested against real Go, not proved from fmt's source: count such statements apart). THE CARD IS WHAT COUNTS. Prove the row's statement (the work); the ties are given (YtdknnaalfoongaaDoorTie.lean); close each card by the builder's one call (the guide's Derived/Test/ToyasCard.lean, 'card_holds'). Laid BY PROGRAM, IN A SANDBOX (cutbox-door.mjs). By AI agents, Wed Nov 11 2026. No macro, syntax, notation, axiom, sorry.
-/
import Derived.Test.YtdknnaalfoongaaDoorRows
import GoSem.ClaimSeven
namespace Go.Proofs.YtdknnaalfoongaaDoor
namespace Rows

/-- THE TIED CARD OF 'radomelaw38.TrailRuns'. -/
def trailRunsCard : Claim7 := { stood := { row := trailRunsRow, standIns := [], harness := (true, "77ce90a1847948753ccd0ba619d7683b4421728989273fd41d10e8a20258185c"), looks := true }, kinds := [], alts := [], laidByText := true, laidKinds := [.handle], laidTests := true, laidLooks := .later }
def TrailRunsCardSaid : Prop := Claim7.holds Tryd.pinned (.plain (OpenSpec.ofChange trailRunsSpec)) trailRunsCard

/-- THE TIED CARD OF 'radomelaw12.PredictBlank'. -/
def predictBlankCard : Claim7 := { stood := { row := predictBlankRow, standIns := [], harness := (true, "77ce90a1847948753ccd0ba619d7683b4421728989273fd41d10e8a20258185c"), looks := true }, kinds := [], alts := [], laidByText := true, laidKinds := [.handle], laidTests := true, laidLooks := .later }
def PredictBlankCardSaid : Prop := Claim7.holds Tryd.pinned (.plain (OpenSpec.ofChange predictBlankSpec)) predictBlankCard

/-- THE TIED CARD OF 'radomelaw09.LdlRaw'. -/
def ldlRawCard : Claim7 := { stood := { row := ldlRawRow, standIns := [], harness := (true, "77ce90a1847948753ccd0ba619d7683b4421728989273fd41d10e8a20258185c"), looks := true }, kinds := [], alts := [], laidByText := true, laidKinds := [.handle], laidTests := true, laidLooks := .later }
def LdlRawCardSaid : Prop := Claim7.holds Tryd.pinned (.plain (OpenSpec.ofChange ldlRawSpec)) ldlRawCard

/-- THE SECOND FORM's CARD OF 'radomelaw38.TrailRuns'. -/
def trailRunsUptoCard : Claim7 := { stood := { row := trailRunsUptoRow, standIns := [], harness := (true, "77ce90a1847948753ccd0ba619d7683b4421728989273fd41d10e8a20258185c"), looks := true }, kinds := [], alts := [], laidByText := true, laidKinds := [.handle], laidTests := true, laidLooks := .later }
def TrailRunsUptoCardSaid : Prop := Claim7.holds Tryd.pinned (.plain (OpenSpec.upto trailRunsSpec)) trailRunsUptoCard

/-- THE SECOND FORM's CARD OF 'radomelaw12.PredictBlank'. -/
def predictBlankUptoCard : Claim7 := { stood := { row := predictBlankUptoRow, standIns := [], harness := (true, "77ce90a1847948753ccd0ba619d7683b4421728989273fd41d10e8a20258185c"), looks := true }, kinds := [], alts := [], laidByText := true, laidKinds := [.handle], laidTests := true, laidLooks := .later }
def PredictBlankUptoCardSaid : Prop := Claim7.holds Tryd.pinned (.plain (OpenSpec.upto predictBlankSpec)) predictBlankUptoCard

/-- THE SECOND FORM's CARD OF 'radomelaw09.LdlRaw'. -/
def ldlRawUptoCard : Claim7 := { stood := { row := ldlRawUptoRow, standIns := [], harness := (true, "77ce90a1847948753ccd0ba619d7683b4421728989273fd41d10e8a20258185c"), looks := true }, kinds := [], alts := [], laidByText := true, laidKinds := [.handle], laidTests := true, laidLooks := .later }
def LdlRawUptoCardSaid : Prop := Claim7.holds Tryd.pinned (.plain (OpenSpec.upto ldlRawSpec)) ldlRawUptoCard
end Rows
end Go.Proofs.YtdknnaalfoongaaDoor
