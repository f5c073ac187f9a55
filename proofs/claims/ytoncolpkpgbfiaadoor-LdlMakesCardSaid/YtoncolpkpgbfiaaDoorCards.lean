/-
  DERIVED. GIVEN WITH THE SEED: THE CARDS: each row of YtoncolpkpgbfiaaDoorRows.lean that lists a variable, with what it lists TIED to the program's text (the seventh form; the later family's looks); each row that meets fmt, with fmt's text TOLD by the authors' own Lean function (tested against real Go, not proved from fmt's source: count such statements apart). THE CARD IS WHAT COUNTS. Prove the row's statement (the work); the ties are given (YtoncolpkpgbfiaaDoorTie.lean); close each card by the builder's one call (the guide's Derived/Test/ToyasCard.lean, 'card_holds'). Laid BY PROGRAM, IN A SANDBOX (cutbox-door.mjs). By AI agents, Wed Nov 11 2026. No macro, syntax, notation, axiom, sorry.
-/
import Derived.Test.YtoncolpkpgbfiaaDoorRows
import GoSem.ClaimSeven
namespace Go.Proofs.YtoncolpkpgbfiaaDoor
namespace Rows

/-- THE TIED CARD OF 'radomelaw10.PolarSpreads'. -/
def polarSpreadsCard : Claim7 := { stood := { row := polarSpreadsRow, standIns := [], harness := (true, "14fe687df71f179162275e3fb50cdc91bd7f7f5178d584129a1141940098b432"), looks := true }, kinds := [], alts := [], laidByText := true, laidKinds := [.handle], laidTests := true, laidLooks := .later }
def PolarSpreadsCardSaid : Prop := Claim7.holds Tryd.pinned (.plain (OpenSpec.ofChange polarSpreadsSpec)) polarSpreadsCard

/-- THE TIED CARD OF 'radomelaw10.PolarQuarter'. -/
def polarQuarterCard : Claim7 := { stood := { row := polarQuarterRow, standIns := [], harness := (true, "14fe687df71f179162275e3fb50cdc91bd7f7f5178d584129a1141940098b432"), looks := true }, kinds := [], alts := [], laidByText := true, laidKinds := [.handle], laidTests := true, laidLooks := .later }
def PolarQuarterCardSaid : Prop := Claim7.holds Tryd.pinned (.plain (OpenSpec.ofChange polarQuarterSpec)) polarQuarterCard

/-- THE TIED CARD OF 'radomelaw09.LdlMakes'. -/
def ldlMakesCard : Claim7 := { stood := { row := ldlMakesRow, standIns := [], harness := (true, "14fe687df71f179162275e3fb50cdc91bd7f7f5178d584129a1141940098b432"), looks := true }, kinds := [], alts := [], laidByText := true, laidKinds := [.handle], laidTests := true, laidLooks := .later }
def LdlMakesCardSaid : Prop := Claim7.holds Tryd.pinned (.plain (OpenSpec.ofChange ldlMakesSpec)) ldlMakesCard

/-- THE TIED CARD OF 'radomelaw11.ModelLaws'. -/
def modelLawsCard : Claim7 := { stood := { row := modelLawsRow, standIns := [], harness := (true, "14fe687df71f179162275e3fb50cdc91bd7f7f5178d584129a1141940098b432"), looks := true }, kinds := [], alts := [], laidByText := true, laidKinds := [.handle], laidTests := true, laidLooks := .later }
def ModelLawsCardSaid : Prop := Claim7.holds Tryd.pinned (.plain (OpenSpec.ofChange modelLawsSpec)) modelLawsCard

/-- THE SECOND FORM's CARD OF 'radomelaw10.PolarSpreads'. -/
def polarSpreadsUptoCard : Claim7 := { stood := { row := polarSpreadsUptoRow, standIns := [], harness := (true, "14fe687df71f179162275e3fb50cdc91bd7f7f5178d584129a1141940098b432"), looks := true }, kinds := [], alts := [], laidByText := true, laidKinds := [.handle], laidTests := true, laidLooks := .later }
def PolarSpreadsUptoCardSaid : Prop := Claim7.holds Tryd.pinned (.plain (OpenSpec.upto polarSpreadsSpec)) polarSpreadsUptoCard

/-- THE SECOND FORM's CARD OF 'radomelaw10.PolarQuarter'. -/
def polarQuarterUptoCard : Claim7 := { stood := { row := polarQuarterUptoRow, standIns := [], harness := (true, "14fe687df71f179162275e3fb50cdc91bd7f7f5178d584129a1141940098b432"), looks := true }, kinds := [], alts := [], laidByText := true, laidKinds := [.handle], laidTests := true, laidLooks := .later }
def PolarQuarterUptoCardSaid : Prop := Claim7.holds Tryd.pinned (.plain (OpenSpec.upto polarQuarterSpec)) polarQuarterUptoCard

/-- THE SECOND FORM's CARD OF 'radomelaw09.LdlMakes'. -/
def ldlMakesUptoCard : Claim7 := { stood := { row := ldlMakesUptoRow, standIns := [], harness := (true, "14fe687df71f179162275e3fb50cdc91bd7f7f5178d584129a1141940098b432"), looks := true }, kinds := [], alts := [], laidByText := true, laidKinds := [.handle], laidTests := true, laidLooks := .later }
def LdlMakesUptoCardSaid : Prop := Claim7.holds Tryd.pinned (.plain (OpenSpec.upto ldlMakesSpec)) ldlMakesUptoCard

/-- THE SECOND FORM's CARD OF 'radomelaw11.ModelLaws'. -/
def modelLawsUptoCard : Claim7 := { stood := { row := modelLawsUptoRow, standIns := [], harness := (true, "14fe687df71f179162275e3fb50cdc91bd7f7f5178d584129a1141940098b432"), looks := true }, kinds := [], alts := [], laidByText := true, laidKinds := [.handle], laidTests := true, laidLooks := .later }
def ModelLawsUptoCardSaid : Prop := Claim7.holds Tryd.pinned (.plain (OpenSpec.upto modelLawsSpec)) modelLawsUptoCard
end Rows
end Go.Proofs.YtoncolpkpgbfiaaDoor
