/-
  DERIVED. GIVEN WITH THE SEED: THE CARDS: each row of YtdknnaalfoongaaGreatDoorRows.lean that lists a variable, with what it lists TIED to the program's text (the seventh form; the later family's looks); each row that meets fmt, with fmt's text TOLD by the authors' own Lean function (tested against real Go, not proved from fmt's source: count such statements apart). THE CARD IS WHAT COUNTS. Prove the row's statement (the work); the ties are given (YtdknnaalfoongaaGreatDoorTie.lean); close each card by the builder's one call (the guide's Derived/Test/ToyasCard.lean, 'card_holds'). Laid BY PROGRAM, IN A SANDBOX (cutbox-door.mjs). By AI agents, Wed Nov 11 2026. No macro, syntax, notation, axiom, sorry.
-/
import Derived.Test.YtdknnaalfoongaaGreatDoorRows
import GoSem.ClaimSeven
namespace Go.Proofs.YtdknnaalfoongaaGreatDoor
namespace Rows

/-- THE TIED CARD OF 'radomelaw12.PredictNext'. -/
def predictNextCard : Claim7 := { stood := { row := predictNextRow, standIns := [], harness := (true, "3531ac523e6a85fc9730a55f3e36fb54a9edbe39a80a1c60d192440ba1fd1586"), looks := true }, kinds := [], alts := [], laidByText := true, laidKinds := [.handle], laidTests := true, laidLooks := .later }
def PredictNextCardSaid : Prop := Claim7.holds Tryz.pinned (.plain (OpenSpec.ofChange predictNextSpec)) predictNextCard

/-- THE TIED CARD OF 'radomelaw09.LdlOf'. -/
def ldlOfCard : Claim7 := { stood := { row := ldlOfRow, standIns := [], harness := (true, "3531ac523e6a85fc9730a55f3e36fb54a9edbe39a80a1c60d192440ba1fd1586"), looks := true }, kinds := [], alts := [], laidByText := true, laidKinds := [.handle], laidTests := true, laidLooks := .later }
def LdlOfCardSaid : Prop := Claim7.holds Tryz.pinned (.plain (OpenSpec.ofChange ldlOfSpec)) ldlOfCard

/-- THE TIED CARD OF 'radomelaw09.LdlSolves'. -/
def ldlSolvesCard : Claim7 := { stood := { row := ldlSolvesRow, standIns := [], harness := (true, "3531ac523e6a85fc9730a55f3e36fb54a9edbe39a80a1c60d192440ba1fd1586"), looks := true }, kinds := [], alts := [], laidByText := true, laidKinds := [.handle], laidTests := true, laidLooks := .later }
def LdlSolvesCardSaid : Prop := Claim7.holds Tryz.pinned (.plain (OpenSpec.ofChange ldlSolvesSpec)) ldlSolvesCard

/-- THE SECOND FORM's CARD OF 'radomelaw12.PredictNext'. -/
def predictNextUptoCard : Claim7 := { stood := { row := predictNextUptoRow, standIns := [], harness := (true, "3531ac523e6a85fc9730a55f3e36fb54a9edbe39a80a1c60d192440ba1fd1586"), looks := true }, kinds := [], alts := [], laidByText := true, laidKinds := [.handle], laidTests := true, laidLooks := .later }
def PredictNextUptoCardSaid : Prop := Claim7.holds Tryz.pinned (.plain (OpenSpec.upto predictNextSpec)) predictNextUptoCard

/-- THE SECOND FORM's CARD OF 'radomelaw09.LdlOf'. -/
def ldlOfUptoCard : Claim7 := { stood := { row := ldlOfUptoRow, standIns := [], harness := (true, "3531ac523e6a85fc9730a55f3e36fb54a9edbe39a80a1c60d192440ba1fd1586"), looks := true }, kinds := [], alts := [], laidByText := true, laidKinds := [.handle], laidTests := true, laidLooks := .later }
def LdlOfUptoCardSaid : Prop := Claim7.holds Tryz.pinned (.plain (OpenSpec.upto ldlOfSpec)) ldlOfUptoCard

/-- THE SECOND FORM's CARD OF 'radomelaw09.LdlSolves'. -/
def ldlSolvesUptoCard : Claim7 := { stood := { row := ldlSolvesUptoRow, standIns := [], harness := (true, "3531ac523e6a85fc9730a55f3e36fb54a9edbe39a80a1c60d192440ba1fd1586"), looks := true }, kinds := [], alts := [], laidByText := true, laidKinds := [.handle], laidTests := true, laidLooks := .later }
def LdlSolvesUptoCardSaid : Prop := Claim7.holds Tryz.pinned (.plain (OpenSpec.upto ldlSolvesSpec)) ldlSolvesUptoCard
end Rows
end Go.Proofs.YtdknnaalfoongaaGreatDoor
