/-
  DERIVED. GIVEN WITH THE SEED: THE CARDS: each row of YtjdnmejohadlbaaDoorRows.lean that lists a variable, with what it lists TIED to the program's text (the seventh form; the later family's looks); each row that meets fmt, with fmt's text TOLD by the authors' own Lean function (tested against real Go, not proved from fmt's source: count such statements apart). THE CARD IS WHAT COUNTS. Prove the row's statement (the work); the ties are given (YtjdnmejohadlbaaDoorTie.lean); close each card by the builder's one call (the guide's Derived/Test/ToyasCard.lean, 'card_holds'). Laid BY PROGRAM, IN A SANDBOX (cutbox-door.mjs). By AI agents, Wed Nov 11 2026. No macro, syntax, notation, axiom, sorry.
-/
import Derived.Test.YtjdnmejohadlbaaDoorRows
import GoSem.ClaimSeven
namespace Go.Proofs.YtjdnmejohadlbaaDoor
namespace Rows

/-- THE TIED CARD OF 'radomelaw10.PolarOf'. -/
def polarOfCard : Claim7 := { stood := { row := polarOfRow, standIns := [], harness := (true, "87c4636dbac3250d0ed791913e77f375c850c512f82024b968ccd54069ee7f60"), looks := true }, kinds := [], alts := [], laidByText := true, laidKinds := [.handle], laidTests := true, laidLooks := .later }
def PolarOfCardSaid : Prop := Claim7.holds Tryd.pinned (.plain (OpenSpec.ofChange polarOfSpec)) polarOfCard

/-- THE TIED CARD OF 'radomelaw05.TrigTurns'. -/
def trigTurnsCard : Claim7 := { stood := { row := trigTurnsRow, standIns := [], harness := (true, "87c4636dbac3250d0ed791913e77f375c850c512f82024b968ccd54069ee7f60"), looks := true }, kinds := [], alts := [], laidByText := true, laidKinds := [.handle], laidTests := true, laidLooks := .later }
def TrigTurnsCardSaid : Prop := Claim7.holds Tryd.pinned (.plain (OpenSpec.ofChange trigTurnsSpec)) trigTurnsCard

/-- THE TIED CARD OF 'radomelaw05.TrigPlaces'. -/
def trigPlacesCard : Claim7 := { stood := { row := trigPlacesRow, standIns := [], harness := (true, "87c4636dbac3250d0ed791913e77f375c850c512f82024b968ccd54069ee7f60"), looks := true }, kinds := [], alts := [], laidByText := true, laidKinds := [.handle], laidTests := true, laidLooks := .later }
def TrigPlacesCardSaid : Prop := Claim7.holds Tryd.pinned (.plain (OpenSpec.ofChange trigPlacesSpec)) trigPlacesCard

/-- THE TIED CARD OF 'radomelaw38.TrailRuns'. -/
def trailRunsCard : Claim7 := { stood := { row := trailRunsRow, standIns := [], harness := (true, "87c4636dbac3250d0ed791913e77f375c850c512f82024b968ccd54069ee7f60"), looks := true }, kinds := [], alts := [], laidByText := true, laidKinds := [.handle], laidTests := true, laidLooks := .later }
def TrailRunsCardSaid : Prop := Claim7.holds Tryd.pinned (.plain (OpenSpec.ofChange trailRunsSpec)) trailRunsCard

/-- THE TIED CARD OF 'radomelaw12.PredictBlank'. -/
def predictBlankCard : Claim7 := { stood := { row := predictBlankRow, standIns := [], harness := (true, "87c4636dbac3250d0ed791913e77f375c850c512f82024b968ccd54069ee7f60"), looks := true }, kinds := [], alts := [], laidByText := true, laidKinds := [.handle], laidTests := true, laidLooks := .later }
def PredictBlankCardSaid : Prop := Claim7.holds Tryd.pinned (.plain (OpenSpec.ofChange predictBlankSpec)) predictBlankCard

/-- THE TIED CARD OF 'radomelaw06.GrowSteps'. -/
def growStepsCard : Claim7 := { stood := { row := growStepsRow, standIns := [], harness := (true, "87c4636dbac3250d0ed791913e77f375c850c512f82024b968ccd54069ee7f60"), looks := true }, kinds := [], alts := [], laidByText := true, laidKinds := [.handle], laidTests := true, laidLooks := .later }
def GrowStepsCardSaid : Prop := Claim7.holds Tryd.pinned (.plain (OpenSpec.ofChange growStepsSpec)) growStepsCard

/-- THE TIED CARD OF 'radomelaw36.AlarmNear'. -/
def alarmNearCard : Claim7 := { stood := { row := alarmNearRow, standIns := [], harness := (true, "87c4636dbac3250d0ed791913e77f375c850c512f82024b968ccd54069ee7f60"), looks := true }, kinds := [], alts := [], laidByText := true, laidKinds := [.handle], laidTests := true, laidLooks := .later }
def AlarmNearCardSaid : Prop := Claim7.holds Tryd.pinned (.plain (OpenSpec.ofChange alarmNearSpec)) alarmNearCard

/-- THE TIED CARD OF 'radomelaw09.LdlRaw'. -/
def ldlRawCard : Claim7 := { stood := { row := ldlRawRow, standIns := [], harness := (true, "87c4636dbac3250d0ed791913e77f375c850c512f82024b968ccd54069ee7f60"), looks := true }, kinds := [], alts := [], laidByText := true, laidKinds := [.handle], laidTests := true, laidLooks := .later }
def LdlRawCardSaid : Prop := Claim7.holds Tryd.pinned (.plain (OpenSpec.ofChange ldlRawSpec)) ldlRawCard

/-- THE SECOND FORM's CARD OF 'radomelaw10.PolarOf'. -/
def polarOfUptoCard : Claim7 := { stood := { row := polarOfUptoRow, standIns := [], harness := (true, "87c4636dbac3250d0ed791913e77f375c850c512f82024b968ccd54069ee7f60"), looks := true }, kinds := [], alts := [], laidByText := true, laidKinds := [.handle], laidTests := true, laidLooks := .later }
def PolarOfUptoCardSaid : Prop := Claim7.holds Tryd.pinned (.plain (OpenSpec.upto polarOfSpec)) polarOfUptoCard

/-- THE SECOND FORM's CARD OF 'radomelaw05.TrigTurns'. -/
def trigTurnsUptoCard : Claim7 := { stood := { row := trigTurnsUptoRow, standIns := [], harness := (true, "87c4636dbac3250d0ed791913e77f375c850c512f82024b968ccd54069ee7f60"), looks := true }, kinds := [], alts := [], laidByText := true, laidKinds := [.handle], laidTests := true, laidLooks := .later }
def TrigTurnsUptoCardSaid : Prop := Claim7.holds Tryd.pinned (.plain (OpenSpec.upto trigTurnsSpec)) trigTurnsUptoCard

/-- THE SECOND FORM's CARD OF 'radomelaw05.TrigPlaces'. -/
def trigPlacesUptoCard : Claim7 := { stood := { row := trigPlacesUptoRow, standIns := [], harness := (true, "87c4636dbac3250d0ed791913e77f375c850c512f82024b968ccd54069ee7f60"), looks := true }, kinds := [], alts := [], laidByText := true, laidKinds := [.handle], laidTests := true, laidLooks := .later }
def TrigPlacesUptoCardSaid : Prop := Claim7.holds Tryd.pinned (.plain (OpenSpec.upto trigPlacesSpec)) trigPlacesUptoCard

/-- THE SECOND FORM's CARD OF 'radomelaw38.TrailRuns'. -/
def trailRunsUptoCard : Claim7 := { stood := { row := trailRunsUptoRow, standIns := [], harness := (true, "87c4636dbac3250d0ed791913e77f375c850c512f82024b968ccd54069ee7f60"), looks := true }, kinds := [], alts := [], laidByText := true, laidKinds := [.handle], laidTests := true, laidLooks := .later }
def TrailRunsUptoCardSaid : Prop := Claim7.holds Tryd.pinned (.plain (OpenSpec.upto trailRunsSpec)) trailRunsUptoCard

/-- THE SECOND FORM's CARD OF 'radomelaw12.PredictBlank'. -/
def predictBlankUptoCard : Claim7 := { stood := { row := predictBlankUptoRow, standIns := [], harness := (true, "87c4636dbac3250d0ed791913e77f375c850c512f82024b968ccd54069ee7f60"), looks := true }, kinds := [], alts := [], laidByText := true, laidKinds := [.handle], laidTests := true, laidLooks := .later }
def PredictBlankUptoCardSaid : Prop := Claim7.holds Tryd.pinned (.plain (OpenSpec.upto predictBlankSpec)) predictBlankUptoCard

/-- THE SECOND FORM's CARD OF 'radomelaw06.GrowSteps'. -/
def growStepsUptoCard : Claim7 := { stood := { row := growStepsUptoRow, standIns := [], harness := (true, "87c4636dbac3250d0ed791913e77f375c850c512f82024b968ccd54069ee7f60"), looks := true }, kinds := [], alts := [], laidByText := true, laidKinds := [.handle], laidTests := true, laidLooks := .later }
def GrowStepsUptoCardSaid : Prop := Claim7.holds Tryd.pinned (.plain (OpenSpec.upto growStepsSpec)) growStepsUptoCard

/-- THE SECOND FORM's CARD OF 'radomelaw36.AlarmNear'. -/
def alarmNearUptoCard : Claim7 := { stood := { row := alarmNearUptoRow, standIns := [], harness := (true, "87c4636dbac3250d0ed791913e77f375c850c512f82024b968ccd54069ee7f60"), looks := true }, kinds := [], alts := [], laidByText := true, laidKinds := [.handle], laidTests := true, laidLooks := .later }
def AlarmNearUptoCardSaid : Prop := Claim7.holds Tryd.pinned (.plain (OpenSpec.upto alarmNearSpec)) alarmNearUptoCard

/-- THE SECOND FORM's CARD OF 'radomelaw09.LdlRaw'. -/
def ldlRawUptoCard : Claim7 := { stood := { row := ldlRawUptoRow, standIns := [], harness := (true, "87c4636dbac3250d0ed791913e77f375c850c512f82024b968ccd54069ee7f60"), looks := true }, kinds := [], alts := [], laidByText := true, laidKinds := [.handle], laidTests := true, laidLooks := .later }
def LdlRawUptoCardSaid : Prop := Claim7.holds Tryd.pinned (.plain (OpenSpec.upto ldlRawSpec)) ldlRawUptoCard
end Rows
end Go.Proofs.YtjdnmejohadlbaaDoor
