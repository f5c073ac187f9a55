/-
  DERIVED. GIVEN WITH THE SEED: THE CARDS: each row of YtimdnnlfkkkpbaaDoorRows.lean that lists a variable, with what it lists TIED to the program's text (the seventh form; the later family's looks); each row that meets fmt, with fmt's text TOLD by the authors' own Lean function (tested against real Go, not proved from fmt's source: count such statements apart). THE CARD IS WHAT COUNTS. Prove the row's statement (the work); the ties are given (YtimdnnlfkkkpbaaDoorTie.lean); close each card by the builder's one call (the guide's Derived/Test/ToyasCard.lean, 'card_holds'). Laid BY PROGRAM, IN A SANDBOX (cutbox-door.mjs). By AI agents, Wed Nov 11 2026. No macro, syntax, notation, axiom, sorry.
-/
import Derived.Test.YtimdnnlfkkkpbaaDoorRows
import GoSem.ClaimSeven
namespace Go.Proofs.YtimdnnlfkkkpbaaDoor
namespace Rows

/-- THE TIED CARD OF 'radomelaw07.VecJoins'. -/
def vecJoinsCard : Claim7 := { stood := { row := vecJoinsRow, standIns := [], harness := (true, "e1c983c3a0f11455d4f8d2a9a7371000a2503ca2a731157aaf3a1131072ae027"), looks := true }, kinds := [], alts := [], laidByText := true, laidKinds := [.handle], laidTests := true, laidLooks := .later }
def VecJoinsCardSaid : Prop := Claim7.holds Tryd.pinned (.plain (OpenSpec.ofChange vecJoinsSpec)) vecJoinsCard

/-- THE TIED CARD OF 'radomelaw07.VecSums'. -/
def vecSumsCard : Claim7 := { stood := { row := vecSumsRow, standIns := [], harness := (true, "e1c983c3a0f11455d4f8d2a9a7371000a2503ca2a731157aaf3a1131072ae027"), looks := true }, kinds := [], alts := [], laidByText := true, laidKinds := [.handle], laidTests := true, laidLooks := .later }
def VecSumsCardSaid : Prop := Claim7.holds Tryd.pinned (.plain (OpenSpec.ofChange vecSumsSpec)) vecSumsCard

/-- THE TIED CARD OF 'radomelaw08.MatParts'. -/
def matPartsCard : Claim7 := { stood := { row := matPartsRow, standIns := [], harness := (true, "e1c983c3a0f11455d4f8d2a9a7371000a2503ca2a731157aaf3a1131072ae027"), looks := true }, kinds := [], alts := [], laidByText := true, laidKinds := [.handle], laidTests := true, laidLooks := .later }
def MatPartsCardSaid : Prop := Claim7.holds Tryd.pinned (.plain (OpenSpec.ofChange matPartsSpec)) matPartsCard

/-- THE TIED CARD OF 'radomelaw08.MatSums'. -/
def matSumsCard : Claim7 := { stood := { row := matSumsRow, standIns := [], harness := (true, "e1c983c3a0f11455d4f8d2a9a7371000a2503ca2a731157aaf3a1131072ae027"), looks := true }, kinds := [], alts := [], laidByText := true, laidKinds := [.handle], laidTests := true, laidLooks := .later }
def MatSumsCardSaid : Prop := Claim7.holds Tryd.pinned (.plain (OpenSpec.ofChange matSumsSpec)) matSumsCard

/-- THE TIED CARD OF 'radomelaw08.MatRaw'. -/
def matRawCard : Claim7 := { stood := { row := matRawRow, standIns := [], harness := (true, "e1c983c3a0f11455d4f8d2a9a7371000a2503ca2a731157aaf3a1131072ae027"), looks := true }, kinds := [], alts := [], laidByText := true, laidKinds := [.handle], laidTests := true, laidLooks := .later }
def MatRawCardSaid : Prop := Claim7.holds Tryd.pinned (.plain (OpenSpec.ofChange matRawSpec)) matRawCard

/-- THE TIED CARD OF 'radomelaw03.QnumDots'. -/
def qnumDotsCard : Claim7 := { stood := { row := qnumDotsRow, standIns := [], harness := (true, "e1c983c3a0f11455d4f8d2a9a7371000a2503ca2a731157aaf3a1131072ae027"), looks := true }, kinds := [], alts := [], laidByText := true, laidKinds := [.handle], laidTests := true, laidLooks := .later }
def QnumDotsCardSaid : Prop := Claim7.holds Tryd.pinned (.plain (OpenSpec.ofChange qnumDotsSpec)) qnumDotsCard

/-- THE SECOND FORM's CARD OF 'radomelaw07.VecJoins'. -/
def vecJoinsUptoCard : Claim7 := { stood := { row := vecJoinsUptoRow, standIns := [], harness := (true, "e1c983c3a0f11455d4f8d2a9a7371000a2503ca2a731157aaf3a1131072ae027"), looks := true }, kinds := [], alts := [], laidByText := true, laidKinds := [.handle], laidTests := true, laidLooks := .later }
def VecJoinsUptoCardSaid : Prop := Claim7.holds Tryd.pinned (.plain (OpenSpec.upto vecJoinsSpec)) vecJoinsUptoCard

/-- THE SECOND FORM's CARD OF 'radomelaw07.VecSums'. -/
def vecSumsUptoCard : Claim7 := { stood := { row := vecSumsUptoRow, standIns := [], harness := (true, "e1c983c3a0f11455d4f8d2a9a7371000a2503ca2a731157aaf3a1131072ae027"), looks := true }, kinds := [], alts := [], laidByText := true, laidKinds := [.handle], laidTests := true, laidLooks := .later }
def VecSumsUptoCardSaid : Prop := Claim7.holds Tryd.pinned (.plain (OpenSpec.upto vecSumsSpec)) vecSumsUptoCard

/-- THE SECOND FORM's CARD OF 'radomelaw08.MatParts'. -/
def matPartsUptoCard : Claim7 := { stood := { row := matPartsUptoRow, standIns := [], harness := (true, "e1c983c3a0f11455d4f8d2a9a7371000a2503ca2a731157aaf3a1131072ae027"), looks := true }, kinds := [], alts := [], laidByText := true, laidKinds := [.handle], laidTests := true, laidLooks := .later }
def MatPartsUptoCardSaid : Prop := Claim7.holds Tryd.pinned (.plain (OpenSpec.upto matPartsSpec)) matPartsUptoCard

/-- THE SECOND FORM's CARD OF 'radomelaw08.MatSums'. -/
def matSumsUptoCard : Claim7 := { stood := { row := matSumsUptoRow, standIns := [], harness := (true, "e1c983c3a0f11455d4f8d2a9a7371000a2503ca2a731157aaf3a1131072ae027"), looks := true }, kinds := [], alts := [], laidByText := true, laidKinds := [.handle], laidTests := true, laidLooks := .later }
def MatSumsUptoCardSaid : Prop := Claim7.holds Tryd.pinned (.plain (OpenSpec.upto matSumsSpec)) matSumsUptoCard

/-- THE SECOND FORM's CARD OF 'radomelaw08.MatRaw'. -/
def matRawUptoCard : Claim7 := { stood := { row := matRawUptoRow, standIns := [], harness := (true, "e1c983c3a0f11455d4f8d2a9a7371000a2503ca2a731157aaf3a1131072ae027"), looks := true }, kinds := [], alts := [], laidByText := true, laidKinds := [.handle], laidTests := true, laidLooks := .later }
def MatRawUptoCardSaid : Prop := Claim7.holds Tryd.pinned (.plain (OpenSpec.upto matRawSpec)) matRawUptoCard

/-- THE SECOND FORM's CARD OF 'radomelaw03.QnumDots'. -/
def qnumDotsUptoCard : Claim7 := { stood := { row := qnumDotsUptoRow, standIns := [], harness := (true, "e1c983c3a0f11455d4f8d2a9a7371000a2503ca2a731157aaf3a1131072ae027"), looks := true }, kinds := [], alts := [], laidByText := true, laidKinds := [.handle], laidTests := true, laidLooks := .later }
def QnumDotsUptoCardSaid : Prop := Claim7.holds Tryd.pinned (.plain (OpenSpec.upto qnumDotsSpec)) qnumDotsUptoCard
end Rows
end Go.Proofs.YtimdnnlfkkkpbaaDoor
