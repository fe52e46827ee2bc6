/-
  DERIVED. GIVEN WITH THE SEED: THE CARDS: each row of YtlbnlalkimnhdaaDoorRows.lean that lists a variable, with what it lists TIED to the program's text (the seventh form; the later family's looks); each row that meets fmt, with fmt's text TOLD by the authors' own Lean function (tested against real Go, not proved from fmt's source: count such statements apart). THE CARD IS WHAT COUNTS. Prove the row's statement (the work); the ties are given (YtlbnlalkimnhdaaDoorTie.lean); close each card by the builder's one call (the guide's Derived/Test/ToyasCard.lean, 'card_holds'). Laid BY PROGRAM, IN A SANDBOX (cutbox-door.mjs). By AI agents, Wed Nov 11 2026. No macro, syntax, notation, axiom, sorry.
-/
import Derived.Test.YtlbnlalkimnhdaaDoorRows
import GoSem.ClaimSeven
namespace Go.Proofs.YtlbnlalkimnhdaaDoor
namespace Rows

/-- THE TIED CARD OF 'gnomonlaw23.SintableRows'. -/
def sintableRowsCard : Claim7 := { stood := { row := sintableRowsRow, standIns := [], harness := (true, "54a8f4c036e5eb9103bbe6f4114b8c2f86d2a0eebc72ca400679bde79f8c9347"), looks := false }, kinds := [], alts := [], laidByText := true, laidKinds := [.data, .data, .data, .data], laidTests := true, laidLooks := .later }
def SintableRowsCardSaid : Prop := Claim7.holds Tryd.pinned (.plain (OpenSpec.ofChange sintableRowsSpec)) sintableRowsCard

/-- THE TIED CARD OF 'gnomonlaw23.SintablePlaces'. -/
def sintablePlacesCard : Claim7 := { stood := { row := sintablePlacesRow, standIns := [], harness := (true, "54a8f4c036e5eb9103bbe6f4114b8c2f86d2a0eebc72ca400679bde79f8c9347"), looks := false }, kinds := [], alts := [], laidByText := true, laidKinds := [.data, .data, .data, .data], laidTests := true, laidLooks := .later }
def SintablePlacesCardSaid : Prop := Claim7.holds Tryd.pinned (.plain (OpenSpec.ofChange sintablePlacesSpec)) sintablePlacesCard

/-- THE TIED CARD OF 'gnomonlaw21.PayneWords'. -/
def payneWordsCard : Claim7 := { stood := { row := payneWordsRow, standIns := [], harness := (true, "54a8f4c036e5eb9103bbe6f4114b8c2f86d2a0eebc72ca400679bde79f8c9347"), looks := false }, kinds := [], alts := [], laidByText := true, laidKinds := [.data], laidTests := true, laidLooks := .later }
def PayneWordsCardSaid : Prop := Claim7.holds Tryd.pinned (.plain (OpenSpec.ofChange payneWordsSpec)) payneWordsCard

/-- THE TIED CARD OF 'gnomonlaw21.PayneWindows'. -/
def payneWindowsCard : Claim7 := { stood := { row := payneWindowsRow, standIns := [], harness := (true, "54a8f4c036e5eb9103bbe6f4114b8c2f86d2a0eebc72ca400679bde79f8c9347"), looks := false }, kinds := [], alts := [], laidByText := true, laidKinds := [.data], laidTests := true, laidLooks := .later }
def PayneWindowsCardSaid : Prop := Claim7.holds Tryd.pinned (.plain (OpenSpec.ofChange payneWindowsSpec)) payneWindowsCard

/-- THE TIED CARD OF 'gnomonlaw21.PayneTable'. -/
def payneTableCard : Claim7 := { stood := { row := payneTableRow, standIns := [], harness := (true, "54a8f4c036e5eb9103bbe6f4114b8c2f86d2a0eebc72ca400679bde79f8c9347"), looks := false }, kinds := [], alts := [], laidByText := true, laidKinds := [.data], laidTests := true, laidLooks := .later }
def PayneTableCardSaid : Prop := Claim7.holds Tryd.pinned (.plain (OpenSpec.ofChange payneTableSpec)) payneTableCard

/-- THE TIED CARD OF 'gnomonlaw21.PayneBits'. -/
def payneBitsCard : Claim7 := { stood := { row := payneBitsRow, standIns := [], harness := (true, "54a8f4c036e5eb9103bbe6f4114b8c2f86d2a0eebc72ca400679bde79f8c9347"), looks := false }, kinds := [], alts := [], laidByText := true, laidKinds := [.data], laidTests := true, laidLooks := .later }
def PayneBitsCardSaid : Prop := Claim7.holds Tryd.pinned (.plain (OpenSpec.ofChange payneBitsSpec)) payneBitsCard

/-- THE TIED CARD OF 'gnomonlaw21.PayneReduces'. -/
def payneReducesCard : Claim7 := { stood := { row := payneReducesRow, standIns := [], harness := (true, "54a8f4c036e5eb9103bbe6f4114b8c2f86d2a0eebc72ca400679bde79f8c9347"), looks := false }, kinds := [], alts := [], laidByText := true, laidKinds := [.data], laidTests := true, laidLooks := .later }
def PayneReducesCardSaid : Prop := Claim7.holds Tryd.pinned (.plain (OpenSpec.ofChange payneReducesSpec)) payneReducesCard

/-- THE TIED CARD OF 'gnomonlaw21.PayneFar'. -/
def payneFarCard : Claim7 := { stood := { row := payneFarRow, standIns := [], harness := (true, "54a8f4c036e5eb9103bbe6f4114b8c2f86d2a0eebc72ca400679bde79f8c9347"), looks := false }, kinds := [], alts := [], laidByText := true, laidKinds := [.data], laidTests := true, laidLooks := .later }
def PayneFarCardSaid : Prop := Claim7.holds Tryd.pinned (.plain (OpenSpec.ofChange payneFarSpec)) payneFarCard

/-- THE SECOND FORM's CARD OF 'gnomonlaw23.SintableRows'. -/
def sintableRowsUptoCard : Claim7 := { stood := { row := sintableRowsUptoRow, standIns := [], harness := (true, "54a8f4c036e5eb9103bbe6f4114b8c2f86d2a0eebc72ca400679bde79f8c9347"), looks := false }, kinds := [], alts := [], laidByText := true, laidKinds := [.data, .data, .data, .data], laidTests := true, laidLooks := .later }
def SintableRowsUptoCardSaid : Prop := Claim7.holds Tryd.pinned (.plain (OpenSpec.upto sintableRowsSpec)) sintableRowsUptoCard

/-- THE SECOND FORM's CARD OF 'gnomonlaw23.SintablePlaces'. -/
def sintablePlacesUptoCard : Claim7 := { stood := { row := sintablePlacesUptoRow, standIns := [], harness := (true, "54a8f4c036e5eb9103bbe6f4114b8c2f86d2a0eebc72ca400679bde79f8c9347"), looks := false }, kinds := [], alts := [], laidByText := true, laidKinds := [.data, .data, .data, .data], laidTests := true, laidLooks := .later }
def SintablePlacesUptoCardSaid : Prop := Claim7.holds Tryd.pinned (.plain (OpenSpec.upto sintablePlacesSpec)) sintablePlacesUptoCard

/-- THE SECOND FORM's CARD OF 'gnomonlaw21.PayneWords'. -/
def payneWordsUptoCard : Claim7 := { stood := { row := payneWordsUptoRow, standIns := [], harness := (true, "54a8f4c036e5eb9103bbe6f4114b8c2f86d2a0eebc72ca400679bde79f8c9347"), looks := false }, kinds := [], alts := [], laidByText := true, laidKinds := [.data], laidTests := true, laidLooks := .later }
def PayneWordsUptoCardSaid : Prop := Claim7.holds Tryd.pinned (.plain (OpenSpec.upto payneWordsSpec)) payneWordsUptoCard

/-- THE SECOND FORM's CARD OF 'gnomonlaw21.PayneWindows'. -/
def payneWindowsUptoCard : Claim7 := { stood := { row := payneWindowsUptoRow, standIns := [], harness := (true, "54a8f4c036e5eb9103bbe6f4114b8c2f86d2a0eebc72ca400679bde79f8c9347"), looks := false }, kinds := [], alts := [], laidByText := true, laidKinds := [.data], laidTests := true, laidLooks := .later }
def PayneWindowsUptoCardSaid : Prop := Claim7.holds Tryd.pinned (.plain (OpenSpec.upto payneWindowsSpec)) payneWindowsUptoCard

/-- THE SECOND FORM's CARD OF 'gnomonlaw21.PayneTable'. -/
def payneTableUptoCard : Claim7 := { stood := { row := payneTableUptoRow, standIns := [], harness := (true, "54a8f4c036e5eb9103bbe6f4114b8c2f86d2a0eebc72ca400679bde79f8c9347"), looks := false }, kinds := [], alts := [], laidByText := true, laidKinds := [.data], laidTests := true, laidLooks := .later }
def PayneTableUptoCardSaid : Prop := Claim7.holds Tryd.pinned (.plain (OpenSpec.upto payneTableSpec)) payneTableUptoCard

/-- THE SECOND FORM's CARD OF 'gnomonlaw21.PayneBits'. -/
def payneBitsUptoCard : Claim7 := { stood := { row := payneBitsUptoRow, standIns := [], harness := (true, "54a8f4c036e5eb9103bbe6f4114b8c2f86d2a0eebc72ca400679bde79f8c9347"), looks := false }, kinds := [], alts := [], laidByText := true, laidKinds := [.data], laidTests := true, laidLooks := .later }
def PayneBitsUptoCardSaid : Prop := Claim7.holds Tryd.pinned (.plain (OpenSpec.upto payneBitsSpec)) payneBitsUptoCard

/-- THE SECOND FORM's CARD OF 'gnomonlaw21.PayneReduces'. -/
def payneReducesUptoCard : Claim7 := { stood := { row := payneReducesUptoRow, standIns := [], harness := (true, "54a8f4c036e5eb9103bbe6f4114b8c2f86d2a0eebc72ca400679bde79f8c9347"), looks := false }, kinds := [], alts := [], laidByText := true, laidKinds := [.data], laidTests := true, laidLooks := .later }
def PayneReducesUptoCardSaid : Prop := Claim7.holds Tryd.pinned (.plain (OpenSpec.upto payneReducesSpec)) payneReducesUptoCard

/-- THE SECOND FORM's CARD OF 'gnomonlaw21.PayneFar'. -/
def payneFarUptoCard : Claim7 := { stood := { row := payneFarUptoRow, standIns := [], harness := (true, "54a8f4c036e5eb9103bbe6f4114b8c2f86d2a0eebc72ca400679bde79f8c9347"), looks := false }, kinds := [], alts := [], laidByText := true, laidKinds := [.data], laidTests := true, laidLooks := .later }
def PayneFarUptoCardSaid : Prop := Claim7.holds Tryd.pinned (.plain (OpenSpec.upto payneFarSpec)) payneFarUptoCard
end Rows
end Go.Proofs.YtlbnlalkimnhdaaDoor
