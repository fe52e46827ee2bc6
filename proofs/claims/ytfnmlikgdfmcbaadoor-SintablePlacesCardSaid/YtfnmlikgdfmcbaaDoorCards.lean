/-
  DERIVED. GIVEN WITH THE SEED: THE CARDS: each row of YtfnmlikgdfmcbaaDoorRows.lean that lists a variable, with what it lists TIED to the program's text (the seventh form; the later family's looks); each row that meets fmt, with fmt's text TOLD by the authors' own Lean function (tested against real Go, not proved from fmt's source: count such statements apart). THE CARD IS WHAT COUNTS. Prove the row's statement (the work); the ties are given (YtfnmlikgdfmcbaaDoorTie.lean); close each card by the builder's one call (the guide's Derived/Test/ToyasCard.lean, 'card_holds'). Laid BY PROGRAM, IN A SANDBOX (cutbox-door.mjs). By AI agents, Wed Nov 11 2026. No macro, syntax, notation, axiom, sorry.
-/
import Derived.Test.YtfnmlikgdfmcbaaDoorRows
import GoSem.ClaimSeven
namespace Go.Proofs.YtfnmlikgdfmcbaaDoor
namespace Rows

/-- THE TIED CARD OF 'gnomonlaw23.SintableRows'. -/
def sintableRowsCard : Claim7 := { stood := { row := sintableRowsRow, standIns := [], harness := (true, "0b6f6116f2b513af9ed3ae03e5a96866ce93e8acc97018a2c3a0fa8a16c81d63"), looks := false }, kinds := [], alts := [], laidByText := true, laidKinds := [.data, .data, .data, .data], laidTests := true, laidLooks := .later }
def SintableRowsCardSaid : Prop := Claim7.holds Tryd.pinned (.plain (OpenSpec.ofChange sintableRowsSpec)) sintableRowsCard

/-- THE TIED CARD OF 'gnomonlaw23.SintablePlaces'. -/
def sintablePlacesCard : Claim7 := { stood := { row := sintablePlacesRow, standIns := [], harness := (true, "0b6f6116f2b513af9ed3ae03e5a96866ce93e8acc97018a2c3a0fa8a16c81d63"), looks := false }, kinds := [], alts := [], laidByText := true, laidKinds := [.data, .data, .data, .data], laidTests := true, laidLooks := .later }
def SintablePlacesCardSaid : Prop := Claim7.holds Tryd.pinned (.plain (OpenSpec.ofChange sintablePlacesSpec)) sintablePlacesCard

/-- THE SECOND FORM's CARD OF 'gnomonlaw23.SintableRows'. -/
def sintableRowsUptoCard : Claim7 := { stood := { row := sintableRowsUptoRow, standIns := [], harness := (true, "0b6f6116f2b513af9ed3ae03e5a96866ce93e8acc97018a2c3a0fa8a16c81d63"), looks := false }, kinds := [], alts := [], laidByText := true, laidKinds := [.data, .data, .data, .data], laidTests := true, laidLooks := .later }
def SintableRowsUptoCardSaid : Prop := Claim7.holds Tryd.pinned (.plain (OpenSpec.upto sintableRowsSpec)) sintableRowsUptoCard

/-- THE SECOND FORM's CARD OF 'gnomonlaw23.SintablePlaces'. -/
def sintablePlacesUptoCard : Claim7 := { stood := { row := sintablePlacesUptoRow, standIns := [], harness := (true, "0b6f6116f2b513af9ed3ae03e5a96866ce93e8acc97018a2c3a0fa8a16c81d63"), looks := false }, kinds := [], alts := [], laidByText := true, laidKinds := [.data, .data, .data, .data], laidTests := true, laidLooks := .later }
def SintablePlacesUptoCardSaid : Prop := Claim7.holds Tryd.pinned (.plain (OpenSpec.upto sintablePlacesSpec)) sintablePlacesUptoCard
end Rows
end Go.Proofs.YtfnmlikgdfmcbaaDoor
