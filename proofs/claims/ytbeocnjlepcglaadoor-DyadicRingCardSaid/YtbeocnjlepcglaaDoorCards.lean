/-
  DERIVED. GIVEN WITH THE SEED: THE CARDS: each row of YtbeocnjlepcglaaDoorRows.lean that lists a variable, with what it lists TIED to the program's text (the seventh form; the later family's looks); each row that meets fmt, with fmt's text TOLD by the authors' own Lean function (tested against real Go, not proved from fmt's source: count such statements apart). THE CARD IS WHAT COUNTS. Prove the row's statement (the work); the ties are given (YtbeocnjlepcglaaDoorTie.lean); close each card by the builder's one call (the guide's Derived/Test/ToyasCard.lean, 'card_holds'). Laid BY PROGRAM, IN A SANDBOX (cutbox-door.mjs). By AI agents, Wed Nov 11 2026. No macro, syntax, notation, axiom, sorry.
-/
import Derived.Test.YtbeocnjlepcglaaDoorRows
import GoSem.ClaimSeven
namespace Go.Proofs.YtbeocnjlepcglaaDoor
namespace Rows

/-- THE TIED CARD OF 'gnomonlaw05.DyadicGrid'. -/
def dyadicGridCard : Claim7 := { stood := { row := dyadicGridRow, standIns := [], harness := (true, "666534056e67973fcc7e6ca9a2567f67f5864a7d5c1131cb97cdd252f051aebd"), looks := false }, kinds := [], alts := [], laidByText := true, laidKinds := [.data], laidTests := true, laidLooks := .later }
def DyadicGridCardSaid : Prop := Claim7.holds Tryd.pinned (.plain (OpenSpec.ofChange dyadicGridSpec)) dyadicGridCard

/-- THE TIED CARD OF 'gnomonlaw05.DyadicNeighbours'. -/
def dyadicNeighboursCard : Claim7 := { stood := { row := dyadicNeighboursRow, standIns := [], harness := (true, "666534056e67973fcc7e6ca9a2567f67f5864a7d5c1131cb97cdd252f051aebd"), looks := false }, kinds := [], alts := [], laidByText := true, laidKinds := [.data], laidTests := true, laidLooks := .later }
def DyadicNeighboursCardSaid : Prop := Claim7.holds Tryd.pinned (.plain (OpenSpec.ofChange dyadicNeighboursSpec)) dyadicNeighboursCard

/-- THE TIED CARD OF 'gnomonlaw05.DyadicRing'. -/
def dyadicRingCard : Claim7 := { stood := { row := dyadicRingRow, standIns := [], harness := (true, "666534056e67973fcc7e6ca9a2567f67f5864a7d5c1131cb97cdd252f051aebd"), looks := false }, kinds := [], alts := [], laidByText := true, laidKinds := [.data], laidTests := true, laidLooks := .later }
def DyadicRingCardSaid : Prop := Claim7.holds Tryd.pinned (.plain (OpenSpec.ofChange dyadicRingSpec)) dyadicRingCard

/-- THE SECOND FORM's CARD OF 'gnomonlaw05.DyadicGrid'. -/
def dyadicGridUptoCard : Claim7 := { stood := { row := dyadicGridUptoRow, standIns := [], harness := (true, "666534056e67973fcc7e6ca9a2567f67f5864a7d5c1131cb97cdd252f051aebd"), looks := false }, kinds := [], alts := [], laidByText := true, laidKinds := [.data], laidTests := true, laidLooks := .later }
def DyadicGridUptoCardSaid : Prop := Claim7.holds Tryd.pinned (.plain (OpenSpec.upto dyadicGridSpec)) dyadicGridUptoCard

/-- THE SECOND FORM's CARD OF 'gnomonlaw05.DyadicNeighbours'. -/
def dyadicNeighboursUptoCard : Claim7 := { stood := { row := dyadicNeighboursUptoRow, standIns := [], harness := (true, "666534056e67973fcc7e6ca9a2567f67f5864a7d5c1131cb97cdd252f051aebd"), looks := false }, kinds := [], alts := [], laidByText := true, laidKinds := [.data], laidTests := true, laidLooks := .later }
def DyadicNeighboursUptoCardSaid : Prop := Claim7.holds Tryd.pinned (.plain (OpenSpec.upto dyadicNeighboursSpec)) dyadicNeighboursUptoCard

/-- THE SECOND FORM's CARD OF 'gnomonlaw05.DyadicRing'. -/
def dyadicRingUptoCard : Claim7 := { stood := { row := dyadicRingUptoRow, standIns := [], harness := (true, "666534056e67973fcc7e6ca9a2567f67f5864a7d5c1131cb97cdd252f051aebd"), looks := false }, kinds := [], alts := [], laidByText := true, laidKinds := [.data], laidTests := true, laidLooks := .later }
def DyadicRingUptoCardSaid : Prop := Claim7.holds Tryd.pinned (.plain (OpenSpec.upto dyadicRingSpec)) dyadicRingUptoCard
end Rows
end Go.Proofs.YtbeocnjlepcglaaDoor
