/-
  DERIVED. GIVEN WITH THE SEED: THE CARDS: each row of YtbeocnjlepcglaaGreatDoorRows.lean that lists a variable, with what it lists TIED to the program's text (the seventh form; the later family's looks); each row that meets fmt, with fmt's text TOLD by the authors' own Lean function (tested against real Go, not proved from fmt's source: count such statements apart). THE CARD IS WHAT COUNTS. Prove the row's statement (the work); the ties are given (YtbeocnjlepcglaaGreatDoorTie.lean); close each card by the builder's one call (the guide's Derived/Test/ToyasCard.lean, 'card_holds'). Laid BY PROGRAM, IN A SANDBOX (cutbox-door.mjs). By AI agents, Wed Nov 11 2026. No macro, syntax, notation, axiom, sorry.
-/
import Derived.Test.YtbeocnjlepcglaaGreatDoorRows
import GoSem.ClaimSeven
namespace Go.Proofs.YtbeocnjlepcglaaGreatDoor
namespace Rows

/-- THE TIED CARD OF 'gnomonlaw05.DyadicQuoted'. -/
def dyadicQuotedCard : Claim7 := { stood := { row := dyadicQuotedRow, standIns := [], harness := (true, "5877848ad262be2893dc088bdebc09c3bac47e27b0f06f0bbdb8dafe6ebbf2f3"), looks := false }, kinds := [], alts := [], laidByText := true, laidKinds := [.data], laidTests := true, laidLooks := .later }
def DyadicQuotedCardSaid : Prop := Claim7.holds Tryz.pinned (.plain (OpenSpec.ofChange dyadicQuotedSpec)) dyadicQuotedCard

/-- THE TIED CARD OF 'gnomonlaw05.DyadicForms'. -/
def dyadicFormsCard : Claim7 := { stood := { row := dyadicFormsRow, standIns := [], harness := (true, "5877848ad262be2893dc088bdebc09c3bac47e27b0f06f0bbdb8dafe6ebbf2f3"), looks := false }, kinds := [], alts := [], laidByText := true, laidKinds := [.data], laidTests := true, laidLooks := .later }
def DyadicFormsCardSaid : Prop := Claim7.holds Tryz.pinned (.plain (OpenSpec.ofChange dyadicFormsSpec)) dyadicFormsCard

/-- THE TIED CARD OF 'gnomonlaw05.DyadicSums'. -/
def dyadicSumsCard : Claim7 := { stood := { row := dyadicSumsRow, standIns := [], harness := (true, "5877848ad262be2893dc088bdebc09c3bac47e27b0f06f0bbdb8dafe6ebbf2f3"), looks := false }, kinds := [], alts := [], laidByText := true, laidKinds := [.data], laidTests := true, laidLooks := .later }
def DyadicSumsCardSaid : Prop := Claim7.holds Tryz.pinned (.plain (OpenSpec.ofChange dyadicSumsSpec)) dyadicSumsCard

/-- THE TIED CARD OF 'gnomonlaw05.DyadicMuls'. -/
def dyadicMulsCard : Claim7 := { stood := { row := dyadicMulsRow, standIns := [], harness := (true, "5877848ad262be2893dc088bdebc09c3bac47e27b0f06f0bbdb8dafe6ebbf2f3"), looks := false }, kinds := [], alts := [], laidByText := true, laidKinds := [.data], laidTests := true, laidLooks := .later }
def DyadicMulsCardSaid : Prop := Claim7.holds Tryz.pinned (.plain (OpenSpec.ofChange dyadicMulsSpec)) dyadicMulsCard

/-- THE TIED CARD OF 'gnomonlaw05.DyadicCuts'. -/
def dyadicCutsCard : Claim7 := { stood := { row := dyadicCutsRow, standIns := [], harness := (true, "5877848ad262be2893dc088bdebc09c3bac47e27b0f06f0bbdb8dafe6ebbf2f3"), looks := false }, kinds := [], alts := [], laidByText := true, laidKinds := [.data], laidTests := true, laidLooks := .later }
def DyadicCutsCardSaid : Prop := Claim7.holds Tryz.pinned (.plain (OpenSpec.ofChange dyadicCutsSpec)) dyadicCutsCard

/-- THE TIED CARD OF 'gnomonlaw05.DyadicQuos'. -/
def dyadicQuosCard : Claim7 := { stood := { row := dyadicQuosRow, standIns := [], harness := (true, "5877848ad262be2893dc088bdebc09c3bac47e27b0f06f0bbdb8dafe6ebbf2f3"), looks := false }, kinds := [], alts := [], laidByText := true, laidKinds := [.data], laidTests := true, laidLooks := .later }
def DyadicQuosCardSaid : Prop := Claim7.holds Tryz.pinned (.plain (OpenSpec.ofChange dyadicQuosSpec)) dyadicQuosCard

/-- THE TIED CARD OF 'gnomonlaw05.DyadicKeeps'. -/
def dyadicKeepsCard : Claim7 := { stood := { row := dyadicKeepsRow, standIns := [], harness := (true, "5877848ad262be2893dc088bdebc09c3bac47e27b0f06f0bbdb8dafe6ebbf2f3"), looks := false }, kinds := [], alts := [], laidByText := true, laidKinds := [.data], laidTests := true, laidLooks := .later }
def DyadicKeepsCardSaid : Prop := Claim7.holds Tryz.pinned (.plain (OpenSpec.ofChange dyadicKeepsSpec)) dyadicKeepsCard

/-- THE SECOND FORM's CARD OF 'gnomonlaw05.DyadicQuoted'. -/
def dyadicQuotedUptoCard : Claim7 := { stood := { row := dyadicQuotedUptoRow, standIns := [], harness := (true, "5877848ad262be2893dc088bdebc09c3bac47e27b0f06f0bbdb8dafe6ebbf2f3"), looks := false }, kinds := [], alts := [], laidByText := true, laidKinds := [.data], laidTests := true, laidLooks := .later }
def DyadicQuotedUptoCardSaid : Prop := Claim7.holds Tryz.pinned (.plain (OpenSpec.upto dyadicQuotedSpec)) dyadicQuotedUptoCard

/-- THE SECOND FORM's CARD OF 'gnomonlaw05.DyadicForms'. -/
def dyadicFormsUptoCard : Claim7 := { stood := { row := dyadicFormsUptoRow, standIns := [], harness := (true, "5877848ad262be2893dc088bdebc09c3bac47e27b0f06f0bbdb8dafe6ebbf2f3"), looks := false }, kinds := [], alts := [], laidByText := true, laidKinds := [.data], laidTests := true, laidLooks := .later }
def DyadicFormsUptoCardSaid : Prop := Claim7.holds Tryz.pinned (.plain (OpenSpec.upto dyadicFormsSpec)) dyadicFormsUptoCard

/-- THE SECOND FORM's CARD OF 'gnomonlaw05.DyadicSums'. -/
def dyadicSumsUptoCard : Claim7 := { stood := { row := dyadicSumsUptoRow, standIns := [], harness := (true, "5877848ad262be2893dc088bdebc09c3bac47e27b0f06f0bbdb8dafe6ebbf2f3"), looks := false }, kinds := [], alts := [], laidByText := true, laidKinds := [.data], laidTests := true, laidLooks := .later }
def DyadicSumsUptoCardSaid : Prop := Claim7.holds Tryz.pinned (.plain (OpenSpec.upto dyadicSumsSpec)) dyadicSumsUptoCard

/-- THE SECOND FORM's CARD OF 'gnomonlaw05.DyadicMuls'. -/
def dyadicMulsUptoCard : Claim7 := { stood := { row := dyadicMulsUptoRow, standIns := [], harness := (true, "5877848ad262be2893dc088bdebc09c3bac47e27b0f06f0bbdb8dafe6ebbf2f3"), looks := false }, kinds := [], alts := [], laidByText := true, laidKinds := [.data], laidTests := true, laidLooks := .later }
def DyadicMulsUptoCardSaid : Prop := Claim7.holds Tryz.pinned (.plain (OpenSpec.upto dyadicMulsSpec)) dyadicMulsUptoCard

/-- THE SECOND FORM's CARD OF 'gnomonlaw05.DyadicCuts'. -/
def dyadicCutsUptoCard : Claim7 := { stood := { row := dyadicCutsUptoRow, standIns := [], harness := (true, "5877848ad262be2893dc088bdebc09c3bac47e27b0f06f0bbdb8dafe6ebbf2f3"), looks := false }, kinds := [], alts := [], laidByText := true, laidKinds := [.data], laidTests := true, laidLooks := .later }
def DyadicCutsUptoCardSaid : Prop := Claim7.holds Tryz.pinned (.plain (OpenSpec.upto dyadicCutsSpec)) dyadicCutsUptoCard

/-- THE SECOND FORM's CARD OF 'gnomonlaw05.DyadicQuos'. -/
def dyadicQuosUptoCard : Claim7 := { stood := { row := dyadicQuosUptoRow, standIns := [], harness := (true, "5877848ad262be2893dc088bdebc09c3bac47e27b0f06f0bbdb8dafe6ebbf2f3"), looks := false }, kinds := [], alts := [], laidByText := true, laidKinds := [.data], laidTests := true, laidLooks := .later }
def DyadicQuosUptoCardSaid : Prop := Claim7.holds Tryz.pinned (.plain (OpenSpec.upto dyadicQuosSpec)) dyadicQuosUptoCard

/-- THE SECOND FORM's CARD OF 'gnomonlaw05.DyadicKeeps'. -/
def dyadicKeepsUptoCard : Claim7 := { stood := { row := dyadicKeepsUptoRow, standIns := [], harness := (true, "5877848ad262be2893dc088bdebc09c3bac47e27b0f06f0bbdb8dafe6ebbf2f3"), looks := false }, kinds := [], alts := [], laidByText := true, laidKinds := [.data], laidTests := true, laidLooks := .later }
def DyadicKeepsUptoCardSaid : Prop := Claim7.holds Tryz.pinned (.plain (OpenSpec.upto dyadicKeepsSpec)) dyadicKeepsUptoCard
end Rows
end Go.Proofs.YtbeocnjlepcglaaGreatDoor
