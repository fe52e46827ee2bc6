/-
  DERIVED. GIVEN WITH THE SEED: THE CARDS: each row of YtpjbgmafnheomaaGreatDoorRows.lean that lists a variable, with what it lists TIED to the program's text (the seventh form; the later family's looks); each row that meets fmt, with fmt's text TOLD by the authors' own Lean function (tested against real Go, not proved from fmt's source: count such statements apart). THE CARD IS WHAT COUNTS. Prove the row's statement (the work); the ties are given (YtpjbgmafnheomaaGreatDoorTie.lean); close each card by the builder's one call (the guide's Derived/Test/ToyasCard.lean, 'card_holds'). Laid BY PROGRAM, IN A SANDBOX (cutbox-door.mjs). By AI agents, Wed Nov 11 2026. No macro, syntax, notation, axiom, sorry.
-/
import Derived.Test.YtpjbgmafnheomaaGreatDoorRows
import GoSem.ClaimSeven
namespace Go.Proofs.YtpjbgmafnheomaaGreatDoor
namespace Rows

/-- THE TIED CARD OF 'gnomonlaw06.SpanQuoBack'. -/
def spanQuoBackCard : Claim7 := { stood := { row := spanQuoBackRow, standIns := [], harness := (true, "f237147ecf4b9bef50a32ca1ece0ac28f4f196749aada2f2dd554cbfe48d8ba2"), looks := false }, kinds := [], alts := [], laidByText := true, laidKinds := [.data], laidTests := true, laidLooks := .later }
def SpanQuoBackCardSaid : Prop := Claim7.holds Tryz.pinned (.plain (OpenSpec.ofChange spanQuoBackSpec)) spanQuoBackCard

/-- THE TIED CARD OF 'gnomonlaw06.SpanMirrors'. -/
def spanMirrorsCard : Claim7 := { stood := { row := spanMirrorsRow, standIns := [], harness := (true, "f237147ecf4b9bef50a32ca1ece0ac28f4f196749aada2f2dd554cbfe48d8ba2"), looks := false }, kinds := [], alts := [], laidByText := true, laidKinds := [.data], laidTests := true, laidLooks := .later }
def SpanMirrorsCardSaid : Prop := Claim7.holds Tryz.pinned (.plain (OpenSpec.ofChange spanMirrorsSpec)) spanMirrorsCard

/-- THE TIED CARD OF 'gnomonlaw06.SpanMeets'. -/
def spanMeetsCard : Claim7 := { stood := { row := spanMeetsRow, standIns := [], harness := (true, "f237147ecf4b9bef50a32ca1ece0ac28f4f196749aada2f2dd554cbfe48d8ba2"), looks := false }, kinds := [], alts := [], laidByText := true, laidKinds := [.data], laidTests := true, laidLooks := .later }
def SpanMeetsCardSaid : Prop := Claim7.holds Tryz.pinned (.plain (OpenSpec.ofChange spanMeetsSpec)) spanMeetsCard

/-- THE TIED CARD OF 'gnomonlaw06.SpanTwos'. -/
def spanTwosCard : Claim7 := { stood := { row := spanTwosRow, standIns := [], harness := (true, "f237147ecf4b9bef50a32ca1ece0ac28f4f196749aada2f2dd554cbfe48d8ba2"), looks := false }, kinds := [], alts := [], laidByText := true, laidKinds := [.data], laidTests := true, laidLooks := .later }
def SpanTwosCardSaid : Prop := Claim7.holds Tryz.pinned (.plain (OpenSpec.ofChange spanTwosSpec)) spanTwosCard

/-- THE TIED CARD OF 'gnomonlaw06.SpanHolds'. -/
def spanHoldsCard : Claim7 := { stood := { row := spanHoldsRow, standIns := [], harness := (true, "f237147ecf4b9bef50a32ca1ece0ac28f4f196749aada2f2dd554cbfe48d8ba2"), looks := false }, kinds := [], alts := [], laidByText := true, laidKinds := [.data], laidTests := true, laidLooks := .later }
def SpanHoldsCardSaid : Prop := Claim7.holds Tryz.pinned (.plain (OpenSpec.ofChange spanHoldsSpec)) spanHoldsCard

/-- THE TIED CARD OF 'gnomonlaw06.SpanGrows'. -/
def spanGrowsCard : Claim7 := { stood := { row := spanGrowsRow, standIns := [], harness := (true, "f237147ecf4b9bef50a32ca1ece0ac28f4f196749aada2f2dd554cbfe48d8ba2"), looks := false }, kinds := [], alts := [], laidByText := true, laidKinds := [.data], laidTests := true, laidLooks := .later }
def SpanGrowsCardSaid : Prop := Claim7.holds Tryz.pinned (.plain (OpenSpec.ofChange spanGrowsSpec)) spanGrowsCard

/-- THE TIED CARD OF 'gnomonlaw06.SpanSnug'. -/
def spanSnugCard : Claim7 := { stood := { row := spanSnugRow, standIns := [], harness := (true, "f237147ecf4b9bef50a32ca1ece0ac28f4f196749aada2f2dd554cbfe48d8ba2"), looks := false }, kinds := [], alts := [], laidByText := true, laidKinds := [.data], laidTests := true, laidLooks := .later }
def SpanSnugCardSaid : Prop := Claim7.holds Tryz.pinned (.plain (OpenSpec.ofChange spanSnugSpec)) spanSnugCard

/-- THE TIED CARD OF 'gnomonlaw06.SpanPlays'. -/
def spanPlaysCard : Claim7 := { stood := { row := spanPlaysRow, standIns := [], harness := (true, "f237147ecf4b9bef50a32ca1ece0ac28f4f196749aada2f2dd554cbfe48d8ba2"), looks := false }, kinds := [], alts := [], laidByText := true, laidKinds := [.data], laidTests := true, laidLooks := .later }
def SpanPlaysCardSaid : Prop := Claim7.holds Tryz.pinned (.plain (OpenSpec.ofChange spanPlaysSpec)) spanPlaysCard

/-- THE TIED CARD OF 'gnomonlaw06.SpanOnes'. -/
def spanOnesCard : Claim7 := { stood := { row := spanOnesRow, standIns := [], harness := (true, "f237147ecf4b9bef50a32ca1ece0ac28f4f196749aada2f2dd554cbfe48d8ba2"), looks := false }, kinds := [], alts := [], laidByText := true, laidKinds := [.data], laidTests := true, laidLooks := .later }
def SpanOnesCardSaid : Prop := Claim7.holds Tryz.pinned (.plain (OpenSpec.ofChange spanOnesSpec)) spanOnesCard

/-- THE TIED CARD OF 'gnomonlaw06.SpanMemory'. -/
def spanMemoryCard : Claim7 := { stood := { row := spanMemoryRow, standIns := [], harness := (true, "f237147ecf4b9bef50a32ca1ece0ac28f4f196749aada2f2dd554cbfe48d8ba2"), looks := false }, kinds := [], alts := [], laidByText := true, laidKinds := [.data], laidTests := true, laidLooks := .later }
def SpanMemoryCardSaid : Prop := Claim7.holds Tryz.pinned (.plain (OpenSpec.ofChange spanMemorySpec)) spanMemoryCard

/-- THE SECOND FORM's CARD OF 'gnomonlaw06.SpanQuoBack'. -/
def spanQuoBackUptoCard : Claim7 := { stood := { row := spanQuoBackUptoRow, standIns := [], harness := (true, "f237147ecf4b9bef50a32ca1ece0ac28f4f196749aada2f2dd554cbfe48d8ba2"), looks := false }, kinds := [], alts := [], laidByText := true, laidKinds := [.data], laidTests := true, laidLooks := .later }
def SpanQuoBackUptoCardSaid : Prop := Claim7.holds Tryz.pinned (.plain (OpenSpec.upto spanQuoBackSpec)) spanQuoBackUptoCard

/-- THE SECOND FORM's CARD OF 'gnomonlaw06.SpanMirrors'. -/
def spanMirrorsUptoCard : Claim7 := { stood := { row := spanMirrorsUptoRow, standIns := [], harness := (true, "f237147ecf4b9bef50a32ca1ece0ac28f4f196749aada2f2dd554cbfe48d8ba2"), looks := false }, kinds := [], alts := [], laidByText := true, laidKinds := [.data], laidTests := true, laidLooks := .later }
def SpanMirrorsUptoCardSaid : Prop := Claim7.holds Tryz.pinned (.plain (OpenSpec.upto spanMirrorsSpec)) spanMirrorsUptoCard

/-- THE SECOND FORM's CARD OF 'gnomonlaw06.SpanMeets'. -/
def spanMeetsUptoCard : Claim7 := { stood := { row := spanMeetsUptoRow, standIns := [], harness := (true, "f237147ecf4b9bef50a32ca1ece0ac28f4f196749aada2f2dd554cbfe48d8ba2"), looks := false }, kinds := [], alts := [], laidByText := true, laidKinds := [.data], laidTests := true, laidLooks := .later }
def SpanMeetsUptoCardSaid : Prop := Claim7.holds Tryz.pinned (.plain (OpenSpec.upto spanMeetsSpec)) spanMeetsUptoCard

/-- THE SECOND FORM's CARD OF 'gnomonlaw06.SpanTwos'. -/
def spanTwosUptoCard : Claim7 := { stood := { row := spanTwosUptoRow, standIns := [], harness := (true, "f237147ecf4b9bef50a32ca1ece0ac28f4f196749aada2f2dd554cbfe48d8ba2"), looks := false }, kinds := [], alts := [], laidByText := true, laidKinds := [.data], laidTests := true, laidLooks := .later }
def SpanTwosUptoCardSaid : Prop := Claim7.holds Tryz.pinned (.plain (OpenSpec.upto spanTwosSpec)) spanTwosUptoCard

/-- THE SECOND FORM's CARD OF 'gnomonlaw06.SpanHolds'. -/
def spanHoldsUptoCard : Claim7 := { stood := { row := spanHoldsUptoRow, standIns := [], harness := (true, "f237147ecf4b9bef50a32ca1ece0ac28f4f196749aada2f2dd554cbfe48d8ba2"), looks := false }, kinds := [], alts := [], laidByText := true, laidKinds := [.data], laidTests := true, laidLooks := .later }
def SpanHoldsUptoCardSaid : Prop := Claim7.holds Tryz.pinned (.plain (OpenSpec.upto spanHoldsSpec)) spanHoldsUptoCard

/-- THE SECOND FORM's CARD OF 'gnomonlaw06.SpanGrows'. -/
def spanGrowsUptoCard : Claim7 := { stood := { row := spanGrowsUptoRow, standIns := [], harness := (true, "f237147ecf4b9bef50a32ca1ece0ac28f4f196749aada2f2dd554cbfe48d8ba2"), looks := false }, kinds := [], alts := [], laidByText := true, laidKinds := [.data], laidTests := true, laidLooks := .later }
def SpanGrowsUptoCardSaid : Prop := Claim7.holds Tryz.pinned (.plain (OpenSpec.upto spanGrowsSpec)) spanGrowsUptoCard

/-- THE SECOND FORM's CARD OF 'gnomonlaw06.SpanSnug'. -/
def spanSnugUptoCard : Claim7 := { stood := { row := spanSnugUptoRow, standIns := [], harness := (true, "f237147ecf4b9bef50a32ca1ece0ac28f4f196749aada2f2dd554cbfe48d8ba2"), looks := false }, kinds := [], alts := [], laidByText := true, laidKinds := [.data], laidTests := true, laidLooks := .later }
def SpanSnugUptoCardSaid : Prop := Claim7.holds Tryz.pinned (.plain (OpenSpec.upto spanSnugSpec)) spanSnugUptoCard

/-- THE SECOND FORM's CARD OF 'gnomonlaw06.SpanPlays'. -/
def spanPlaysUptoCard : Claim7 := { stood := { row := spanPlaysUptoRow, standIns := [], harness := (true, "f237147ecf4b9bef50a32ca1ece0ac28f4f196749aada2f2dd554cbfe48d8ba2"), looks := false }, kinds := [], alts := [], laidByText := true, laidKinds := [.data], laidTests := true, laidLooks := .later }
def SpanPlaysUptoCardSaid : Prop := Claim7.holds Tryz.pinned (.plain (OpenSpec.upto spanPlaysSpec)) spanPlaysUptoCard

/-- THE SECOND FORM's CARD OF 'gnomonlaw06.SpanOnes'. -/
def spanOnesUptoCard : Claim7 := { stood := { row := spanOnesUptoRow, standIns := [], harness := (true, "f237147ecf4b9bef50a32ca1ece0ac28f4f196749aada2f2dd554cbfe48d8ba2"), looks := false }, kinds := [], alts := [], laidByText := true, laidKinds := [.data], laidTests := true, laidLooks := .later }
def SpanOnesUptoCardSaid : Prop := Claim7.holds Tryz.pinned (.plain (OpenSpec.upto spanOnesSpec)) spanOnesUptoCard

/-- THE SECOND FORM's CARD OF 'gnomonlaw06.SpanMemory'. -/
def spanMemoryUptoCard : Claim7 := { stood := { row := spanMemoryUptoRow, standIns := [], harness := (true, "f237147ecf4b9bef50a32ca1ece0ac28f4f196749aada2f2dd554cbfe48d8ba2"), looks := false }, kinds := [], alts := [], laidByText := true, laidKinds := [.data], laidTests := true, laidLooks := .later }
def SpanMemoryUptoCardSaid : Prop := Claim7.holds Tryz.pinned (.plain (OpenSpec.upto spanMemorySpec)) spanMemoryUptoCard
end Rows
end Go.Proofs.YtpjbgmafnheomaaGreatDoor
