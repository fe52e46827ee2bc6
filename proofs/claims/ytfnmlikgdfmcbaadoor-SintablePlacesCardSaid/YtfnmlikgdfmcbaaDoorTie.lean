/-
  DERIVED. GIVEN WITH THE SEED: THE PROGRAM's TIES (one call each: nine closed facts by the kernel) AND EACH ROW's TIE, after the 31st guide's Derived/Test/Toyas{Tie, Card}.lean. No idea stands in it: it is a product of the set-up. Laid BY PROGRAM, IN A SANDBOX (cutbox-door.mjs). By AI agents, Wed Nov 11 2026. No macro, syntax, notation, axiom, sorry.
-/
import Derived.Test.YtfnmlikgdfmcbaaDoorRows
import Derived.LaidByTextLater
import Derived.SevenTiedAt
import Derived.LaidSub
import Derived.LaidOnce
namespace Go.Proofs.YtfnmlikgdfmcbaaDoor
open Go
set_option maxRecDepth 100000
theorem seatTie1 : Tryd.prog.laidByTextLater [("gnomon/sintable.sineHi", Rows.laid_gnomon_sintable_sineHi), ("gnomon/sintable.sineLo", Rows.laid_gnomon_sintable_sineLo), ("gnomon/sintable.cosineHi", Rows.laid_gnomon_sintable_cosineHi), ("gnomon/sintable.cosineLo", Rows.laid_gnomon_sintable_cosineLo)] [.data, .data, .data, .data] true :=
  Program.laidByTextLater_by_one 29 8 54 (by kernel_rfl) (by kernel_rfl) (by kernel_rfl) (by kernel_rfl) (by kernel_rfl) (by kernel_rfl) (fun _ _ => by kernel_rfl)
theorem noOwnUnsafe : Tryd.pinned.checked.prog.headLifts.contains "ownunsafe" = false := by kernel_rfl
theorem tie : Tryd.prog.laidByTextLater [("gnomon/sintable.sineHi", Rows.laid_gnomon_sintable_sineHi), ("gnomon/sintable.sineLo", Rows.laid_gnomon_sintable_sineLo), ("gnomon/sintable.cosineHi", Rows.laid_gnomon_sintable_cosineHi), ("gnomon/sintable.cosineLo", Rows.laid_gnomon_sintable_cosineLo)] [.data, .data, .data, .data] true :=
  Program.laidByTextLater.sub seatTie1 ["gnomon/sintable.sineHi", "gnomon/sintable.sineLo", "gnomon/sintable.cosineHi", "gnomon/sintable.cosineLo"] (by kernel_rfl) (by kernel_rfl)
theorem sintableRows_row_tie : Rows.sintableRowsRow.laidByTextAt .later Tryd.pinned [.data, .data, .data, .data] true :=
  OpenClaim.laidByTextAt_later rfl rfl tie noOwnUnsafe
theorem sintablePlaces_row_tie : Rows.sintablePlacesRow.laidByTextAt .later Tryd.pinned [.data, .data, .data, .data] true :=
  OpenClaim.laidByTextAt_later rfl rfl tie noOwnUnsafe
theorem sintableRowsUpto_row_tie : Rows.sintableRowsUptoRow.laidByTextAt .later Tryd.pinned [.data, .data, .data, .data] true :=
  OpenClaim.laidByTextAt_later rfl rfl tie noOwnUnsafe
theorem sintablePlacesUpto_row_tie : Rows.sintablePlacesUptoRow.laidByTextAt .later Tryd.pinned [.data, .data, .data, .data] true :=
  OpenClaim.laidByTextAt_later rfl rfl tie noOwnUnsafe
end Go.Proofs.YtfnmlikgdfmcbaaDoor
