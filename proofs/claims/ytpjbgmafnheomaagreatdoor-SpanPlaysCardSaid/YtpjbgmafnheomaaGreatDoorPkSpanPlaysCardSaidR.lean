/-
  Lemmas of SpanPlaysCardSaid, part 18.
-/
import Derived.Test.YtpjbgmafnheomaaGreatDoorPkSpanPlaysCardSaidQ
import Derived.LaidMore
import Derived.Lib.LaidTab
namespace Go.Proofs.YtpjbgmafnheomaaGreatDoor.Sim
open Go.RowKit Go.ChangeShapes Go.WideShapes
set_option linter.unusedVariables false
set_option linter.unusedSimpArgs false
theorem fDy : fieldT Tryz.prog 26 = some (3, [(24, 0, 2), (3, 2, 1)]) := by kernel_rfl
theorem fIn : fieldT Tryz.prog 24 = some (2, [(4, 0, 1), (22, 1, 1)]) := by kernel_rfl
theorem uBo : Tryz.prog.underlying 4 = some .bool := by kernel_rfl
theorem uIt : Tryz.prog.underlying 3 = some (.int .i64) := by kernel_rfl
theorem uWs : Tryz.prog.underlying 22 = some (.slice 82) := by kernel_rfl
theorem uU6 : Tryz.prog.underlying 82 = some (.int .u64) := by kernel_rfl
theorem cU6 : Tryz.prog.cellsOf 82 = 1 := by kernel_rfl
section
variable {H : Type} {enc : TypeId × Value → H} {w : World} {base : Nat} {sp : Nat → Bool} {held : Bool}
theorem okD_wf {l : List Int} (h : ∀ z ∈ l, (Lit.int .u64 z).wf = true) : okD 18446744073709551616 l := fun z hz => wf_u64 (h z hz)
end
theorem gB : Tryz.prog.globalNamed "math/bits.deBruijn64tab" = some 0 := by kernel_rfl
theorem tB : (Tryz.prog.globals[0]?).map (·.type) = some 193 := by kernel_rfl
theorem uB : Tryz.prog.underlying 193 = some (.array 64 5) := by kernel_rfl
theorem uB8 : Tryz.prog.underlying 5 = some (.int .u8) := by kernel_rfl
theorem cB8 : Tryz.prog.cellsOf 5 = 1 := by kernel_rfl
theorem cB : Tryz.prog.cellsOf 193 = 64 := by kernel_rfl
def GD : List (Nat × List Value) := [(0, debT.map (Value.int .u8))]
theorem hGD : (0, debT.map (Value.int .u8)) ∈ GD := List.mem_singleton.2 rfl
end Go.Proofs.YtpjbgmafnheomaaGreatDoor.Sim
