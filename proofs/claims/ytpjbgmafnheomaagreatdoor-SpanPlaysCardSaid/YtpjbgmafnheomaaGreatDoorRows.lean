/-
  NARROWER THAN 'FOR EVERY INPUT', by the rows' own cells (each row's printed sentence says how): SpanQuoBack: laid · SpanMirrors: laid · SpanMeets: laid · SpanTwos: laid · SpanHolds: laid · SpanGrows: laid · SpanSnug: laid · SpanPlays: laid · SpanOnes: laid · SpanMemory: laid.
  DERIVED. THE GIVEN ROWS OF THIS SEAT. 10 by the template 'for every input the law returns true; each argument reads behind the call as it read before'; 0 by the template 'total and deterministic' (their statements: YtpjbgmafnheomaaGreatDoorTotals.lean).
  GIVEN WITH THE SEED: the statements are not yours to turn. If you find one false, say at which input.
  Laid BY PROGRAM, IN A SANDBOX (cutbox-rows.mjs): the forced cells as the released guide's own fill.sh prints them over the translation a42f5bcac0d37862… (all of the seat's roots in one cut). By AI agents, Wed Nov 11 2026. No macro, syntax, notation, axiom, sorry.
-/
import Derived.Test.YtpjbgmafnheomaaGreatDoorChecked
import GoSem.Claim
import GoSem.ClaimJoined
import GoSem.ClaimMapViews
import Derived.JoinedTies
import Derived.KernelRfl
namespace Go.Proofs.YtpjbgmafnheomaaGreatDoor
/- THE CELL 'sum', in the pinned program and in every row, IS THE sha256 OF THE DUMP (.gsa) THAT YtpjbgmafnheomaaGreatDoorProg.lean LOADS. Nothing in Lean hashes anything: it is a label: what it is worth is what the hold of that sum in a sandbox is worth. -/
noncomputable def Tryz.pinned : Pinned := { name := "ytpjbgmafnheomaagreatdoor", sum := "a42f5bcac0d3786221a45fb50689c1be89ea490f06b518720599e7f371646cab", checked := Tryz.checked }
namespace Rows
def none {H : Type} : Left H := { results := [], args := [] }

/- WHAT THE LISTED PACKAGE-LEVEL VARIABLES READ AS WHEN THE CALL BEGINS. Each datum BY PROGRAM (the guide's laid-datum.mjs) off the statement by which the dump's own 'gosem.cut.vars' lays the variable. In a bare row this is a premise. The card (YtpjbgmafnheomaaGreatDoorCards.lean) ties it to the program's text. -/
def laid_math_bits_deBruijn64tab {H : Type} : DataW H := .agg [.lit (.int .u8 0), .lit (.int .u8 1), .lit (.int .u8 56), .lit (.int .u8 2), .lit (.int .u8 57), .lit (.int .u8 49), .lit (.int .u8 28), .lit (.int .u8 3), .lit (.int .u8 61), .lit (.int .u8 58), .lit (.int .u8 42), .lit (.int .u8 50), .lit (.int .u8 38), .lit (.int .u8 29), .lit (.int .u8 17), .lit (.int .u8 4), .lit (.int .u8 62), .lit (.int .u8 47), .lit (.int .u8 59), .lit (.int .u8 36), .lit (.int .u8 45), .lit (.int .u8 43), .lit (.int .u8 51), .lit (.int .u8 22), .lit (.int .u8 53), .lit (.int .u8 39), .lit (.int .u8 33), .lit (.int .u8 30), .lit (.int .u8 24), .lit (.int .u8 18), .lit (.int .u8 12), .lit (.int .u8 5), .lit (.int .u8 63), .lit (.int .u8 55), .lit (.int .u8 48), .lit (.int .u8 27), .lit (.int .u8 60), .lit (.int .u8 41), .lit (.int .u8 37), .lit (.int .u8 16), .lit (.int .u8 46), .lit (.int .u8 35), .lit (.int .u8 44), .lit (.int .u8 21), .lit (.int .u8 52), .lit (.int .u8 32), .lit (.int .u8 23), .lit (.int .u8 11), .lit (.int .u8 54), .lit (.int .u8 26), .lit (.int .u8 40), .lit (.int .u8 15), .lit (.int .u8 34), .lit (.int .u8 20), .lit (.int .u8 31), .lit (.int .u8 10), .lit (.int .u8 25), .lit (.int .u8 14), .lit (.int .u8 19), .lit (.int .u8 9), .lit (.int .u8 13), .lit (.int .u8 8), .lit (.int .u8 7), .lit (.int .u8 6)]

/-- 'gnomonlaw06.SpanQuoBack': WHATEVER THE INPUT: true; the input reads as it did. -/
def spanQuoBackSpec : ChangeSpec := { name := "spanQuoBack", fn := fun _ => fun
  | [d1, d2, d3] => { results := [.lit (.bool true)], args := [d1, d2, d3] }
  | _ => none }
def spanQuoBackRow : OpenClaim := { program := "ytpjbgmafnheomaagreatdoor", sum := "a42f5bcac0d3786221a45fb50689c1be89ea490f06b518720599e7f371646cab", func := "gnomon/gnomonlaw06.SpanQuoBack", spec := "spanQuoBack", inPlace := ["math/bits.Add64", "math/bits.Sub64"], unfollowed := true, recurses := true, named := ["math/bits.deBruijn64tab", "math/bits.divideError", "math/bits.overflowError"], apart := false, laid := [("math/bits.deBruijn64tab", laid_math_bits_deBruijn64tab)] }
def SpanQuoBackSaid : Prop := spanQuoBackRow.holds Tryz.pinned (OpenSpec.ofChange spanQuoBackSpec)

/-- ITS FALSE NEIGHBOUR: 'it returns false'. Refute it at one input. -/
def spanQuoBackWrong : ChangeSpec := { name := "spanQuoBack", fn := fun _ => fun
  | [d1, d2, d3] => { results := [.lit (.bool false)], args := [d1, d2, d3] }
  | _ => none }
def SpanQuoBackWrongFalsely : Prop := spanQuoBackRow.holds Tryz.pinned (OpenSpec.ofChange spanQuoBackWrong)

/-- 'gnomonlaw06.SpanMirrors': WHATEVER THE INPUT: true; the input reads as it did. -/
def spanMirrorsSpec : ChangeSpec := { name := "spanMirrors", fn := fun _ => fun
  | [d1, d2, d3] => { results := [.lit (.bool true)], args := [d1, d2, d3] }
  | _ => none }
def spanMirrorsRow : OpenClaim := { program := "ytpjbgmafnheomaagreatdoor", sum := "a42f5bcac0d3786221a45fb50689c1be89ea490f06b518720599e7f371646cab", func := "gnomon/gnomonlaw06.SpanMirrors", spec := "spanMirrors", inPlace := ["math/bits.Add64", "math/bits.Sub64"], unfollowed := true, recurses := true, named := ["math/bits.deBruijn64tab", "math/bits.divideError", "math/bits.overflowError"], apart := false, laid := [("math/bits.deBruijn64tab", laid_math_bits_deBruijn64tab)] }
def SpanMirrorsSaid : Prop := spanMirrorsRow.holds Tryz.pinned (OpenSpec.ofChange spanMirrorsSpec)

/-- ITS FALSE NEIGHBOUR: 'it returns false'. Refute it at one input. -/
def spanMirrorsWrong : ChangeSpec := { name := "spanMirrors", fn := fun _ => fun
  | [d1, d2, d3] => { results := [.lit (.bool false)], args := [d1, d2, d3] }
  | _ => none }
def SpanMirrorsWrongFalsely : Prop := spanMirrorsRow.holds Tryz.pinned (OpenSpec.ofChange spanMirrorsWrong)

/-- 'gnomonlaw06.SpanMeets': WHATEVER THE INPUT: true; the input reads as it did. -/
def spanMeetsSpec : ChangeSpec := { name := "spanMeets", fn := fun _ => fun
  | [d1, d2, d3] => { results := [.lit (.bool true)], args := [d1, d2, d3] }
  | _ => none }
def spanMeetsRow : OpenClaim := { program := "ytpjbgmafnheomaagreatdoor", sum := "a42f5bcac0d3786221a45fb50689c1be89ea490f06b518720599e7f371646cab", func := "gnomon/gnomonlaw06.SpanMeets", spec := "spanMeets", inPlace := ["math/bits.Add64", "math/bits.Sub64"], unfollowed := true, recurses := true, named := ["math/bits.deBruijn64tab", "math/bits.divideError", "math/bits.overflowError"], apart := false, laid := [("math/bits.deBruijn64tab", laid_math_bits_deBruijn64tab)] }
def SpanMeetsSaid : Prop := spanMeetsRow.holds Tryz.pinned (OpenSpec.ofChange spanMeetsSpec)

/-- ITS FALSE NEIGHBOUR: 'it returns false'. Refute it at one input. -/
def spanMeetsWrong : ChangeSpec := { name := "spanMeets", fn := fun _ => fun
  | [d1, d2, d3] => { results := [.lit (.bool false)], args := [d1, d2, d3] }
  | _ => none }
def SpanMeetsWrongFalsely : Prop := spanMeetsRow.holds Tryz.pinned (OpenSpec.ofChange spanMeetsWrong)

/-- 'gnomonlaw06.SpanTwos': WHATEVER THE INPUT: true; the input reads as it did. -/
def spanTwosSpec : ChangeSpec := { name := "spanTwos", fn := fun _ => fun
  | [d1, d2, d3] => { results := [.lit (.bool true)], args := [d1, d2, d3] }
  | _ => none }
def spanTwosRow : OpenClaim := { program := "ytpjbgmafnheomaagreatdoor", sum := "a42f5bcac0d3786221a45fb50689c1be89ea490f06b518720599e7f371646cab", func := "gnomon/gnomonlaw06.SpanTwos", spec := "spanTwos", inPlace := ["math/bits.Add64", "math/bits.Sub64"], unfollowed := true, recurses := true, named := ["math/bits.deBruijn64tab", "math/bits.divideError", "math/bits.overflowError"], apart := false, laid := [("math/bits.deBruijn64tab", laid_math_bits_deBruijn64tab)] }
def SpanTwosSaid : Prop := spanTwosRow.holds Tryz.pinned (OpenSpec.ofChange spanTwosSpec)

/-- ITS FALSE NEIGHBOUR: 'it returns false'. Refute it at one input. -/
def spanTwosWrong : ChangeSpec := { name := "spanTwos", fn := fun _ => fun
  | [d1, d2, d3] => { results := [.lit (.bool false)], args := [d1, d2, d3] }
  | _ => none }
def SpanTwosWrongFalsely : Prop := spanTwosRow.holds Tryz.pinned (OpenSpec.ofChange spanTwosWrong)

/-- 'gnomonlaw06.SpanHolds': WHATEVER THE INPUT: true; the input reads as it did. -/
def spanHoldsSpec : ChangeSpec := { name := "spanHolds", fn := fun _ => fun
  | [d1, d2, d3, d4, d5] => { results := [.lit (.bool true)], args := [d1, d2, d3, d4, d5] }
  | _ => none }
def spanHoldsRow : OpenClaim := { program := "ytpjbgmafnheomaagreatdoor", sum := "a42f5bcac0d3786221a45fb50689c1be89ea490f06b518720599e7f371646cab", func := "gnomon/gnomonlaw06.SpanHolds", spec := "spanHolds", inPlace := ["math/bits.Add64", "math/bits.Sub64"], unfollowed := true, recurses := true, named := ["math/bits.deBruijn64tab", "math/bits.divideError", "math/bits.overflowError"], apart := false, laid := [("math/bits.deBruijn64tab", laid_math_bits_deBruijn64tab)] }
def SpanHoldsSaid : Prop := spanHoldsRow.holds Tryz.pinned (OpenSpec.ofChange spanHoldsSpec)

/-- ITS FALSE NEIGHBOUR: 'it returns false'. Refute it at one input. -/
def spanHoldsWrong : ChangeSpec := { name := "spanHolds", fn := fun _ => fun
  | [d1, d2, d3, d4, d5] => { results := [.lit (.bool false)], args := [d1, d2, d3, d4, d5] }
  | _ => none }
def SpanHoldsWrongFalsely : Prop := spanHoldsRow.holds Tryz.pinned (OpenSpec.ofChange spanHoldsWrong)

/-- 'gnomonlaw06.SpanGrows': WHATEVER THE INPUT: true; the input reads as it did. -/
def spanGrowsSpec : ChangeSpec := { name := "spanGrows", fn := fun _ => fun
  | [d1, d2, d3, d4, d5] => { results := [.lit (.bool true)], args := [d1, d2, d3, d4, d5] }
  | _ => none }
def spanGrowsRow : OpenClaim := { program := "ytpjbgmafnheomaagreatdoor", sum := "a42f5bcac0d3786221a45fb50689c1be89ea490f06b518720599e7f371646cab", func := "gnomon/gnomonlaw06.SpanGrows", spec := "spanGrows", inPlace := ["math/bits.Add64", "math/bits.Sub64"], unfollowed := true, recurses := true, named := ["math/bits.deBruijn64tab", "math/bits.divideError", "math/bits.overflowError"], apart := false, laid := [("math/bits.deBruijn64tab", laid_math_bits_deBruijn64tab)] }
def SpanGrowsSaid : Prop := spanGrowsRow.holds Tryz.pinned (OpenSpec.ofChange spanGrowsSpec)

/-- ITS FALSE NEIGHBOUR: 'it returns false'. Refute it at one input. -/
def spanGrowsWrong : ChangeSpec := { name := "spanGrows", fn := fun _ => fun
  | [d1, d2, d3, d4, d5] => { results := [.lit (.bool false)], args := [d1, d2, d3, d4, d5] }
  | _ => none }
def SpanGrowsWrongFalsely : Prop := spanGrowsRow.holds Tryz.pinned (OpenSpec.ofChange spanGrowsWrong)

/-- 'gnomonlaw06.SpanSnug': WHATEVER THE INPUT: true; the input reads as it did. -/
def spanSnugSpec : ChangeSpec := { name := "spanSnug", fn := fun _ => fun
  | [d1, d2, d3] => { results := [.lit (.bool true)], args := [d1, d2, d3] }
  | _ => none }
def spanSnugRow : OpenClaim := { program := "ytpjbgmafnheomaagreatdoor", sum := "a42f5bcac0d3786221a45fb50689c1be89ea490f06b518720599e7f371646cab", func := "gnomon/gnomonlaw06.SpanSnug", spec := "spanSnug", inPlace := ["math/bits.Add64", "math/bits.Sub64"], unfollowed := true, recurses := true, named := ["math/bits.deBruijn64tab", "math/bits.divideError", "math/bits.overflowError"], apart := false, laid := [("math/bits.deBruijn64tab", laid_math_bits_deBruijn64tab)] }
def SpanSnugSaid : Prop := spanSnugRow.holds Tryz.pinned (OpenSpec.ofChange spanSnugSpec)

/-- ITS FALSE NEIGHBOUR: 'it returns false'. Refute it at one input. -/
def spanSnugWrong : ChangeSpec := { name := "spanSnug", fn := fun _ => fun
  | [d1, d2, d3] => { results := [.lit (.bool false)], args := [d1, d2, d3] }
  | _ => none }
def SpanSnugWrongFalsely : Prop := spanSnugRow.holds Tryz.pinned (OpenSpec.ofChange spanSnugWrong)

/-- 'gnomonlaw06.SpanPlays': WHATEVER THE INPUT: true; the input reads as it did. -/
def spanPlaysSpec : ChangeSpec := { name := "spanPlays", fn := fun _ => fun
  | [d] => { results := [.lit (.bool true)], args := [d] }
  | _ => none }
def spanPlaysRow : OpenClaim := { program := "ytpjbgmafnheomaagreatdoor", sum := "a42f5bcac0d3786221a45fb50689c1be89ea490f06b518720599e7f371646cab", func := "gnomon/gnomonlaw06.SpanPlays", spec := "spanPlays", inPlace := ["math/bits.Add64", "math/bits.Sub64"], unfollowed := true, recurses := true, named := ["math/bits.deBruijn64tab", "math/bits.divideError", "math/bits.overflowError"], apart := false, laid := [("math/bits.deBruijn64tab", laid_math_bits_deBruijn64tab)] }
def SpanPlaysSaid : Prop := spanPlaysRow.holds Tryz.pinned (OpenSpec.ofChange spanPlaysSpec)

/-- ITS FALSE NEIGHBOUR: 'it returns false'. Refute it at one input. -/
def spanPlaysWrong : ChangeSpec := { name := "spanPlays", fn := fun _ => fun
  | [d] => { results := [.lit (.bool false)], args := [d] }
  | _ => none }
def SpanPlaysWrongFalsely : Prop := spanPlaysRow.holds Tryz.pinned (OpenSpec.ofChange spanPlaysWrong)

/-- 'gnomonlaw06.SpanOnes': WHATEVER THE INPUT: true; the input reads as it did. -/
def spanOnesSpec : ChangeSpec := { name := "spanOnes", fn := fun _ => fun
  | [d1, d2, d3, d4] => { results := [.lit (.bool true)], args := [d1, d2, d3, d4] }
  | _ => none }
def spanOnesRow : OpenClaim := { program := "ytpjbgmafnheomaagreatdoor", sum := "a42f5bcac0d3786221a45fb50689c1be89ea490f06b518720599e7f371646cab", func := "gnomon/gnomonlaw06.SpanOnes", spec := "spanOnes", inPlace := ["math/bits.Add64", "math/bits.Sub64"], unfollowed := true, recurses := true, named := ["math/bits.deBruijn64tab", "math/bits.divideError", "math/bits.overflowError"], apart := false, laid := [("math/bits.deBruijn64tab", laid_math_bits_deBruijn64tab)] }
def SpanOnesSaid : Prop := spanOnesRow.holds Tryz.pinned (OpenSpec.ofChange spanOnesSpec)

/-- ITS FALSE NEIGHBOUR: 'it returns false'. Refute it at one input. -/
def spanOnesWrong : ChangeSpec := { name := "spanOnes", fn := fun _ => fun
  | [d1, d2, d3, d4] => { results := [.lit (.bool false)], args := [d1, d2, d3, d4] }
  | _ => none }
def SpanOnesWrongFalsely : Prop := spanOnesRow.holds Tryz.pinned (OpenSpec.ofChange spanOnesWrong)

/-- 'gnomonlaw06.SpanMemory': WHATEVER THE INPUT: true; the input reads as it did. -/
def spanMemorySpec : ChangeSpec := { name := "spanMemory", fn := fun _ => fun
  | [d1, d2, d3] => { results := [.lit (.bool true)], args := [d1, d2, d3] }
  | _ => none }
def spanMemoryRow : OpenClaim := { program := "ytpjbgmafnheomaagreatdoor", sum := "a42f5bcac0d3786221a45fb50689c1be89ea490f06b518720599e7f371646cab", func := "gnomon/gnomonlaw06.SpanMemory", spec := "spanMemory", inPlace := ["math/bits.Add64", "math/bits.Sub64"], unfollowed := true, recurses := true, named := ["math/bits.deBruijn64tab", "math/bits.divideError", "math/bits.overflowError"], apart := false, laid := [("math/bits.deBruijn64tab", laid_math_bits_deBruijn64tab)] }
def SpanMemorySaid : Prop := spanMemoryRow.holds Tryz.pinned (OpenSpec.ofChange spanMemorySpec)

/-- ITS FALSE NEIGHBOUR: 'it returns false'. Refute it at one input. -/
def spanMemoryWrong : ChangeSpec := { name := "spanMemory", fn := fun _ => fun
  | [d1, d2, d3] => { results := [.lit (.bool false)], args := [d1, d2, d3] }
  | _ => none }
def SpanMemoryWrongFalsely : Prop := spanMemoryRow.holds Tryz.pinned (OpenSpec.ofChange spanMemoryWrong)

/- THE SECOND FORM. 'bulk': how many values and letters a reading holds, each counted each time it is reached (what is shared counts as often as it is met; a slice's spare places count too). A statement '..UptoSaid' is the law's where the arguments, and the package variables that the reading takes, are together of bulk at most 1048576: NARROWER than '..Said'. Prove '..Said' where nothing that the law and all that it calls make is longer than what came in: it says more and counts as full. Else prove '..UptoSaid'. A law counts once. -/
mutual
def uptoBulk {H : Type} : DataW H → Nat
  | .lit (.string bytes) => bytes.length + 1
  | .lit _ => 1
  | .nil => 1
  | .ptr d => uptoBulk d + 1
  | .slice elems spare => uptoBulkAll elems + uptoBulkAll spare + 1
  | .agg parts => uptoBulkAll parts + 1
  | .iface _ d => uptoBulk d + 1
  | .map entries => uptoBulkEntries entries + 1
  | .held _ => 1
def uptoBulkAll {H : Type} : List (DataW H) → Nat
  | [] => 0
  | d :: r => uptoBulk d + uptoBulkAll r
def uptoBulkEntries {H : Type} : List (Lit × DataW H) → Nat
  | [] => 0
  | x :: r => uptoBulkEntry x + uptoBulkEntries r
def uptoBulkEntry {H : Type} : Lit × DataW H → Nat
  | (.string bytes, d) => bytes.length + uptoBulk d + 1
  | (_, d) => uptoBulk d + 1
 end
def uptoSmall : (H : Type) → List (DataW H) → Bool := fun _ ds => decide (uptoBulkAll ds ≤ 1048576)
def OpenSpec.upto (s : _root_.Go.ChangeSpec) : _root_.Go.OpenSpec := { _root_.Go.OpenSpec.ofChange s with cond := some uptoSmall }

/-- 'gnomonlaw06.SpanQuoBack', WHERE WHAT IT READS IS OF BULK AT MOST 1048576: true; the input reads as it did. -/
def spanQuoBackUptoRow : OpenClaim := { program := "ytpjbgmafnheomaagreatdoor", sum := "a42f5bcac0d3786221a45fb50689c1be89ea490f06b518720599e7f371646cab", func := "gnomon/gnomonlaw06.SpanQuoBack", spec := "spanQuoBack", inPlace := ["math/bits.Add64", "math/bits.Sub64"], unfollowed := true, recurses := true, named := ["math/bits.deBruijn64tab", "math/bits.divideError", "math/bits.overflowError"], apart := false, laid := [("math/bits.deBruijn64tab", laid_math_bits_deBruijn64tab)], narrowed := true }
def SpanQuoBackUptoSaid : Prop := spanQuoBackUptoRow.holds Tryz.pinned (OpenSpec.upto spanQuoBackSpec)

/-- 'gnomonlaw06.SpanMirrors', WHERE WHAT IT READS IS OF BULK AT MOST 1048576: true; the input reads as it did. -/
def spanMirrorsUptoRow : OpenClaim := { program := "ytpjbgmafnheomaagreatdoor", sum := "a42f5bcac0d3786221a45fb50689c1be89ea490f06b518720599e7f371646cab", func := "gnomon/gnomonlaw06.SpanMirrors", spec := "spanMirrors", inPlace := ["math/bits.Add64", "math/bits.Sub64"], unfollowed := true, recurses := true, named := ["math/bits.deBruijn64tab", "math/bits.divideError", "math/bits.overflowError"], apart := false, laid := [("math/bits.deBruijn64tab", laid_math_bits_deBruijn64tab)], narrowed := true }
def SpanMirrorsUptoSaid : Prop := spanMirrorsUptoRow.holds Tryz.pinned (OpenSpec.upto spanMirrorsSpec)

/-- 'gnomonlaw06.SpanMeets', WHERE WHAT IT READS IS OF BULK AT MOST 1048576: true; the input reads as it did. -/
def spanMeetsUptoRow : OpenClaim := { program := "ytpjbgmafnheomaagreatdoor", sum := "a42f5bcac0d3786221a45fb50689c1be89ea490f06b518720599e7f371646cab", func := "gnomon/gnomonlaw06.SpanMeets", spec := "spanMeets", inPlace := ["math/bits.Add64", "math/bits.Sub64"], unfollowed := true, recurses := true, named := ["math/bits.deBruijn64tab", "math/bits.divideError", "math/bits.overflowError"], apart := false, laid := [("math/bits.deBruijn64tab", laid_math_bits_deBruijn64tab)], narrowed := true }
def SpanMeetsUptoSaid : Prop := spanMeetsUptoRow.holds Tryz.pinned (OpenSpec.upto spanMeetsSpec)

/-- 'gnomonlaw06.SpanTwos', WHERE WHAT IT READS IS OF BULK AT MOST 1048576: true; the input reads as it did. -/
def spanTwosUptoRow : OpenClaim := { program := "ytpjbgmafnheomaagreatdoor", sum := "a42f5bcac0d3786221a45fb50689c1be89ea490f06b518720599e7f371646cab", func := "gnomon/gnomonlaw06.SpanTwos", spec := "spanTwos", inPlace := ["math/bits.Add64", "math/bits.Sub64"], unfollowed := true, recurses := true, named := ["math/bits.deBruijn64tab", "math/bits.divideError", "math/bits.overflowError"], apart := false, laid := [("math/bits.deBruijn64tab", laid_math_bits_deBruijn64tab)], narrowed := true }
def SpanTwosUptoSaid : Prop := spanTwosUptoRow.holds Tryz.pinned (OpenSpec.upto spanTwosSpec)

/-- 'gnomonlaw06.SpanHolds', WHERE WHAT IT READS IS OF BULK AT MOST 1048576: true; the input reads as it did. -/
def spanHoldsUptoRow : OpenClaim := { program := "ytpjbgmafnheomaagreatdoor", sum := "a42f5bcac0d3786221a45fb50689c1be89ea490f06b518720599e7f371646cab", func := "gnomon/gnomonlaw06.SpanHolds", spec := "spanHolds", inPlace := ["math/bits.Add64", "math/bits.Sub64"], unfollowed := true, recurses := true, named := ["math/bits.deBruijn64tab", "math/bits.divideError", "math/bits.overflowError"], apart := false, laid := [("math/bits.deBruijn64tab", laid_math_bits_deBruijn64tab)], narrowed := true }
def SpanHoldsUptoSaid : Prop := spanHoldsUptoRow.holds Tryz.pinned (OpenSpec.upto spanHoldsSpec)

/-- 'gnomonlaw06.SpanGrows', WHERE WHAT IT READS IS OF BULK AT MOST 1048576: true; the input reads as it did. -/
def spanGrowsUptoRow : OpenClaim := { program := "ytpjbgmafnheomaagreatdoor", sum := "a42f5bcac0d3786221a45fb50689c1be89ea490f06b518720599e7f371646cab", func := "gnomon/gnomonlaw06.SpanGrows", spec := "spanGrows", inPlace := ["math/bits.Add64", "math/bits.Sub64"], unfollowed := true, recurses := true, named := ["math/bits.deBruijn64tab", "math/bits.divideError", "math/bits.overflowError"], apart := false, laid := [("math/bits.deBruijn64tab", laid_math_bits_deBruijn64tab)], narrowed := true }
def SpanGrowsUptoSaid : Prop := spanGrowsUptoRow.holds Tryz.pinned (OpenSpec.upto spanGrowsSpec)

/-- 'gnomonlaw06.SpanSnug', WHERE WHAT IT READS IS OF BULK AT MOST 1048576: true; the input reads as it did. -/
def spanSnugUptoRow : OpenClaim := { program := "ytpjbgmafnheomaagreatdoor", sum := "a42f5bcac0d3786221a45fb50689c1be89ea490f06b518720599e7f371646cab", func := "gnomon/gnomonlaw06.SpanSnug", spec := "spanSnug", inPlace := ["math/bits.Add64", "math/bits.Sub64"], unfollowed := true, recurses := true, named := ["math/bits.deBruijn64tab", "math/bits.divideError", "math/bits.overflowError"], apart := false, laid := [("math/bits.deBruijn64tab", laid_math_bits_deBruijn64tab)], narrowed := true }
def SpanSnugUptoSaid : Prop := spanSnugUptoRow.holds Tryz.pinned (OpenSpec.upto spanSnugSpec)

/-- 'gnomonlaw06.SpanPlays', WHERE WHAT IT READS IS OF BULK AT MOST 1048576: true; the input reads as it did. -/
def spanPlaysUptoRow : OpenClaim := { program := "ytpjbgmafnheomaagreatdoor", sum := "a42f5bcac0d3786221a45fb50689c1be89ea490f06b518720599e7f371646cab", func := "gnomon/gnomonlaw06.SpanPlays", spec := "spanPlays", inPlace := ["math/bits.Add64", "math/bits.Sub64"], unfollowed := true, recurses := true, named := ["math/bits.deBruijn64tab", "math/bits.divideError", "math/bits.overflowError"], apart := false, laid := [("math/bits.deBruijn64tab", laid_math_bits_deBruijn64tab)], narrowed := true }
def SpanPlaysUptoSaid : Prop := spanPlaysUptoRow.holds Tryz.pinned (OpenSpec.upto spanPlaysSpec)

/-- 'gnomonlaw06.SpanOnes', WHERE WHAT IT READS IS OF BULK AT MOST 1048576: true; the input reads as it did. -/
def spanOnesUptoRow : OpenClaim := { program := "ytpjbgmafnheomaagreatdoor", sum := "a42f5bcac0d3786221a45fb50689c1be89ea490f06b518720599e7f371646cab", func := "gnomon/gnomonlaw06.SpanOnes", spec := "spanOnes", inPlace := ["math/bits.Add64", "math/bits.Sub64"], unfollowed := true, recurses := true, named := ["math/bits.deBruijn64tab", "math/bits.divideError", "math/bits.overflowError"], apart := false, laid := [("math/bits.deBruijn64tab", laid_math_bits_deBruijn64tab)], narrowed := true }
def SpanOnesUptoSaid : Prop := spanOnesUptoRow.holds Tryz.pinned (OpenSpec.upto spanOnesSpec)

/-- 'gnomonlaw06.SpanMemory', WHERE WHAT IT READS IS OF BULK AT MOST 1048576: true; the input reads as it did. -/
def spanMemoryUptoRow : OpenClaim := { program := "ytpjbgmafnheomaagreatdoor", sum := "a42f5bcac0d3786221a45fb50689c1be89ea490f06b518720599e7f371646cab", func := "gnomon/gnomonlaw06.SpanMemory", spec := "spanMemory", inPlace := ["math/bits.Add64", "math/bits.Sub64"], unfollowed := true, recurses := true, named := ["math/bits.deBruijn64tab", "math/bits.divideError", "math/bits.overflowError"], apart := false, laid := [("math/bits.deBruijn64tab", laid_math_bits_deBruijn64tab)], narrowed := true }
def SpanMemoryUptoSaid : Prop := spanMemoryUptoRow.holds Tryz.pinned (OpenSpec.upto spanMemorySpec)

end Rows
end Go.Proofs.YtpjbgmafnheomaaGreatDoor
