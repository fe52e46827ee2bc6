/-
  The statement PayneTable: the 20 words of 2/pi by number, the windows at whole words, the ends of the ranges; proved by the reckoner. No condition but the row's own ('laid', which the card ties).
-/
import Derived.Test.YtlbnlalkimnhdaaDoorExt
import Derived.Test.YtlbnlalkimnhdaaDoorLawKit
import Derived.Test.YtlbnlalkimnhdaaDoorTie
import Derived.Test.YtlbnlalkimnhdaaDoorCards
import Derived.WalkKit
import Derived.ProofKit
import Derived.OpenShut
import Derived.LaidMore
import Derived.Lib.LaidTab
import Derived.SevenTiedAt
namespace Go.Proofs.YtlbnlalkimnhdaaDoor.payneTable
open Go.ChangeShapes Go.WideShapes Go.ChangeAt Go.RowKit Sim
set_option linter.unusedVariables false
theorem own : ownKnob Tryd.prog.godebug = none := by kernel_rfl
def wordsT : List Int := [11743562013128004905, 18169587780923219392, 15808362127397457985, 18325537948574664033, 13196794004601950944, 452944820249399836, 18311050168422213438, 16754012890938950788, 16833452818741296705, 4148332274289687028, 11278244420634880059, 2303758334597371919, 17235013589178936607, 7869616827067468215, 5712322887342352941, 8441921394348257659, 4397547296490951402, 7780917995555872008, 6197850593633725355, 17352294737506481693]
def GT : List (Nat × List Value) := [(5, wordsT.map (Value.int .u64))]
theorem gW : Tryd.prog.globalNamed "gnomon/payne.words" = some 5 := by kernel_rfl
theorem tW : (Tryd.prog.globals[5]?).map (·.type) = some 77 := by kernel_rfl
theorem u77 : Tryd.prog.underlying 77 = some (.array 20 30) := by kernel_rfl
theorem u30 : Tryd.prog.underlying 30 = some (.int .u64) := by kernel_rfl
theorem c30 : Tryd.prog.cellsOf 30 = 1 := by kernel_rfl
theorem c77 : Tryd.prog.cellsOf 77 = 20 := by kernel_rfl
theorem gok {W : World} (h : laidMetH Tryd.prog Rows.payneTableRow.laid W) : GOk GT W.cell? := by
  rw [MakeChecks.laidMetH_plain _ _ _ (by kernel_rfl)] at h
  have hT := Lib.tabIs_of_head (k := .u64) (zs := wordsT) (rest := []) gW tW u77 u30 c30 c77 h
  intro g cs hm j u hu
  simp only [GT, List.mem_singleton, Prod.mk.injEq] at hm
  obtain ⟨rfl, rfl⟩ := hm
  have hj : j < wordsT.length := by have := (List.getElem?_eq_some_iff.1 hu).1; simpa using this
  have h1 := hT.cell gW j hj
  rw [List.getElem?_map, List.getElem?_eq_getElem hj] at hu
  simp only [Option.map_some, Option.some.injEq] at hu
  rw [← hu, h1]
  simp [List.getD, hj]
set_option maxRecDepth 100000 in
theorem pc : PC Tryd.prog GT 7 [] (· = .val (.bool true)) := reckon xok mixed 500 (by kernel_rfl)
theorem door_met (os : Os) (args : Array Value) : laidMetH Tryd.prog Rows.payneTableRow.laid ((World.doorLaid Tryd.prog 400 os).forCall (fun _ _ => 0) ⟨#[], args, []⟩).memory := by
  rw [MakeChecks.laidMetH_plain _ _ _ (by kernel_rfl)]
  exact laidMet_of_run' 8 (by kernel_rfl) (by kernel_rfl)
set_option maxRecDepth 100000 in
theorem lifted (os : Os) (started : os.Started) (H : Type) (enc : TypeId × Value → H) :
    ReturnsInHanded {} Tryd.checked os 7 .any (fun w args => (Rows.payneTableSpec.pre enc Tryd.prog Tryd.f7 [] false w args ∧ laidMetH Tryd.prog Rows.payneTableRow.laid w) ∧ sizedMet enc Tryd.prog Tryd.f7 (OpenSpec.ofChange Rows.payneTableSpec) false w args)
      (Rows.payneTableSpec.post enc Tryd.prog Tryd.f7 false true false false) := by
  refine returnsInHanded_of_change_and (C := Tryd.checked) (X := fun w _ => laidMetH Tryd.prog Rows.payneTableRow.laid w) (fun _ _ _ hh h => h.of_heap hh) own started (by kernel_rfl) Tryd.func7
    (ChangeSpec.witness_shaped (enc := enc) (C := Tryd.checked) (os := os) (X := fun w _ => laidMetH Tryd.prog Rows.payneTableRow.laid w) false (World.doorLaid Tryd.prog 400 os) #[] 8 rfl (World.shaped_of_RefB (by kernel_rfl) (by kernel_rfl)) (by kernel_rfl) (by kernel_rfl) (by kernel_rfl) (door_met os _)) ?_
  intro W base args ds gs before hval0 hW _ _ hL _
  have hval : ∀ (j : Nat) t v, Tryd.f7.params[j]? = some t → args[j]? = some v → Value.okWide Tryd.prog W .any base t v := hval0
  have hW' := hW
  obtain ⟨p, q, hA0, hV, rfl, hfz, hnd⟩ := hW
  have hA : DataW.TrodAll enc Tryd.prog W 0 (fun _ => true) true Tryd.f7.params.toList args.toList ds p := hA0
  rw [Tryd.params7] at hA hval
  obtain ⟨rfl, rfl, rfl⟩ := trodAll_none hA
  obtain ⟨rfl, rfl⟩ := trodVars_none hV
  clear hA0 hval0
  simp only [List.append_nil] at hW'
  refine (law_calls pc (gok hL) .nil).mono fun e W' ⟨he, hg⟩ => ?_
  subst he
  exact ⟨_, rfl, post_below (pa := []) (pv := []) hW' (fun _ _ _ => (trodAll_cons_mk (shut_bool Tryd.underlying4 _) trodAll_mk0)) (fun sp _ => rfl) (fun _ _ => rfl) rfl
    hg (ok_one (by kernel_rfl) rfl (okWide_bool_mk Tryd.underlying4 _))⟩
theorem over : Rows.PayneTableSaid :=
  OpenClaim.holds_of_wide 7 Tryd.f7 rfl rfl rfl rfl rfl rfl rfl ⟨rfl, rfl, rfl, rfl, rfl⟩ rfl rfl rfl rfl rfl (by kernel_rfl) Tryd.func7 (by kernel_rfl)
    (of_decide_eq_true (by kernel_rfl)) (by unfold Func.isWrapper; first | (rw [if_pos (by decide +kernel)]; kernel_rfl) | (rw [if_neg (by decide +kernel)]; exact ⟨rfl, rfl⟩))
    (fun os started H enc _ => lifted os started H enc)
theorem card_holds : Rows.PayneTableCardSaid :=
  Claim7.holds_tied_plain_at .later [] [.data] true (true, "54a8f4c036e5eb9103bbe6f4114b8c2f86d2a0eebc72ca400679bde79f8c9347") false
    over (fun _ h => by cases h) (by kernel_rfl) (fun _ h => by cases h) payneTable_row_tie rfl ⟨rfl, rfl⟩ (by kernel_rfl) rfl
    (fun f fn hf hfn => by
      obtain rfl : f = 7 := Option.some.inj ((show Tryd.prog.funcNamed "gnomon/gnomonlaw21.PayneTable" = some 7 by kernel_rfl).symm.trans hf) |>.symm
      obtain rfl : fn = Tryd.f7 := (Option.some.inj (Tryd.func7.symm.trans hfn)).symm
      exact ⟨by kernel_rfl, fun j t ht => by
        rw [Tryd.params7] at ht
        simp at ht⟩)
    (by kernel_rfl)
end Go.Proofs.YtlbnlalkimnhdaaDoor.payneTable
namespace Go.Proofs.YtlbnlalkimnhdaaDoor
theorem payneTable_card : Rows.PayneTableCardSaid := payneTable.card_holds
#print axioms payneTable_card
end Go.Proofs.YtlbnlalkimnhdaaDoor
