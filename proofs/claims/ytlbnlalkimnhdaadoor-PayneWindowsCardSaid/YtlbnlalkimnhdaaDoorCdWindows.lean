/-
  The statement PayneWindows: every window told is the document's; proved by a walk and a reckoning of 2/pi. No condition but the row's own ('laid', which the card ties).
-/
import Derived.Test.YtlbnlalkimnhdaaDoorPayB
import Derived.Test.YtlbnlalkimnhdaaDoorLawKit
import Derived.Test.YtlbnlalkimnhdaaDoorTie
import Derived.Test.YtlbnlalkimnhdaaDoorCards
import Derived.WalkKit
import Derived.ProofKit
import Derived.OpenShut
import Derived.LaidMore
import Derived.Lib.LaidTab
import Derived.SevenTiedAt
namespace Go.Proofs.YtlbnlalkimnhdaaDoor.payneWindows
open Go.ChangeShapes Go.WideShapes Go.ChangeAt Go.RowKit Sim
set_option linter.unusedVariables false
theorem own : ownKnob Tryd.prog.godebug = none := by kernel_rfl
theorem gW : Tryd.prog.globalNamed "gnomon/payne.words" = some 5 := by kernel_rfl
theorem tW : (Tryd.prog.globals[5]?).map (·.type) = some 77 := by kernel_rfl
theorem u77 : Tryd.prog.underlying 77 = some (.array 20 30) := by kernel_rfl
theorem u30 : Tryd.prog.underlying 30 = some (.int .u64) := by kernel_rfl
theorem c30 : Tryd.prog.cellsOf 30 = 1 := by kernel_rfl
theorem c77 : Tryd.prog.cellsOf 77 = 20 := by kernel_rfl
theorem gok {W : World} (h : laidMetH Tryd.prog Rows.payneWindowsRow.laid W) : GOk GW W.cell? := by
  rw [MakeChecks.laidMetH_plain _ _ _ (by kernel_rfl)] at h
  have hT := Lib.tabIs_of_head (k := .u64) (zs := wordsT) (rest := []) gW tW u77 u30 c30 c77 h
  intro g cs hm j u hu
  simp only [GW, List.mem_singleton, Prod.mk.injEq] at hm
  obtain ⟨rfl, rfl⟩ := hm
  have hj : j < wordsT.length := by have := (List.getElem?_eq_some_iff.1 hu).1; simpa using this
  have h1 := hT.cell gW j hj
  rw [List.getElem?_map, List.getElem?_eq_getElem hj] at hu
  simp only [Option.map_some, Option.some.injEq] at hu
  rw [← hu, h1]
  simp [List.getD, hj]
theorem wf_i64 {n : Int} (h : (Lit.int .i64 n).wf = true) : inR .i64 n := by
  simp only [Lit.wf, Bool.and_eq_true, decide_eq_true_eq] at h
  exact ⟨h.1, by have := h.2; simp only [IntKind.max, IntKind.bits, IntKind.signed] at this; simp at this; omega⟩
theorem pc (n : Int) (h : inR .i64 n) : PC Tryd.prog GW 6 [.val (.int .i64 n)] (· = .val (.bool true)) := by
  exact (wins_pc n h).h
theorem door_met (os : Os) (args : Array Value) : laidMetH Tryd.prog Rows.payneWindowsRow.laid ((World.doorLaid Tryd.prog 400 os).forCall (fun _ _ => 0) ⟨#[], args, []⟩).memory := by
  rw [MakeChecks.laidMetH_plain _ _ _ (by kernel_rfl)]
  exact laidMet_of_run' 8 (by kernel_rfl) (by kernel_rfl)
set_option maxRecDepth 100000 in
theorem lifted (os : Os) (started : os.Started) (H : Type) (enc : TypeId × Value → H) :
    ReturnsInHanded {} Tryd.checked os 6 .any (fun w args => (Rows.payneWindowsSpec.pre enc Tryd.prog Tryd.f6 [] false w args ∧ laidMetH Tryd.prog Rows.payneWindowsRow.laid w) ∧ sizedMet enc Tryd.prog Tryd.f6 (OpenSpec.ofChange Rows.payneWindowsSpec) false w args)
      (Rows.payneWindowsSpec.post enc Tryd.prog Tryd.f6 false true false false) := by
  refine returnsInHanded_of_change_and (C := Tryd.checked) (X := fun w _ => laidMetH Tryd.prog Rows.payneWindowsRow.laid w) (fun _ _ _ hh h => h.of_heap hh) own started (by kernel_rfl) Tryd.func6
    (ChangeSpec.witness_shaped (enc := enc) (C := Tryd.checked) (os := os) (X := fun w _ => laidMetH Tryd.prog Rows.payneWindowsRow.laid w) false (World.doorLaid Tryd.prog 400 os) #[.int .i64 0] 6 rfl (World.shaped_of_RefB (by kernel_rfl) (by kernel_rfl)) (by kernel_rfl) (by kernel_rfl) (by kernel_rfl) (door_met os _)) ?_
  intro W base args ds gs before hval0 hW _ _ hL _
  have hval : ∀ (j : Nat) t v, Tryd.f6.params[j]? = some t → args[j]? = some v → Value.okWide Tryd.prog W .any base t v := hval0
  have hW' := hW
  obtain ⟨p, q, hA0, hV, rfl, hfz, hnd⟩ := hW
  have hA : DataW.TrodAll enc Tryd.prog W 0 (fun _ => true) true Tryd.f6.params.toList args.toList ds p := hA0
  rw [Tryd.params6] at hA hval
  obtain ⟨v0, vs0, d0, ds0, p0, q0, hargs, rfl, rfl, h0, r0⟩ := trodAll_cons hA
  obtain ⟨rfl, rfl, rfl⟩ := trodAll_nil r0
  obtain rfl : args = #[v0] := by cases args; simp_all
  obtain ⟨rfl, rfl⟩ := trodVars_none hV
  obtain ⟨a0, rfl, rfl, rfl, w0⟩ := open_int Tryd.underlying3 (hval 0 3 v0 rfl rfl) h0
  clear hA0 hval0
  simp only [List.append_nil] at hW'
  refine (law_calls (pc a0 (wf_i64 w0)) (gok hL) (.cons (.val _) .nil)).mono fun e W' ⟨he, hg⟩ => ?_
  subst he
  exact ⟨_, rfl, post_below (pa := []) (pv := []) hW' (fun _ _ _ => (trodAll_cons_mk (shut_bool Tryd.underlying4 _) trodAll_mk0)) (fun sp _ => (trodAll_cons_mk (shut_int Tryd.underlying3 w0) trodAll_mk0)) (fun _ _ => rfl) rfl
    hg (ok_one (by kernel_rfl) rfl (okWide_bool_mk Tryd.underlying4 _))⟩
theorem over : Rows.PayneWindowsSaid :=
  OpenClaim.holds_of_wide 6 Tryd.f6 rfl rfl rfl rfl rfl rfl rfl ⟨rfl, rfl, rfl, rfl, rfl⟩ rfl rfl rfl rfl rfl (by kernel_rfl) Tryd.func6 (by kernel_rfl)
    (of_decide_eq_true (by kernel_rfl)) (by unfold Func.isWrapper; first | (rw [if_pos (by decide +kernel)]; kernel_rfl) | (rw [if_neg (by decide +kernel)]; exact ⟨rfl, rfl⟩))
    (fun os started H enc _ => lifted os started H enc)
theorem card_holds : Rows.PayneWindowsCardSaid :=
  Claim7.holds_tied_plain_at .later [] [.data] true (true, "54a8f4c036e5eb9103bbe6f4114b8c2f86d2a0eebc72ca400679bde79f8c9347") false
    over (fun _ h => by cases h) (by kernel_rfl) (fun _ h => by cases h) payneWindows_row_tie rfl ⟨rfl, rfl⟩ (by kernel_rfl) rfl
    (fun f fn hf hfn => by
      obtain rfl : f = 6 := Option.some.inj ((show Tryd.prog.funcNamed "gnomon/gnomonlaw21.PayneWindows" = some 6 by kernel_rfl).symm.trans hf) |>.symm
      obtain rfl : fn = Tryd.f6 := (Option.some.inj (Tryd.func6.symm.trans hfn)).symm
      exact ⟨by kernel_rfl, fun j t ht => by
        rw [Tryd.params6] at ht
        have hm : t ∈ [3] := by simpa using Array.mem_of_getElem? ht
        have hall : ([3].all fun u => !Tryd.prog.wantsStandIn u) = true := by kernel_rfl
        exact (show Tryd.prog.wantsStandIn t = false by simpa using List.all_eq_true.1 hall t hm)⟩)
    (by kernel_rfl)
end Go.Proofs.YtlbnlalkimnhdaaDoor.payneWindows
namespace Go.Proofs.YtlbnlalkimnhdaaDoor
theorem payneWindows_card : Rows.PayneWindowsCardSaid := payneWindows.card_holds
#print axioms payneWindows_card
end Go.Proofs.YtlbnlalkimnhdaaDoor
