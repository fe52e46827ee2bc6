/-
  The statement SintablePlaces: for every input the call answers true; by a walk and the plain law. No condition but the row's own ('laid', which the card ties).
-/
import Derived.Test.YtfnmlikgdfmcbaaDoorPkSintablePlacesCardSaidM
import Derived.Test.YtfnmlikgdfmcbaaDoorTie
import Derived.Test.YtfnmlikgdfmcbaaDoorCards
import Derived.WalkKit
import Derived.ProofKit
import Derived.OpenShut
import Derived.LaidMore
import Derived.SevenTiedAt
namespace Go.Proofs.YtfnmlikgdfmcbaaDoor.sintablePlaces
open Go.ChangeShapes Go.WideShapes Go.ChangeAt Go.RowKit Sim
set_option linter.unusedVariables false
theorem own : ownKnob Tryd.prog.godebug = none := by kernel_rfl
theorem gok {W : World} (h : laidMetH Tryd.prog Rows.sintablePlacesRow.laid W) : GOk GS W.cell? := by
  rw [MakeChecks.laidMetH_plain _ _ _ (by kernel_rfl)] at h
  exact gs_ok h (by kernel_rfl) (by kernel_rfl) (by kernel_rfl) (by kernel_rfl)
theorem door_met (os : Os) (args : Array Value) : laidMetH Tryd.prog Rows.sintablePlacesRow.laid ((World.doorLaid Tryd.prog 400 os).forCall (fun _ _ => 0) ⟨#[], args, []⟩).memory := by
  rw [MakeChecks.laidMetH_plain _ _ _ (by kernel_rfl)]
  exact laidMet_of_run' 8 (by kernel_rfl) (by kernel_rfl)
theorem kids : Kids Tryd.prog (· < Tryd.prog.types.size) := kids_rows (by kernel_rfl) (by kernel_rfl)
theorem full : ∀ {t e : TypeId}, t < Tryd.prog.types.size → Tryd.prog.underlying t = some (.slice e) → 0 < Tryd.prog.cellsOf e := fun {t e} => slices_full_of Tryd.prog (by kernel_rfl) t e
theorem small : ∀ t ∈ Tryd.f4.params.toList, t < Tryd.prog.types.size := by
  rw [Tryd.params4]
  intro t ht
  have hall : ([37].all fun u => decide (u < Tryd.prog.types.size)) = true := by kernel_rfl
  exact of_decide_eq_true (List.all_eq_true.1 hall t (by simpa using ht))
set_option maxRecDepth 100000 in
theorem lifted (os : Os) (started : os.Started) (H : Type) (enc : TypeId × Value → H) :
    ReturnsInHanded {} Tryd.checked os 4 .any (fun w args => (Rows.sintablePlacesSpec.pre enc Tryd.prog Tryd.f4 [] false w args ∧ laidMetH Tryd.prog Rows.sintablePlacesRow.laid w) ∧ sizedMet enc Tryd.prog Tryd.f4 (OpenSpec.ofChange Rows.sintablePlacesSpec) false w args)
      (Rows.sintablePlacesSpec.post enc Tryd.prog Tryd.f4 false true false false) := by
  refine returnsInHanded_of_change_and (C := Tryd.checked) (X := fun w _ => laidMetH Tryd.prog Rows.sintablePlacesRow.laid w) (fun _ _ _ hh h => h.of_heap hh) own started (by kernel_rfl) Tryd.func4
    (ChangeSpec.witness_shaped (enc := enc) (C := Tryd.checked) (os := os) (X := fun w _ => laidMetH Tryd.prog Rows.sintablePlacesRow.laid w) false (World.doorLaid Tryd.prog 400 os) #[.slice none 0 0] 20 rfl (World.shaped_of_RefB (by kernel_rfl) (by kernel_rfl)) (by kernel_rfl) (by kernel_rfl) (by kernel_rfl) (door_met os _)) ?_
  intro W base args ds gs before hval0 hW _ hZ hL _
  have hval : ∀ (j : Nat) t v, Tryd.f4.params[j]? = some t → args[j]? = some v → Value.okWide Tryd.prog W .any base t v := hval0
  have hW' := hW
  obtain ⟨p, q, hA0, hV, rfl, hfz, hnd⟩ := hW
  have hlt := hW'.lt
  have hA : DataW.TrodAll enc Tryd.prog W 0 (fun _ => true) true Tryd.f4.params.toList args.toList ds p := hA0
  rw [Tryd.params4] at hA hval
  obtain ⟨v0, vs0, d0, ds0, p0, q0, hargs, rfl, rfl, h0, r0⟩ := trodAll_cons hA
  obtain ⟨rfl, rfl, rfl⟩ := trodAll_nil r0
  obtain rfl : args = #[v0] := by cases args; simp_all
  obtain ⟨rfl, rfl⟩ := trodVars_none hV
  obtain ⟨f0, t0⟩ := h0
  obtain ⟨A0, len0, cap0, rfl⟩ := okWide_slice (show Tryd.prog.underlying 37 = some (.slice 30) by kernel_rfl) (hval 0 _ v0 rfl rfl)
  have z0 : ∀ q ∈ d0.weights Tryd.prog 37, q ≤ reachBytes := fun q hq => by simpa using List.all_eq_true.1 hZ q (DataW.weights_mem_each (j := 0) (by rw [Tryd.params4]; rfl) rfl q hq)
  obtain ⟨l0, R0, o0, b0⟩ := trod_wordsT (show Tryd.prog.underlying 37 = some (.slice 30) by kernel_rfl) (show Tryd.prog.underlying 30 = some (.int .u64) by kernel_rfl) (show Tryd.prog.cellsOf 30 = 1 by kernel_rfl) t0 z0
  rw [show Tryd.prog.bytesOf 30 = 8 by kernel_rfl] at b0
  clear hval0
  refine (law_callsF ((l_sintablePlaces l0 (fun i hi => wf_u64 (wf_rd o0 i hi)) (by unfold reachBytes at b0; omega)).h) (gok hL) (.cons R0 .nil)).mono fun e W' ⟨he, hg⟩ => ?_
  subst he
  exact ⟨_, rfl, post_below2 (pv := []) hW' (fun _ _ _ => (trodAll_cons_mk (shut_bool uBoT _) trodAll_mk0)) (fun sp hsp => trodAll_stays kids full small hA0 (fun p hp => hg.same (hlt p (by simpa using hp))) (fun p hp => hsp p (by simpa using hp))) (fun _ _ => rfl) rfl
    hg (ok_one (by kernel_rfl) rfl (okWide_bool_mk uBoT _))⟩
theorem over : Rows.SintablePlacesSaid :=
  OpenClaim.holds_of_wide 4 Tryd.f4 rfl rfl rfl rfl rfl rfl rfl ⟨rfl, rfl, rfl, rfl, rfl⟩ rfl rfl rfl rfl rfl (by kernel_rfl) Tryd.func4 (by kernel_rfl)
    (of_decide_eq_true (by kernel_rfl)) (by unfold Func.isWrapper; first | (rw [if_pos (by decide +kernel)]; kernel_rfl) | (rw [if_neg (by decide +kernel)]; exact ⟨rfl, rfl⟩))
    (fun os started H enc _ => lifted os started H enc)
theorem card_holds : Rows.SintablePlacesCardSaid :=
  Claim7.holds_tied_plain_at .later [] [.data, .data, .data, .data] true (true, "0b6f6116f2b513af9ed3ae03e5a96866ce93e8acc97018a2c3a0fa8a16c81d63") false
    over (fun _ h => by cases h) (by kernel_rfl) (fun _ h => by cases h) sintablePlaces_row_tie rfl ⟨rfl, rfl⟩ (by kernel_rfl) rfl
    (fun f fn hf hfn => by
      obtain rfl : f = 4 := Option.some.inj ((show Tryd.prog.funcNamed "gnomon/gnomonlaw23.SintablePlaces" = some 4 by kernel_rfl).symm.trans hf) |>.symm
      obtain rfl : fn = Tryd.f4 := (Option.some.inj (Tryd.func4.symm.trans hfn)).symm
      exact ⟨by kernel_rfl, fun j t ht => by
        rw [Tryd.params4] at ht
        have hm : t ∈ [37] := by simpa using Array.mem_of_getElem? ht
        have hall : ([37].all fun u => !Tryd.prog.wantsStandIn u) = true := by kernel_rfl
        exact (show Tryd.prog.wantsStandIn t = false by simpa using List.all_eq_true.1 hall t hm)⟩)
    (by kernel_rfl)
end Go.Proofs.YtfnmlikgdfmcbaaDoor.sintablePlaces
namespace Go.Proofs.YtfnmlikgdfmcbaaDoor
theorem sintablePlaces_card : Rows.SintablePlacesCardSaid := sintablePlaces.card_holds
#print axioms sintablePlaces_card
end Go.Proofs.YtfnmlikgdfmcbaaDoor
