/-
  The statement SpanPlays: for every input the call answers true; by a walk and the plain law. No condition but the row's own ('laid', which the card ties).
-/
import Derived.Test.YtpjbgmafnheomaaGreatDoorPkSpanPlaysCardSaidYA
import Derived.Test.YtpjbgmafnheomaaGreatDoorTie
import Derived.Test.YtpjbgmafnheomaaGreatDoorCards
import Derived.WalkKit
import Derived.ProofKit
import Derived.OpenShut
import Derived.LaidMore
import Derived.Lib.LaidTab
import Derived.SevenTiedAt
namespace Go.Proofs.YtpjbgmafnheomaaGreatDoor.spanPlays
open Go.ChangeShapes Go.WideShapes Go.ChangeAt Go.RowKit Sim
set_option linter.unusedVariables false
theorem own : ownKnob Tryz.prog.godebug = none := by kernel_rfl
theorem gok {W : World} (h : laidMetH Tryz.prog Rows.spanPlaysRow.laid W) : GOk GD W.cell? := by
  rw [MakeChecks.laidMetH_plain _ _ _ (by kernel_rfl)] at h
  have hT := Lib.tabIs_of_head (k := .u8) (zs := debT) (rest := []) gB tB uB uB8 cB8 cB h
  intro g cs hm j u hu
  simp only [GD, List.mem_singleton, Prod.mk.injEq] at hm
  obtain ⟨rfl, rfl⟩ := hm
  have hj : j < debT.length := by have := (List.getElem?_eq_some_iff.1 hu).1; simpa using this
  have h1 := hT.cell gB j hj
  rw [List.getElem?_map, List.getElem?_eq_getElem hj] at hu
  simp only [Option.map_some, Option.some.injEq] at hu
  rw [← hu, h1]
  simp [List.getD, hj]
theorem door_met (os : Os) (args : Array Value) : laidMetH Tryz.prog Rows.spanPlaysRow.laid ((World.doorLaid Tryz.prog 400 os).forCall (fun _ _ => 0) ⟨#[], args, []⟩).memory := by
  rw [MakeChecks.laidMetH_plain _ _ _ (by kernel_rfl)]
  exact laidMet_of_run' 8 (by kernel_rfl) (by kernel_rfl)
theorem kids : Kids Tryz.prog (· < Tryz.prog.types.size) := kids_rows (by kernel_rfl) (by kernel_rfl)
theorem full : ∀ {t e : TypeId}, t < Tryz.prog.types.size → Tryz.prog.underlying t = some (.slice e) → 0 < Tryz.prog.cellsOf e := fun {t e} => slices_full_of Tryz.prog (by kernel_rfl) t e
theorem small : ∀ t ∈ Tryz.f10.params.toList, t < Tryz.prog.types.size := by
  rw [Tryz.params10]
  intro t ht
  have hall : ([69].all fun u => decide (u < Tryz.prog.types.size)) = true := by kernel_rfl
  exact of_decide_eq_true (List.all_eq_true.1 hall t (by simpa using ht))
set_option maxRecDepth 100000 in
theorem lifted (os : Os) (started : os.Started) (H : Type) (enc : TypeId × Value → H) :
    ReturnsInHanded {} Tryz.checked os 10 .any (fun w args => (Rows.spanPlaysSpec.pre enc Tryz.prog Tryz.f10 [] false w args ∧ laidMetH Tryz.prog Rows.spanPlaysRow.laid w) ∧ sizedMet enc Tryz.prog Tryz.f10 (OpenSpec.ofChange Rows.spanPlaysSpec) false w args)
      (Rows.spanPlaysSpec.post enc Tryz.prog Tryz.f10 false true false false) := by
  refine returnsInHanded_of_change_and (C := Tryz.checked) (X := fun w _ => laidMetH Tryz.prog Rows.spanPlaysRow.laid w) (fun _ _ _ hh h => h.of_heap hh) own started (by kernel_rfl) Tryz.func10
    (ChangeSpec.witness_shaped (enc := enc) (C := Tryz.checked) (os := os) (X := fun w _ => laidMetH Tryz.prog Rows.spanPlaysRow.laid w) false (World.doorLaid Tryz.prog 400 os) #[.slice none 0 0] 20 rfl (World.shaped_of_RefB (by kernel_rfl) (by kernel_rfl)) (by kernel_rfl) (by kernel_rfl) (by kernel_rfl) (door_met os _)) ?_
  intro W base args ds gs before hval0 hW _ hZ hL _
  have hval : ∀ (j : Nat) t v, Tryz.f10.params[j]? = some t → args[j]? = some v → Value.okWide Tryz.prog W .any base t v := hval0
  have hW' := hW
  obtain ⟨p, q, hA0, hV, rfl, hfz, hnd⟩ := hW
  have hlt := hW'.lt
  have hA : DataW.TrodAll enc Tryz.prog W 0 (fun _ => true) true Tryz.f10.params.toList args.toList ds p := hA0
  rw [Tryz.params10] at hA hval
  obtain ⟨v0, vs0, d0, ds0, p0, q0, hargs, rfl, rfl, h0, r0⟩ := trodAll_cons hA
  obtain ⟨rfl, rfl, rfl⟩ := trodAll_nil r0
  obtain rfl : args = #[v0] := by cases args; simp_all
  obtain ⟨rfl, rfl⟩ := trodVars_none hV
  obtain ⟨f0, t0⟩ := h0
  obtain ⟨A0, len0, cap0, rfl⟩ := okWide_slice uOpsS (hval 0 _ v0 rfl rfl)
  have z0 : ∀ q ∈ d0.weights Tryz.prog 69, q ≤ reachBytes := fun q hq => by simpa using List.all_eq_true.1 hZ q (DataW.weights_mem_each (j := 0) (by rw [Tryz.params10]; rfl) rfl q hq)
  obtain ⟨n0, ops0, R0, b0, o0⟩ := open_opsS t0 z0
  clear hval0
  refine (law_callsF ((l_spanPlays hGD n0 ops0 b0 o0).h) (gok hL) (.cons R0 .nil)).mono fun e W' ⟨he, hg⟩ => ?_
  subst he
  exact ⟨_, rfl, post_below2 (pv := []) hW' (fun _ _ _ => (trodAll_cons_mk (shut_bool uBo _) trodAll_mk0)) (fun sp hsp => trodAll_stays kids full small hA0 (fun p hp => hg.same (hlt p (by simpa using hp))) (fun p hp => hsp p (by simpa using hp))) (fun _ _ => rfl) rfl
    hg (ok_one (by kernel_rfl) rfl (okWide_bool_mk uBo _))⟩
theorem over : Rows.SpanPlaysSaid :=
  OpenClaim.holds_of_wide 10 Tryz.f10 rfl rfl rfl rfl rfl rfl rfl ⟨rfl, rfl, rfl, rfl, rfl⟩ rfl rfl rfl rfl rfl (by kernel_rfl) Tryz.func10 (by kernel_rfl)
    (of_decide_eq_true (by kernel_rfl)) (by unfold Func.isWrapper; first | (rw [if_pos (by decide +kernel)]; kernel_rfl) | (rw [if_neg (by decide +kernel)]; exact ⟨rfl, rfl⟩))
    (fun os started H enc _ => lifted os started H enc)
theorem card_holds : Rows.SpanPlaysCardSaid :=
  Claim7.holds_tied_plain_at .later [] [.data] true (true, "f237147ecf4b9bef50a32ca1ece0ac28f4f196749aada2f2dd554cbfe48d8ba2") false
    over (fun _ h => by cases h) (by kernel_rfl) (fun _ h => by cases h) spanPlays_row_tie rfl ⟨rfl, rfl⟩ (by kernel_rfl) rfl
    (fun f fn hf hfn => by
      obtain rfl : f = 10 := Option.some.inj ((show Tryz.prog.funcNamed "gnomon/gnomonlaw06.SpanPlays" = some 10 by kernel_rfl).symm.trans hf) |>.symm
      obtain rfl : fn = Tryz.f10 := (Option.some.inj (Tryz.func10.symm.trans hfn)).symm
      exact ⟨by kernel_rfl, fun j t ht => by
        rw [Tryz.params10] at ht
        have hm : t ∈ [69] := by simpa using Array.mem_of_getElem? ht
        have hall : ([69].all fun u => !Tryz.prog.wantsStandIn u) = true := by kernel_rfl
        exact (show Tryz.prog.wantsStandIn t = false by simpa using List.all_eq_true.1 hall t hm)⟩)
    (by kernel_rfl)
end Go.Proofs.YtpjbgmafnheomaaGreatDoor.spanPlays
namespace Go.Proofs.YtpjbgmafnheomaaGreatDoor
theorem spanPlays_card : Rows.SpanPlaysCardSaid := spanPlays.card_holds
#print axioms spanPlays_card
end Go.Proofs.YtpjbgmafnheomaaGreatDoor
