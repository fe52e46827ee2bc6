/-
  The statement SpanTwos: for every input the call answers true; by a walk and the plain law. No condition but the row's own ('laid', which the card ties).
-/
import Derived.Test.YtpjbgmafnheomaaGreatDoorPkSpanTwosCardSaidV
import Derived.Test.YtpjbgmafnheomaaGreatDoorTie
import Derived.Test.YtpjbgmafnheomaaGreatDoorCards
import Derived.WalkKit
import Derived.ProofKit
import Derived.OpenShut
import Derived.LaidMore
import Derived.Lib.LaidTab
import Derived.SevenTiedAt
namespace Go.Proofs.YtpjbgmafnheomaaGreatDoor.spanTwos
open Go.ChangeShapes Go.WideShapes Go.ChangeAt Go.RowKit Sim
set_option linter.unusedVariables false
theorem own : ownKnob Tryz.prog.godebug = none := by kernel_rfl
theorem gok {W : World} (h : laidMetH Tryz.prog Rows.spanTwosRow.laid W) : GOk GD W.cell? := by
  rw [MakeChecks.laidMetH_plain _ _ _ (by kernel_rfl)] at h
  have hT := Lib.tabIs_of_head (k := .u8) (zs := debT) (rest := []) gB tB uB uB8 cB8 cB h
  intro g cs hm j u hu
  simp only [GD, List.mem_singleton, Prod.mk.injEq] at hm
  obtain ⟨rfl, rfl⟩ := hm
  have hj : j < debT.length := by have := (List.getElem?_eq_some_iff.1 hu).1; simpa using this
  have h1 := hT.cell gB j hj
  rw [List.getElem?_map, List.getElem?_eq_getElem hj] at hu
  simp only [Option.map_some, Option.some.injEq] at hu
  rw [← hu, h1]
  simp [List.getD, hj]
theorem door_met (os : Os) (args : Array Value) : laidMetH Tryz.prog Rows.spanTwosRow.laid ((World.doorLaid Tryz.prog 400 os).forCall (fun _ _ => 0) ⟨#[], args, []⟩).memory := by
  rw [MakeChecks.laidMetH_plain _ _ _ (by kernel_rfl)]
  exact laidMet_of_run' 8 (by kernel_rfl) (by kernel_rfl)
theorem kids : Kids Tryz.prog (· < Tryz.prog.types.size) := kids_rows (by kernel_rfl) (by kernel_rfl)
theorem full : ∀ {t e : TypeId}, t < Tryz.prog.types.size → Tryz.prog.underlying t = some (.slice e) → 0 < Tryz.prog.cellsOf e := fun {t e} => slices_full_of Tryz.prog (by kernel_rfl) t e
theorem small : ∀ t ∈ Tryz.f6.params.toList, t < Tryz.prog.types.size := by
  rw [Tryz.params6]
  intro t ht
  have hall : ([28, 28, 3].all fun u => decide (u < Tryz.prog.types.size)) = true := by kernel_rfl
  exact of_decide_eq_true (List.all_eq_true.1 hall t (by simpa using ht))
set_option maxRecDepth 100000 in
theorem lifted (os : Os) (started : os.Started) (H : Type) (enc : TypeId × Value → H) :
    ReturnsInHanded {} Tryz.checked os 6 .any (fun w args => (Rows.spanTwosSpec.pre enc Tryz.prog Tryz.f6 [] false w args ∧ laidMetH Tryz.prog Rows.spanTwosRow.laid w) ∧ sizedMet enc Tryz.prog Tryz.f6 (OpenSpec.ofChange Rows.spanTwosSpec) false w args)
      (Rows.spanTwosSpec.post enc Tryz.prog Tryz.f6 false true false false) := by
  refine returnsInHanded_of_change_and (C := Tryz.checked) (X := fun w _ => laidMetH Tryz.prog Rows.spanTwosRow.laid w) (fun _ _ _ hh h => h.of_heap hh) own started (by kernel_rfl) Tryz.func6
    (ChangeSpec.witness_shaped (enc := enc) (C := Tryz.checked) (os := os) (X := fun w _ => laidMetH Tryz.prog Rows.spanTwosRow.laid w) false (World.doorLaid Tryz.prog 400 os) #[.agg #[.bool false, .slice none 0 0, .int .i64 0, .bool false, .slice none 0 0, .int .i64 0], .agg #[.bool false, .slice none 0 0, .int .i64 0, .bool false, .slice none 0 0, .int .i64 0], .int .i64 0] 20 rfl (World.shaped_of_RefB (by kernel_rfl) (by kernel_rfl)) (by kernel_rfl) (by kernel_rfl) (by kernel_rfl) (door_met os _)) ?_
  intro W base args ds gs before hval0 hW _ hZ hL _
  have hval : ∀ (j : Nat) t v, Tryz.f6.params[j]? = some t → args[j]? = some v → Value.okWide Tryz.prog W .any base t v := hval0
  have hW' := hW
  obtain ⟨p, q, hA0, hV, rfl, hfz, hnd⟩ := hW
  have hlt := hW'.lt
  have hA : DataW.TrodAll enc Tryz.prog W 0 (fun _ => true) true Tryz.f6.params.toList args.toList ds p := hA0
  rw [Tryz.params6] at hA hval
  obtain ⟨v0, vs0, d0, ds0, p0, q0, hargs, rfl, rfl, h0, r0⟩ := trodAll_cons hA
  obtain ⟨v1, vs1, d1, ds1, p1, q1, he1, rfl, rfl, h1, r1⟩ := trodAll_cons r0
  obtain ⟨v2, vs2, d2, ds2, p2, q2, he2, rfl, rfl, h2, r2⟩ := trodAll_cons r1
  obtain ⟨rfl, rfl, rfl⟩ := trodAll_nil r2
  obtain rfl : args = #[v0, v1, v2] := by cases args; simp_all
  obtain ⟨rfl, rfl⟩ := trodVars_none hV
  have z0 : ∀ q ∈ d0.weights Tryz.prog 28, q ≤ reachBytes := fun q hq => by simpa using List.all_eq_true.1 hZ q (DataW.weights_mem_each (j := 0) (by rw [Tryz.params6]; rfl) rfl q hq)
  obtain ⟨b0, l0, e0, b0', l0', e0', R0, o0, o0', _, _⟩ := open_span (hval 0 _ v0 rfl rfl) h0 z0
  have z1 : ∀ q ∈ d1.weights Tryz.prog 28, q ≤ reachBytes := fun q hq => by simpa using List.all_eq_true.1 hZ q (DataW.weights_mem_each (j := 1) (by rw [Tryz.params6]; rfl) rfl q hq)
  obtain ⟨b1, l1, e1, b1', l1', e1', R1, o1, o1', _, _⟩ := open_span (hval 1 _ v1 rfl rfl) h1 z1
  obtain ⟨a2, rfl, _, _, w2⟩ := open_int uIt (hval 2 _ v2 rfl rfl) h2
  have R2 : Rep ⟨W.cell?, [], []⟩ (.val (.int .i64 a2)) (.int .i64 a2) := .val _
  clear hval0
  refine (law_callsF ((l_spanTwos hGD b0 l0 e0 b0' l0' e0' b1 l1 e1 b1' l1' e1' a2 o0 o0' o1 o1' (wf_i64r w2)).h) (gok hL) (.cons R0 (.cons R1 (.cons R2 .nil)))).mono fun e W' ⟨he, hg⟩ => ?_
  subst he
  exact ⟨_, rfl, post_below2 (pv := []) hW' (fun _ _ _ => (trodAll_cons_mk (shut_bool uBo _) trodAll_mk0)) (fun sp hsp => trodAll_stays kids full small hA0 (fun p hp => hg.same (hlt p (by simpa using hp))) (fun p hp => hsp p (by simpa using hp))) (fun _ _ => rfl) rfl
    hg (ok_one (by kernel_rfl) rfl (okWide_bool_mk uBo _))⟩
theorem over : Rows.SpanTwosSaid :=
  OpenClaim.holds_of_wide 6 Tryz.f6 rfl rfl rfl rfl rfl rfl rfl ⟨rfl, rfl, rfl, rfl, rfl⟩ rfl rfl rfl rfl rfl (by kernel_rfl) Tryz.func6 (by kernel_rfl)
    (of_decide_eq_true (by kernel_rfl)) (by unfold Func.isWrapper; first | (rw [if_pos (by decide +kernel)]; kernel_rfl) | (rw [if_neg (by decide +kernel)]; exact ⟨rfl, rfl⟩))
    (fun os started H enc _ => lifted os started H enc)
theorem card_holds : Rows.SpanTwosCardSaid :=
  Claim7.holds_tied_plain_at .later [] [.data] true (true, "f237147ecf4b9bef50a32ca1ece0ac28f4f196749aada2f2dd554cbfe48d8ba2") false
    over (fun _ h => by cases h) (by kernel_rfl) (fun _ h => by cases h) spanTwos_row_tie rfl ⟨rfl, rfl⟩ (by kernel_rfl) rfl
    (fun f fn hf hfn => by
      obtain rfl : f = 6 := Option.some.inj ((show Tryz.prog.funcNamed "gnomon/gnomonlaw06.SpanTwos" = some 6 by kernel_rfl).symm.trans hf) |>.symm
      obtain rfl : fn = Tryz.f6 := (Option.some.inj (Tryz.func6.symm.trans hfn)).symm
      exact ⟨by kernel_rfl, fun j t ht => by
        rw [Tryz.params6] at ht
        have hm : t ∈ [28, 28, 3] := by simpa using Array.mem_of_getElem? ht
        have hall : ([28, 28, 3].all fun u => !Tryz.prog.wantsStandIn u) = true := by kernel_rfl
        exact (show Tryz.prog.wantsStandIn t = false by simpa using List.all_eq_true.1 hall t hm)⟩)
    (by kernel_rfl)
end Go.Proofs.YtpjbgmafnheomaaGreatDoor.spanTwos
namespace Go.Proofs.YtpjbgmafnheomaaGreatDoor
theorem spanTwos_card : Rows.SpanTwosCardSaid := spanTwos.card_holds
#print axioms spanTwos_card
end Go.Proofs.YtpjbgmafnheomaaGreatDoor
