/-
  Lemmas of SintablePlacesCardSaid, part 12.
-/
import Derived.Test.YtfnmlikgdfmcbaaDoorPkSintablePlacesCardSaidK
import Derived.ChangeSame
import Derived.ChangeArms
import Derived.ChangeStays
import Derived.ChangeBears
import Derived.ReadAgain
import Derived.ChangeSlices
import Derived.Below
import Derived.OpenShut
namespace Go.Proofs.YtfnmlikgdfmcbaaDoor.Sim
open Go.RowKit Go.ChangeShapes Go.WideShapes
set_option linter.unusedVariables false
set_option linter.unusedSimpArgs false
theorem law_callsF {P : Program} {G : List (Nat × List Value)} {f : FuncId} {args : List PV} {vs : List Value} {W : World} (h : PC P G f args (· = .val (.bool true))) (hG : GOk G W.cell?) (hr : RepL ⟨W.cell?, [], []⟩ args vs) :
    Calls P f vs.toArray W fun e w' => e = .returned (.bool true) ∧ Below W.heap.size W w' := by
  refine (h W.cell? W vs hG (fun _ _ h => h) hr).mono ?_
  rintro e w' ⟨v, r, ρ', rfl, rfl, _, _, hv, hb, _⟩
  cases hv
  exact ⟨rfl, hb⟩
section
variable {H : Type} {enc : TypeId × Value → H} {P : Program} {w : World} {base : Nat} {sp : Nat → Bool} {held : Bool}
theorem wf_u64 {z : Int} (h : (Lit.int .u64 z).wf = true) : 0 ≤ z ∧ z < 18446744073709551616 := by
  have := bounds_u64 h
  omega
theorem trodAll_stays {T : TypeId → Prop} {w' : World} {sp' : Nat → Bool} (K : Kids P T) (hsz : ∀ {t e : TypeId}, T t → P.underlying t = some (.slice e) → 0 < P.cellsOf e) :
    ∀ {ts : List TypeId} {vs : List Value} {ds : List (DataW H)} {ps : List MemPlace}, (∀ t ∈ ts, T t) → DataW.TrodAll enc P w base (fun _ => true) true ts vs ds ps → (∀ p ∈ ps, w.sameAt w' p) → (∀ p ∈ ps, sp' p.block = true) → DataW.TrodAll enc P w' base sp' true ts vs ds ps
  | [], [], [], ps, _, h, _, _ => h
  | t :: ts, v :: vs, d :: ds, ps, hT, h, hs, hp => by
    obtain ⟨p, q, ⟨n, h1⟩, h2, rfl⟩ := h
    exact ⟨p, q, ⟨n, DataW.trod_stays K hsz (fun h => by cases h) (hT t (by simp)) h1 (fun p hp => hs p (List.mem_append.2 (.inl hp))) (fun p hq => hp p (List.mem_append.2 (.inl hq)))⟩,
      trodAll_stays K hsz (fun t ht => hT t (by simp [ht])) h2 (fun p hp => hs p (List.mem_append.2 (.inr hp))) (fun p hq => hp p (List.mem_append.2 (.inr hq))), rfl⟩
  | [], _ :: _, _, _, _, h, _, _ => by cases h
  | _ :: _, [], _, _, _, h, _, _ => by cases h
  | [], [], _ :: _, _, _, h, _, _ => by cases h
  | _ :: _, _ :: _, [], _, _, h, _, _ => by cases h
end
end Go.Proofs.YtfnmlikgdfmcbaaDoor.Sim
