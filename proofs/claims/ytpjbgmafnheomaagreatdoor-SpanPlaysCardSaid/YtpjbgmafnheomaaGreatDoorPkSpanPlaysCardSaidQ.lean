/-
  Lemmas of SpanPlaysCardSaid, part 17.
-/
import Derived.Test.YtpjbgmafnheomaaGreatDoorPkSpanPlaysCardSaidP
import Derived.ChangeSame
import Derived.ChangeArms
import Derived.ChangeStays
import Derived.ChangeBears
import Derived.ReadAgain
import Derived.ChangeSlices
import Derived.Below
import Derived.OpenShut
namespace Go.Proofs.YtpjbgmafnheomaaGreatDoor.Sim
open Go.RowKit Go.ChangeShapes Go.WideShapes
set_option linter.unusedVariables false
set_option linter.unusedSimpArgs false
theorem law_callsF {P : Program} {G : Gs} {f : FuncId} {args : List PV} {vs : List Value} {W : World} (h : PC P G f args (· = .val (.bool true))) (hG : GOk G W.cell?) (hr : RepL ⟨W.cell?, [], []⟩ args vs) :
    Calls P f vs.toArray W fun e w' => e = .returned (.bool true) ∧ Below W.heap.size W w' := by
  refine (h W.cell? W vs hG (fun _ _ h => h) hr).mono ?_
  rintro e w' ⟨v, r, ρ', rfl, rfl, _, _, hv, hb, _⟩
  cases hv
  exact ⟨rfl, hb⟩
def fieldT (P : Program) (t : TypeId) : Option (Nat × List (TypeId × Nat × Nat)) := match P.underlying t with
 | some (.struct fs) => some (P.cellsOf t, fs.toList.map fun f => (f.type, f.offset, P.cellsOf f.type))
 | _ => none
section
variable {H : Type} {enc : TypeId × Value → H} {P : Program} {w : World} {base : Nat} {sp : Nat → Bool} {held : Bool}
theorem trod_bool {t : TypeId} {fuel : Nat} {v : Value} {x : DataW H × List MemPlace} (hu : P.underlying t = some .bool) (h : DataW.trod enc P w base sp held fuel t [v] = some x) : ∃ b, v = .bool b := by
  cases fuel with
 | zero => simp [DataW.trod] at h
 | succ n =>
    unfold DataW.trod at h
    rw [hu] at h
    cases v <;> first | exact ⟨_, rfl⟩ | simp at h
theorem trod_int {t : TypeId} {k : IntKind} {fuel : Nat} {v : Value} {x : DataW H × List MemPlace} (hu : P.underlying t = some (.int k)) (h : DataW.trod enc P w base sp held fuel t [v] = some x) : ∃ n, v = .int k n ∧ (Lit.int k n).wf = true := by
  cases fuel with
 | zero => simp [DataW.trod] at h
 | succ m =>
    unfold DataW.trod at h
    rw [hu] at h
    cases v <;> simp only [reduceCtorEq] at h
    rename_i k' n
    split at h
    · rename_i hh
      obtain ⟨rfl, h2⟩ := hh
      exact ⟨n, rfl, h2⟩
    · cases h
theorem wf_u64 {z : Int} (h : (Lit.int .u64 z).wf = true) : 0 ≤ z ∧ z < 18446744073709551616 := by
  have := bounds_u64 h
  omega
theorem wf_i64r {n : Int} (h : (Lit.int .i64 n).wf = true) : inR .i64 n := by
  have := bounds_i64 h
  dsimp only [inR]
  omega
theorem trodAll_stays {T : TypeId → Prop} {w' : World} {sp' : Nat → Bool} (K : Kids P T) (hsz : ∀ {t e : TypeId}, T t → P.underlying t = some (.slice e) → 0 < P.cellsOf e) :
    ∀ {ts : List TypeId} {vs : List Value} {ds : List (DataW H)} {ps : List MemPlace}, (∀ t ∈ ts, T t) → DataW.TrodAll enc P w base (fun _ => true) true ts vs ds ps → (∀ p ∈ ps, w.sameAt w' p) → (∀ p ∈ ps, sp' p.block = true) → DataW.TrodAll enc P w' base sp' true ts vs ds ps
 | [], [], [], ps, _, h, _, _ => h
 | t :: ts, v :: vs, d :: ds, ps, hT, h, hs, hp => by
    obtain ⟨p, q, ⟨n, h1⟩, h2, rfl⟩ := h
    exact ⟨p, q, ⟨n, DataW.trod_stays K hsz (fun h => by cases h) (hT t (by simp)) h1 (fun p hp => hs p (List.mem_append.2 (.inl hp))) (fun p hq => hp p (List.mem_append.2 (.inl hq)))⟩,
      trodAll_stays K hsz (fun t ht => hT t (by simp [ht])) h2 (fun p hp => hs p (List.mem_append.2 (.inr hp))) (fun p hq => hp p (List.mem_append.2 (.inr hq))), rfl⟩
 | [], _ :: _, _, _, _, h, _, _ => by cases h
 | _ :: _, [], _, _, _, h, _, _ => by cases h
 | [], [], _ :: _, _, _, h, _, _ => by cases h
 | _ :: _, _ :: _, [], _, _, h, _, _ => by cases h
end
end Go.Proofs.YtpjbgmafnheomaaGreatDoor.Sim
