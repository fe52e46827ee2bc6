/-
  Lemmas of SpanPlaysCardSaid, part 2.
-/
import Derived.Test.YtpjbgmafnheomaaGreatDoorPkSpanPlaysCardSaidA
import Derived.OrdersHeld
namespace Go.Proofs.YtpjbgmafnheomaaGreatDoor.Sim
set_option linter.unusedVariables false
section
variable {P : Program} {ops : Array Oper} {Q : Exit → Act → World → Prop} {L : Array Bool}
def wpAnyE (P : Program) (ops : Array Oper) (Q : Exit → Act → World → Prop) (L : Array Bool) : Nat → Array Bool → Act → World → Prop
  | 0, listed, a, w => listed = L ∧ wpAny P .any ops Q 0 L a w
  | f + 1, listed, a, w => (listed = L ∧ wpAny P .any ops Q (f + 1) L a w) ∨
    (Region.ready .any ops listed ≠ [] ∧ ∀ i ∈ Region.ready .any ops listed, wpOp P ops Q i (fun a' w' => Ext w w' ∧ wpAnyE P ops Q L f (listed.setIfInBounds i true) a' w') a w)
theorem wpAnyE.any : ∀ (f : Nat) (listed : Array Bool) (a : Act) (w : World), wpAnyE P ops Q L f listed a w → wpAny P .any ops Q f listed a w
  | 0, _, _, _, ⟨e, h⟩ => e ▸ h
  | f + 1, _, _, _, .inl ⟨e, h⟩ => e ▸ h
  | f + 1, _, _, _, .inr ⟨h0, h⟩ => ⟨fun e => absurd e h0, fun i hi => wpOp_mono (fun a' w' h' => wpAnyE.any f _ a' w' h'.2) (h i hi)⟩
def Closed (ops : Array Oper) (l : Array Bool) : Prop := ∀ (j : Nat) (o : Oper), ops[j]? = some o → l.getD j false = true → ∀ e ∈ o.after, Region.binds .any e = true → l.getD e.on false = true
def closedB (ops : Array Oper) (l : Array Bool) : Bool := (List.range ops.size).all fun j => match ops[j]? with
  | some o => !(l.getD j false) || o.after.all fun e => !(Region.binds .any e) || l.getD e.on false
  | none => true
theorem closedB_ok {ops : Array Oper} {l : Array Bool} : closedB ops l = true ↔ Closed ops l := by
  unfold closedB Closed
  rw [List.all_eq_true]
  constructor
  · intro h j o ho hl e he hb
    have hj : j ∈ List.range ops.size := by
      rw [List.mem_range]; exact (Array.getElem?_eq_some_iff.1 ho).1
    have := h j hj
    simp only [ho, Bool.or_eq_true, Bool.not_eq_true'] at this
    rcases this with h1 | h1
    · rw [hl] at h1; cases h1
    · rw [Array.all_eq_true'] at h1
      have := h1 e he
      simp only [Bool.or_eq_true, Bool.not_eq_true'] at this
      rcases this with h2 | h2
      · rw [hb] at h2; cases h2
      · exact h2
  · intro h j hj
    cases ho : ops[j]? with
    | none => rfl
    | some o =>
      simp only [Bool.or_eq_true, Bool.not_eq_true']
      cases hl : l.getD j false with
      | false => exact .inl rfl
      | true =>
        refine .inr ?_
        rw [Array.all_eq_true']
        intro e he
        simp only [Bool.or_eq_true, Bool.not_eq_true']
        cases hb : Region.binds .any e with
        | false => exact .inl rfl
        | true => exact .inr (h j o ho hl e he hb)
theorem Closed.ready {ops : Array Oper} {l : Array Bool} (h : Closed ops l) {j : Nat} (hj : j ∈ Region.ready .any ops l) : Closed ops (l.setIfInBounds j true) := by
  intro k o ho hl e he hb
  refine getD_set_true ?_
  by_cases hk : j = k
  · subst hk
    obtain ⟨_, o', ho', hall⟩ := mem_ready.1 hj
    rw [ho] at ho'; cases ho'
    exact hall e he hb
  · rw [getD_set_ne false hk] at hl
    exact h k o ho hl e he hb
theorem wpAnyE_first {i : Nat} {oi : Oper} {v : Value} (hi : ops[i]? = some oi) (hsel : ∀ (j : Nat) (o : Oper) cs b, ops[j]? = some o → o.op ≠ .select cs b) (hQ : ∀ c a w, ¬ Q (.panic c) a w)
    (hT : ∀ l : Array Bool, Closed ops l → l.setIfInBounds i true = L → l.getD i true = false → ∀ j ∈ Region.ready .any ops l, j = i) :
    ∀ (f : Nat) (listed : Array Bool) (a : Act) (w : World), Closed ops listed →
      (∀ j oj, ops[j]? = some oj → j ≠ i → listed.getD j true = false → (∀ e ∈ oj.after, Region.binds .any e = true → e.on ≠ i) → oi.apart ops oj = true) →
      i ∈ Region.ready .any ops listed → YieldsIf P ops (Ext w) oi v a →
      wpAnyE P ops Q L f (listed.setIfInBounds i true) (a.put oi.dst v) w → wpAnyE P ops Q L (f + 1) listed a w := by
  intro f
  induction f with
  | zero =>
    intro listed a w hcl _ hr hy H
    refine .inr ⟨fun e => (by rw [e] at hr; cases hr), fun j hj => ?_⟩
    have := hT listed hcl H.1 (mem_ready.1 hr).1 j hj
    subst this
    exact hy.wpOp hi (Ext.refl w) ⟨Ext.refl w, H⟩
  | succ f ih =>
    intro listed a w hcl hfree hr hy H
    refine .inr ⟨fun e => (by rw [e] at hr; cases hr), fun j hj => ?_⟩
    by_cases hji : j = i
    · subst hji; exact hy.wpOp hi (Ext.refl w) ⟨Ext.refl w, H⟩
    · rcases H with ⟨e, _⟩ | ⟨_, H⟩
      · exact absurd (hT listed hcl e (mem_ready.1 hr).1 j hj) hji
      · have h1 := H j (ready_mono hj hji)
        obtain ⟨hjun, oj, hoj, hall⟩ := mem_ready.1 hj
        have hnot : ∀ e ∈ oj.after, Region.binds .any e = true → e.on ≠ i := fun e he hb heq => by
          have h1 := hall e he hb
          have h0 := (mem_ready.1 hr).1
          rw [heq] at h1
          rcases Nat.lt_or_ge i listed.size with h' | h'
          · simp [h'] at h0 h1; rw [h0] at h1; cases h1
          · simp [Array.getElem?_eq_none h'] at h1
        have h2 := wpOp_putIf hoj (hfree j oj hoj hji hjun hnot) (fun cs b => hsel i oi cs b hi) (fun cs b => hsel j oj cs b hoj) (fun c a w h => absurd h (hQ _ _ _)) hy h1
        have hfree' : ∀ k ok, ops[k]? = some ok → k ≠ i → (listed.setIfInBounds j true).getD k true = false →
            (∀ e ∈ ok.after, Region.binds .any e = true → e.on ≠ i) → oi.apart ops ok = true := fun k ok hk hki hun hno => by
          refine hfree k ok hk hki ?_ hno
          by_cases hjk : j = k
          · subst hjk; exact hjun
          · rw [getD_set_ne true hjk] at hun; exact hun
        refine wpOp_mono (fun a' w' h3 => ⟨h3.2.1, ih (listed.setIfInBounds j true) a' w' (hcl.ready hj) hfree' (ready_mono hr (Ne.symm hji)) (h3.1.imp (fun ⟨x, y⟩ => ⟨x, fun w'' he => y w'' (h3.2.1.trans he)⟩) id) ?_⟩) h2
        rw [Array.setIfInBounds_comm _ _ hji]
        exact h3.2.2
structure Dr where
  plan : List (List Nat)
  listed : Array Bool
structure Rg where
  ops : Array Oper
  dr : Option Dr
def setAll (l : Array Bool) : List Nat → Array Bool
  | [] => l
  | i :: is => setAll (l.setIfInBounds i true) is
def Dr.cut (d : Dr) : Array Bool := match d.plan with
  | [] => d.listed
  | c :: _ => setAll d.listed c
def Dr.left (d : Dr) : Nat := (d.plan.map List.length).sum
def Dr.next (d : Dr) : Dr := match d.plan with
  | (i :: is) :: r => ⟨is :: r, d.listed.setIfInBounds i true⟩
  | [] :: (i :: is) :: r => ⟨is :: r, d.listed.setIfInBounds i true⟩
  | _ => d
def Rg.next (r : Rg) : Rg := ⟨r.ops, r.dr.map Dr.next⟩
def sole (ops : Array Oper) (l : Array Bool) (i : Nat) : Bool := match Region.ready .any ops l with
  | [j] => j == i
  | _ => false
def chkS (ops : Array Oper) (listed : Array Bool) (i : Nat) (is : List Nat) : Bool :=
  Region.noSelect ops && Region.free .any ops listed i && (Region.ready .any ops listed).contains i && closedB ops listed && (sole ops ((setAll listed (i :: is)).setIfInBounds i false) i || !(closedB ops ((setAll listed (i :: is)).setIfInBounds i false)))
def pureO (o : Oper) : Bool := match o.op with
  | .move _ => true
  | .extract _ _ => true
  | .binOp _ _ _ _ _ => true
  | _ => false
def chkP (ops : Array Oper) (listed : Array Bool) (i : Nat) : Bool := Region.noSelect ops && Region.free .any ops listed i && (Region.ready .any ops listed).contains i
def Rg.okS (r : Rg) (o : Oper) : Prop := match r.dr with
  | none => True
  | some d => match d.plan with
    | (i :: is) :: _ => r.ops[i]? = some o ∧ chkS r.ops d.listed i is = true
    | [] :: (i :: _) :: _ => r.ops[i]? = some o ∧ chkP r.ops d.listed i = true ∧ pureO o = true
    | _ => False
def Rg.okE (r : Rg) (o : Oper) : Prop := match r.dr with
  | none => True
  | some d => match d.plan with
    | (i :: _) :: _ => r.ops[i]? = some o ∧ sole r.ops d.listed i = true
    | _ => False
def Rg.okL (r : Rg) (o : Oper) : Prop := match r.dr with
  | none => True
  | some d => match d.plan with
    | [] :: (i :: _) :: _ => r.ops[i]? = some o ∧ sole r.ops d.listed i = true
    | _ => False
def Rg.ok (r : Rg) (e : Bool) (o : Oper) : Prop := match e with
  | true => r.okE o
  | false => r.okL o
def Rg.fin (r : Rg) : Prop := match r.dr with
  | none => True
  | some d => d.plan = [[]] ∧ Region.ready .any r.ops d.listed = []
def Rg.begin (ops : Array Oper) (p : List (List Nat)) : Rg := ⟨ops, some ⟨p, Array.replicate ops.size false⟩⟩
theorem sole_ok {l : Array Bool} {i : Nat} (h : sole ops l i = true) : Region.ready .any ops l = [i] := by
  unfold sole at h
  split at h
  · rename_i j hj; rw [hj]; simp at h; rw [h]
  · cases h
theorem set_unset {l : Array Bool} {i : Nat} (h : l.getD i true = false) : (l.setIfInBounds i true).setIfInBounds i false = l := by
  have hlt : i < l.size := by
    rcases Nat.lt_or_ge i l.size with h' | h'
    · exact h'
    · simp [Array.getElem?_eq_none h'] at h
  apply Array.ext_getElem?
  intro j
  by_cases hij : i = j
  · subst hij
    have h1 : l[i]? = some false := by
      simp only [Array.getD_eq_getD_getElem?] at h
      cases hq : l[i]? with
      | none => simp [hq] at h
      | some b => simp [hq] at h; rw [h]
    rw [h1, Array.getElem?_setIfInBounds]
    simp [hlt]
  · rw [Array.getElem?_setIfInBounds_ne hij, Array.getElem?_setIfInBounds_ne hij]
end
end Go.Proofs.YtpjbgmafnheomaaGreatDoor.Sim
