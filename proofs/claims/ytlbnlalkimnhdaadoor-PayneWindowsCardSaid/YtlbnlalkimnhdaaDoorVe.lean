/-
  Sim, part Ve: regions, code, loops; from a body to a contract. No condition.
-/
import Derived.Test.YtlbnlalkimnhdaaDoorVd
namespace Go.Proofs.YtlbnlalkimnhdaaDoor.Sim
open Go.RowKit
set_option linter.unusedVariables false
set_option linter.unusedSimpArgs false
section
variable {P : Program} {F : Fr} {TT : List TI} {X : List FuncId} {m : Md} {o : Oper} {s : St} {K : St → Prop} {p q : PV}

/-! ### regions -/
def okM (r : Rg) (m : Md) (o : Oper) : Prop := match m with
  | .S => r.okS o
  | .E => r.okE o
  | .L => r.okL o
def okAll (r : Rg) : List (Oper × Md) → Prop
  | [] => r.fin
  | (o, m) :: l => okM r m o ∧ okAll r.next l
theorem Ops.sem {r : Rg} {rest : List Oper} (h : Sem P F m o s fun s' => Ops P F r.next rest s' K) (hw : pwant r.ops s o = some true) (hm : okM r m o) : Ops P F r (o :: rest) s K := by
  cases m with
  | S => obtain ⟨p, h1, h2, h3⟩ := h; exact Ops.stillS h1 hw h2 hm h3
  | E => exact Ops.step (e := true) h hw hm
  | L => exact Ops.step (e := false) h hw hm
theorem Ops.offM {r : Rg} {rest : List Oper} (hw : pwant r.ops s o = some false) (hd : s.fits o.dst = true) (hm : okM r m o) (h : Ops P F r.next rest (s.put o.dst (.val undef)) K) : Ops P F r (o :: rest) s K := by
  cases m with
  | S => exact Ops.off hw hd hm h
  | E =>
    obtain ⟨arr, dr⟩ := r
    cases dr with
    | none => exact Ops.off hw hd trivial h
    | some d =>
      intro Q c a w hi hq hp f hl
      obtain ⟨plan, listed⟩ := d
      match plan, hm with
      | (i :: is) :: r, ⟨h1, h2⟩ =>
        have hl' : (Dr.left ⟨is :: r, listed.setIfInBounds i true⟩) + 1 ≤ f := by
          simp [Dr.left] at hl ⊢; omega
        obtain ⟨f, rfl⟩ : ∃ g, f = g + 1 := ⟨f - 1, by omega⟩
        have e1 := sole_ok h2
        refine .inr ⟨by rw [e1]; simp, fun j hj => ?_⟩
        rw [e1] at hj
        obtain rfl : j = i := by simpa using hj
        unfold wpOp
        simp only [h1]
        rw [pwant_ok hi hw, if_neg (by simp)]
        exact ⟨Ext.refl w, h Q c _ w (hi.put hd (.val undef)) hq hp f (by simpa [Rg.next, Dr.next] using Nat.le_of_succ_le_succ hl')⟩
  | L =>
    obtain ⟨arr, dr⟩ := r
    cases dr with
    | none => exact Ops.off hw hd trivial h
    | some d =>
      intro Q c a w hi hq hp f hl
      obtain ⟨plan, listed⟩ := d
      match plan, hm with
      | [] :: (i :: is) :: r, ⟨h1, h2⟩ =>
        have hl' : (Dr.left ⟨is :: r, listed.setIfInBounds i true⟩) + 1 ≤ f := by
          simp [Dr.left] at hl ⊢; omega
        obtain ⟨f, rfl⟩ : ∃ g, f = g + 1 := ⟨f - 1, by omega⟩
        have e1 := sole_ok h2
        refine .inl ⟨rfl, ?_⟩
        show wpAny P .any arr Q (f + 1) listed a w
        refine ⟨fun e => (by rw [e1] at e; cases e), fun j hj => ?_⟩
        rw [e1] at hj
        obtain rfl : j = i := by simpa using hj
        unfold wpOp
        simp only [h1]
        rw [pwant_ok hi hw, if_neg (by simp)]
        exact wpAnyE.any _ _ _ _ (h Q c _ w (hi.put hd (.val undef)) hq hp f (by simpa [Rg.next, Dr.next] using Nat.le_of_succ_le_succ hl'))
def vSel (want b : Bool) (on off : Prop) : Prop := match want with
  | true => match b with
    | true => on
    | false => off
  | false => match b with
    | true => off
    | false => on
/-- An operation under a guard, or not. -/
def vG (all : List Oper) (o : Oper) (s : St) (on off : St → Prop) : Prop := match o.guard with
  | none => on s
  | some (j, want) => match lget all j with
    | some oj => match oj.dst with
      | some d => match s with
        | ⟨N, t, bx, ob⟩ => match t d with
          | .val (.bool b) => match want with
            | true => ForkG b (on ⟨N, upd t d (.val (.bool true)), bx, ob⟩) (off ⟨N, upd t d (.val (.bool false)), bx, ob⟩)
            | false => ForkG b (off ⟨N, upd t d (.val (.bool true)), bx, ob⟩) (on ⟨N, upd t d (.val (.bool false)), bx, ob⟩)
          | .val (.tuple _) => off ⟨N, t, bx, ob⟩
          | _ => False
      | none => False
    | none => False
def vL (P : Program) (F : Fr) (TT : List TI) (X : List FuncId) (all : List Oper) (l : List (Oper × Md)) (s : St) (K : St → Prop) : Prop := match l with
  | [] => K s
  | x :: l => match x with
    | (o, m) => vG all o s (fun s => vOp P F TT X m o s fun s => vL P F TT X all l s K) (fun s => vPut o.dst s (.val undef) fun s => vL P F TT X all l s K)
theorem vL_ok (hTT : TOk P TT) : ∀ {all : List Oper} {l : List (Oper × Md)} {r : Rg} {s : St}, okAll r l → r.ops = all.toArray → vL P F TT X all l s K → Ops P F r (l.map Prod.fst) s K
  | all, [], r, s, hr, _, h => Ops.nil h hr
  | all, (o, m) :: l, r, s, hr, ha, h => by
    obtain ⟨h1, h2⟩ := hr
    have on : ∀ s', pwant r.ops s' o = some true → vOp P F TT X m o s' (fun s => vL P F TT X all l s K) → Ops P F r (o :: l.map Prod.fst) s' K := by
      intro s' hw hv
      refine Ops.sem ?_ hw h1
      have := vOp_ok hTT hv
      refine (?_ : ∀ K' : St → Prop, (∀ s, vL P F TT X all l s K → K' s) → Sem P F m o s' K') _ fun s'' hs => vL_ok hTT h2 ha hs
      intro K' hk
      cases m with
      | S => obtain ⟨p, a, b, c⟩ := this; exact ⟨p, a, b, hk _ c⟩
      | E => exact fun Q c a w hi => Oper.wp_mono (fun a' w' ⟨c', s', x, y, z⟩ => ⟨c', s', x, hk _ y, z⟩) (this Q c a w hi)
      | L => exact fun Q c a w hi => Oper.wp_mono (fun a' w' ⟨c', s', x, y, z⟩ => ⟨c', s', x, hk _ y, z⟩) (this Q c a w hi)
    have off : ∀ s', pwant r.ops s' o = some false → vPut o.dst s' (.val undef) (fun s => vL P F TT X all l s K) → Ops P F r (o :: l.map Prod.fst) s' K := by
      intro s' hw hv
      obtain ⟨e1, e2⟩ := vPut_ok hv
      exact Ops.offM hw e1 h1 (vL_ok hTT h2 ha e2)
    simp only [vL, vG] at h
    simp only [List.map_cons]
    cases hg : o.guard with
    | none =>
      simp only [hg] at h
      exact on s (by simp [pwant, hg]) h
    | some jw =>
      obtain ⟨j, want⟩ := jw
      obtain ⟨N, t, bx, ob⟩ := s
      cases hoj : lget all j with
      | none => simp [hg, hoj] at h
      | some oj =>
      cases hd : oj.dst with
      | none => simp [hg, hoj, hd] at h
      | some d =>
      simp only [hg, hoj, hd] at h
      rw [lget_eq] at hoj
      have hj : (r.ops[j]?).bind (·.dst) = some d := by rw [ha]; simp [hoj, hd]
      have pw : ∀ c, pwant r.ops ⟨N, upd t d (.val (.bool c)), bx, ob⟩ o = some (c == want) := by
        intro c
        simp [pwant, hg, hj, upd_same]
      have key : ∀ (b : Bool) (A B : St → Prop), t d = .val (.bool b) → ForkG b (A ⟨N, upd t d (.val (.bool true)), bx, ob⟩) (B ⟨N, upd t d (.val (.bool false)), bx, ob⟩) → (∀ s', s' = (⟨N, upd t d (.val (.bool true)), bx, ob⟩ : St) → A s' → Ops P F r (o :: l.map Prod.fst) s' K) → (∀ s', s' = (⟨N, upd t d (.val (.bool false)), bx, ob⟩ : St) → B s' → Ops P F r (o :: l.map Prod.fst) s' K) → Ops P F r (o :: l.map Prod.fst) ⟨N, t, bx, ob⟩ K := by
        intro b A B hb hf hA hB
        exact Ops.guard (s := ⟨N, t, bx, ob⟩) hg hj hb (fun e => hA _ rfl (hf.t e)) (fun e => hB _ rfl (hf.f e))
      generalize htd : t d = y at h
      cases y with
      | val v =>
        cases v with
        | bool b =>
          cases want with
          | true => exact key b _ _ htd h (fun s' e h => on s' (by rw [e, pw]; rfl) h) (fun s' e h => off s' (by rw [e, pw]; rfl) h)
          | false => exact key b _ _ htd h (fun s' e h => off s' (by rw [e, pw]; rfl) h) (fun s' e h => on s' (by rw [e, pw]; rfl) h)
        | tuple vs => exact off _ (by simp [pwant, hg, hj, htd]) h
        | _ => exact (show False from h).elim
      | _ => exact (show False from h).elim
/-- How a region may take an operation. -/
def kind (X : List FuncId) (o : Oper) : Md := match o.op with
  | .store _ _ _ => .L
  | .alloc _ => .E
  | .box _ _ => .E
  | .makeSlice _ _ _ => .E
  | .buildSlice _ _ _ => .E
  | .call c => match c.callee with
    | .builtin b => match b with
      | .append => .L
      | .copy => .L
      | .clear => .L
      | _ => .S
    | .value (.const v) => .E
    | .value (.func f) => match memX X f with
      | true => .S
      | false => .E
    | _ => .E
  | _ => .S
def hdI (r : Rg) : Option Nat := match r.dr with
  | none => none
  | some d => match d.plan with
    | (i :: _) :: _ => some i
    | [] :: (i :: _) :: _ => some i
    | _ => none
def okB (m : Md) (r : Rg) : Bool := match r.dr with
  | none => true
  | some d => match m with
    | .S => match d.plan with
      | (i :: is) :: _ => chkS r.ops d.listed i is
      | _ => false
    | .E => match d.plan with
      | (i :: _) :: _ => sole r.ops d.listed i
      | _ => false
    | .L => match d.plan with
      | [] :: (i :: _) :: _ => sole r.ops d.listed i
      | _ => false
def chkR (X : List FuncId) (ops : List Oper) (r : Rg) : List Nat → Bool
  | [] => match r.dr with
    | some d => (match d.plan with
      | [[]] => true
      | _ => false) && (Region.ready .any r.ops d.listed).isEmpty
    | none => true
  | i :: is => (hdI r == some i) && Nat.blt i ops.length && okB (kind X (nthO ops i)) r && chkR X ops r.next is
theorem nthO_get : ∀ {l : List Oper} {i : Nat}, i < l.length → l[i]? = some (nthO l i)
  | [], i, h => by simp at h
  | o :: l, 0, h => rfl
  | o :: l, i + 1, h => by simpa [nthO] using nthO_get (l := l) (i := i) (by simpa using h)
theorem chkR_ok {ops : List Oper} : ∀ {is : List Nat} {r : Rg}, r.ops = ops.toArray → chkR X ops r is = true → okAll r (is.map fun i => (nthO ops i, kind X (nthO ops i)))
  | [], r, ha, h => by
    obtain ⟨arr, dr⟩ := r
    cases dr with
    | none => trivial
    | some d =>
      simp only [chkR, Bool.and_eq_true] at h
      obtain ⟨h1, h2⟩ := h
      split at h1
      · rename_i hp; exact ⟨hp, by simpa using h2⟩
      · cases h1
  | i :: is, r, ha, h => by
    simp only [chkR, Bool.and_eq_true] at h
    obtain ⟨⟨⟨h1, h2⟩, h3⟩, h4⟩ := h
    refine ⟨?_, chkR_ok (r := r.next) ha h4⟩
    have hi : i < ops.length := by simpa using h2
    have hget : r.ops[i]? = some (nthO ops i) := by rw [ha]; simpa using nthO_get hi
    have h1 : hdI r = some i := by simpa using h1
    obtain ⟨arr, dr⟩ := r
    generalize hmd : kind X (nthO ops i) = md at h3 ⊢
    simp only [okM]
    cases dr with
    | none => cases md <;> trivial
    | some d =>
      obtain ⟨plan, listed⟩ := d
      cases md <;> simp only [okB] at h3 <;> simp only [hdI] at h1
      · split at h3
        · simp only at h1
          cases h1
          exact ⟨hget, h3⟩
        · cases h3
      · split at h3
        · simp only at h1
          cases h1
          exact ⟨hget, h3⟩
        · cases h3
      · split at h3
        · simp only at h1
          cases h1
          exact ⟨hget, h3⟩
        · cases h3

/-! ### code -/
def mkQ (kn kr : St → Prop) (kx : Nat → St → Prop) : Exit → St → Prop
  | .normal, s => kn s
  | .ret, s => kr s
  | .exit i, s => kx i s
  | _, _ => False
/-- A loop. -/
structure LoopG (P : Program) (F : Fr) (TT : List TI) (X : List FuncId) (c : Code) (kr : St → Prop) (kx : Nat → St → Prop) (s : St) : Prop where
  h : Cd P F (.loop c) s (mkQ (fun _ => False) kr kx)
/-- A region whose order is drawn. -/
structure DrawG (P : Program) (F : Fr) (TT : List TI) (X : List FuncId) (id : Nat) (ops : List Oper) (s : St) (K : St → Prop) : Prop where
  h : Cd P F (.region id ops.toArray true) s (mkQ K (fun _ => False) (fun _ _ => False))
def vC (P : Program) (F : Fr) (TT : List TI) (X : List FuncId) (c : Code) (kn kr : St → Prop) (kx : Nat → St → Prop) (s : St) : Prop := match c with
  | .skip => kn s
  | .region id ops draw => match draw with
    | false => vL P F TT X ops.toList (ops.toList.map fun o => (o, .L)) s kn
    | true => DrawG P F TT X id ops.toList s kn
  | .seq a b => vC P F TT X a (fun s => vC P F TT X b kn kr kx s) kr kx s
  | .cond c x y => match pev s c with
    | .val (.bool b) => ForkG b (vC P F TT X x kn kr kx s) (vC P F TT X y kn kr kx s)
    | _ => False
  | .block id c => vC P F TT X c kn kr (fun i s => match Nat.beq i id with
    | true => kn s
    | false => kx i s) s
  | .loop c => LoopG P F TT X c kr kx s
  | .exit id => kx id s
  | .ret => kr s
  | _ => False
theorem okAll_text {arr : Array Oper} : ∀ l : List Oper, okAll ⟨arr, none⟩ (l.map fun o => (o, .L))
  | [] => trivial
  | _ :: l => ⟨trivial, okAll_text l⟩
theorem vC_ok (hTT : TOk P TT) : ∀ {c : Code} {kn kr : St → Prop} {kx : Nat → St → Prop} {s : St}, vC P F TT X c kn kr kx s → Cd P F c s (mkQ kn kr kx) := by
  intro c
  induction c with
  | skip => intro kn kr kx s h; exact Cd.skip h
  | region id ops draw =>
    intro kn kr kx s h
    cases draw with
    | false =>
      have h2 := vL_ok (r := ⟨ops, none⟩) hTT (okAll_text ops.toList) (by simp) h
      have e : (ops.toList.map fun o => (o, Md.L)).map Prod.fst = ops.toList := by simp [Function.comp_def]
      rw [e] at h2
      have e2 : ops.toList.toArray = ops := by simp
      have h3 := Cd.region (id := id) (l := ops.toList) (Q := mkQ kn kr kx) (by rw [e2]; exact h2)
      rw [e2] at h3
      exact h3
    | true =>
      have h2 : DrawG P F TT X id ops.toList s kn := h
      have h3 := h2.h
      simp only [Array.toArray_toList] at h3
      exact h3.mono fun e s hq => by cases e <;> first | exact hq | exact hq.elim
  | seq a b iha ihb =>
    intro kn kr kx s h
    refine Cd.seq ((iha h).mono fun e s hq => ?_)
    cases e with
    | normal => exact ihb hq
    | _ => exact hq
  | cond c x y ihx ihy =>
    intro kn kr kx s h
    simp only [vC] at h
    split at h
    · rename_i b hb
      exact Cd.cond hb (fun e => ihx (h.t e)) (fun e => ihy (h.f e))
    · cases h
  | block id c ih =>
    intro kn kr kx s h
    refine Cd.block ((ih h).mono fun e s hq => ?_)
    cases e with
    | exit i =>
      simp only [mkQ] at hq
      simp only [blk]
      split at hq
      · rename_i hb; rw [if_pos (Nat.eq_of_beq_eq_true hb)]; exact hq
      · rename_i hb; rw [if_neg (beq_ne hb)]; exact hq
    | _ => exact hq
  | loop c ih =>
    intro kn kr kx s h
    have h2 : LoopG P F TT X c kr kx s := h
    exact h2.h.mono fun e s hq => by cases e <;> first | exact hq | exact hq.elim
  | exit id => intro kn kr kx s h; exact Cd.exit h
  | ret => intro kn kr kx s h; exact Cd.ret h
  | _ => intro kn kr kx s h; exact (show False from h).elim
theorem draw_g {id : Nat} {ops : List Oper} (plan : List (List Nat)) (hTT : TOk P TT) (hm : P.follows .mixedOrders = true) (hc : chkR X ops (Rg.begin ops.toArray plan) plan.flatten = true) (h : vL P F TT X ops (plan.flatten.map fun i => (nthO ops i, kind X (nthO ops i))) s K) : DrawG P F TT X id ops s K := by
  refine ⟨?_⟩
  intro cx a w hi
  have hi' : Inv F cx s a { w with drawn := w.drawn + 1 } := ⟨hi.W.grow fun _ _ => rfl, hi.nd, hi.sz, hi.tm, hi.kp.drew, hi.rho, hi.new, hi.obp, hi.obB, hi.bbB⟩
  have hle : plan.flatten.length ≤ ops.length := by
    have key : ∀ (is : List Nat) (r : Rg), chkR X ops r is = true → ∀ d, r.dr = some d → d.listed.size = ops.length → is.length + d.listed.toList.count true ≤ ops.length := by
      intro is
      induction is with
      | nil =>
        intro r hr d hd hs
        have := List.count_le_length (a := true) (l := d.listed.toList)
        simp at this ⊢; omega
      | cons i is ih =>
        intro r hr d hd hs
        obtain ⟨arr, dr⟩ := r
        obtain rfl : dr = some d := hd
        obtain ⟨pl, listed⟩ := d
        simp only [chkR, Bool.and_eq_true] at hr
        obtain ⟨⟨⟨h1, h2⟩, h3⟩, h4⟩ := hr
        have h1 : hdI ⟨arr, some ⟨pl, listed⟩⟩ = some i := by simpa using h1
        have hun : i ∈ Region.ready .any arr listed ∧ (Dr.next ⟨pl, listed⟩).listed = listed.setIfInBounds i true := by
          simp only [hdI] at h1
          split at h1
          · rename_i j is' r' hp
            cases h1
            refine ⟨?_, rfl⟩
            generalize kind X (nthO ops i) = md at h3
            cases md <;> simp only [okB] at h3
            · simp only [chkS, Bool.and_eq_true] at h3
              simpa using h3.1.1.2
            · rw [sole_ok h3]; simp
            · cases h3
          · rename_i j is' r' hp
            cases h1
            refine ⟨?_, rfl⟩
            generalize kind X (nthO ops i) = md at h3
            cases md <;> simp only [okB] at h3
            · cases h3
            · cases h3
            · rw [sole_ok h3]; simp
          · cases h1
        obtain ⟨hr1, hr2⟩ := hun
        have hg := (mem_ready.1 hr1).1
        have hi2 : i < listed.size := by
          rcases Nat.lt_or_ge i listed.size with h' | h'
          · exact h'
          · simp [Array.getElem?_eq_none h'] at hg
        have h5 := ih ⟨arr, some (Dr.next ⟨pl, listed⟩)⟩ h4 _ rfl (by rw [hr2]; simpa using hs)
        rw [hr2] at h5
        have h6 : listed[i] = false := by simpa [hi2] using hg
        have h7 : (listed.setIfInBounds i true).toList.count true = listed.toList.count true + 1 := by
          rw [Array.toList_setIfInBounds, List.count_set (by simpa using hi2)]
          simp [h6]
        rw [h7] at h5
        simp only [List.length_cons]
        omega
    have h8 := key _ _ hc ⟨plan, Array.replicate ops.length false⟩ (by simp [Rg.begin]) (by simp)
    omega
  have h0 := vL_ok (r := Rg.begin ops.toArray plan) hTT (chkR_ok rfl hc) rfl h
  have h1 := h0 (fun e a w => e = .normal ∧ ∃ cx' s', Inv F cx' s' a w ∧ K s') cx a _ hi' (fun c' s' a' w' hi' hk => ⟨rfl, c', s', hi', hk⟩) (fun cc a w hq => by cases hq.1) ops.toArray.size (by simpa [Rg.begin, Dr.left, List.length_flatten] using hle)
  refine wp_mono (wp_region_any hm (wpAnyE.any _ _ _ _ h1)) ?_
  rintro e a' w' ⟨rfl, cx', s', hi'', hq⟩
  exact ⟨cx', s', hi'', hq⟩

/-! ### loops -/
def tab (l : List (Nat × PV)) (x : Nat) : PV := match l with
  | [] => .any
  | y :: l => match y with
    | (d, p) => match Nat.beq x d with
      | true => p
      | false => tab l x
/-- A state holds at least this. -/
structure Weak (s : St) (N : Nat) (S : List (Nat × PV)) (B : List (List PV)) (O : List (Option Row)) : Prop where
  n : s.n = N
  h : hold S s.t
  b : ∃ e, s.bx = B ++ e
  o : ∃ e, s.ob = O ++ e
theorem hold_get {S : List (Nat × PV)} {t : Nat → PV} (h : hold S t) (x : Nat) : tab S x = t x ∨ tab S x = .any := by
  induction S with
  | nil => exact .inr rfl
  | cons y S ih =>
    obtain ⟨d, p⟩ := y
    obtain ⟨h1, h2⟩ := h
    simp only [tab]
    cases hb : Nat.beq x d with
    | true => have := Nat.eq_of_beq_eq_true hb; subst this; exact .inl h1.symm
    | false => exact ih h2
mutual
/-- What points into boxes or rows that are there. -/
def inB (b o : Nat) : PV → Prop
  | .ptr i _ => i < b
  | .arr q _ _ => q < o
  | .ead q _ => q < o
  | .agg l => inBL b o l
  | .tup l => inBL b o l
  | _ => True
def inBL (b o : Nat) : List PV → Prop
  | [] => True
  | p :: l => inB b o p ∧ inBL b o l
end
theorem getElem?_app {α : Type} {l e : List α} {i : Nat} (h : i < l.length) : (l ++ e)[i]? = l[i]? := List.getElem?_append_left h
mutual
theorem Rep.cutC {c : Cx} {b o : Nat} : ∀ {p : PV} {v : Value}, Rep c p v → inB b o p → Rep ⟨c.ρ, c.bb.take b, c.ob.take o⟩ p v
  | _, _, .val v, _ => .val v
  | _, _, .nil, _ => .nil
  | _, _, .ws h1 h2 h4, _ => .ws h1 h2 h4
  | _, _, .sl h0 h1 h2 h3 h4, _ => .sl h0 h1 h2 h3 h4
  | _, _, .fs h0 h1 h2 h3 h4, _ => .fs h0 h1 h2 h3 h4
  | _, _, .cw h0 h4, _ => .cw h0 h4
  | _, _, .cf h1 h3 h4, _ => .cf h1 h3 h4
  | _, _, .emp, _ => .emp
  | _, _, .cel h3 h4, _ => .cel h3 h4
  | _, _, .any v, _ => .any v
  | _, _, .agg h, k => .agg (RepL.cutC h (by simpa [inB] using k))
  | _, _, .tup h, k => .tup (RepL.cutC h (by simpa [inB] using k))
  | _, _, .ptr (b := i) h, k => .ptr (by simp only [inB] at k; rw [List.getElem?_take, if_pos k]; exact h)
  | _, _, .arr (o := i) h h0 h2 h3 h4, k => .arr (by simp only [inB] at k; rw [List.getElem?_take, if_pos k]; exact h) h0 h2 h3 h4
  | _, _, .ead (o := i) h, k => .ead (by simp only [inB] at k; rw [List.getElem?_take, if_pos k]; exact h)
theorem RepL.cutC {c : Cx} {b o : Nat} : ∀ {l : List PV} {us : List Value}, RepL c l us → inBL b o l → RepL ⟨c.ρ, c.bb.take b, c.ob.take o⟩ l us
  | _, _, .nil, _ => .nil
  | _, _, .cons h t, k => .cons (Rep.cutC h k.1) (RepL.cutC t k.2)
end
def inS (b o : Nat) : List (Nat × PV) → Prop
  | [] => True
  | (_, p) :: S => inB b o p ∧ inS b o S
def inBB (b o : Nat) : List (List PV) → Prop
  | [] => True
  | l :: B => inBL b o l ∧ inBB b o B
theorem inBB_get {b o : Nat} : ∀ {B : List (List PV)} {i : Nat} {l : List PV}, inBB b o B → B[i]? = some l → inBL b o l
  | [], i, l, _, h => by simp at h
  | m :: B, 0, l, k, h => by simp at h; subst h; exact k.1
  | m :: B, i + 1, l, k, h => inBB_get k.2 (by simpa using h)
theorem inS_get {b o : Nat} : ∀ {S : List (Nat × PV)} (x : Nat), inS b o S → inB b o (tab S x)
  | [], x, _ => by simp [tab, inB]
  | (d, p) :: S, x, k => by
    simp only [tab]
    cases Nat.beq x d with
    | true => exact k.1
    | false => exact inS_get x k.2
theorem Inv.weak {c : Cx} {a : Act} {w : World} {N : Nat} {S : List (Nat × PV)} {B : List (List PV)} {O : List (Option Row)} (hi : Inv F c s a w) (hw : Weak s N S B O) (h1 : inS B.length O.length S) (h2 : inBB B.length O.length B) (h0 : F.c0.ob.length ≤ O.length) :
    Inv F ⟨c.ρ, c.bb.take B.length, c.ob.take O.length⟩ ⟨N, tab S, B, O⟩ a w := by
  obtain ⟨hn, hh, ⟨e1, hb⟩, ⟨e2, ho⟩⟩ := hw
  have gb : ∀ {i g : Nat}, (c.bb.take B.length)[i]? = some g → i < B.length ∧ c.bb[i]? = some g := by
    intro i g h
    rw [List.getElem?_take] at h
    split at h
    · rename_i hlt; exact ⟨hlt, h⟩
    · cases h
  have go : ∀ {i : Nat} {x : Ob}, (c.ob.take O.length)[i]? = some x → i < O.length ∧ c.ob[i]? = some x := by
    intro i x h
    rw [List.getElem?_take] at h
    split at h
    · rename_i hlt; exact ⟨hlt, h⟩
    · cases h
  have so : ∀ {i : Nat} {r : Option Row}, O[i]? = some r → s.ob[i]? = some r := fun h => by rw [ho, getElem?_app (List.getElem?_eq_some_iff.1 h).1]; exact h
  have sb : ∀ {i : Nat} {l : List PV}, B[i]? = some l → s.bx[i]? = some l := fun h => by rw [hb, getElem?_app (List.getElem?_eq_some_iff.1 h).1]; exact h
  have hbl := hi.W.bl
  have hol := hi.W.ol
  rw [hb] at hbl; rw [ho] at hol
  simp only [List.length_append] at hbl hol
  refine ⟨⟨hi.W.mem, by simp; omega, by simp; omega, fun i l hl => ?_, fun i r hr => ?_, fun i j g a b => hi.W.nb i j g (gb a).2 (gb b).2, fun i j x y l m hl hm hx hy e => hi.W.no i j x y l m (so hl) (so hm) (go hx).2 (go hy).2 e, fun i x l hl hx hm => hi.W.nbo i x l (so hl) (go hx).2 (List.mem_of_mem_take hm), fun ad u hu hm => hi.W.sb ad u hu (List.mem_of_mem_take hm), fun ad u i x l hu hl hx => hi.W.so ad u i x l hu (so hl) (go hx).2⟩, hi.nd, by rw [← hn]; exact hi.sz, fun x => ?_, hi.kp, hi.rho, hi.new, fun i x hx => ?_, fun i x hl hx => hi.obB i x hl (go hx).2, fun g hg => hi.bbB g (List.mem_of_mem_take hg)⟩
  · obtain ⟨g, us, T, a1, a2, a3⟩ := hi.W.box i l (sb hl)
    have hlt := (List.getElem?_eq_some_iff.1 hl).1
    exact ⟨g, us, T, by rw [List.getElem?_take, if_pos hlt]; exact a1, a2, a3.cutC (inBB_get h2 hl)⟩
  · obtain ⟨x, us, a1, a2⟩ := hi.W.obj i r (so hr)
    have hlt := (List.getElem?_eq_some_iff.1 hr).1
    exact ⟨x, us, by rw [List.getElem?_take, if_pos hlt]; exact a1, a2⟩
  · show Rep _ (tab S x) _
    rcases hold_get hh x with h | h
    · have := inS_get x h1
      rw [h] at this ⊢
      exact (hi.tm x).cutC this
    · rw [h]; exact .any _
  · have := (List.getElem?_eq_some_iff.1 hx).1
    have h3 := hi.obp i x hx
    rw [List.getElem?_take, if_pos (by omega)]
    exact h3
/-- A round is over. -/
structure Again {A : Type} (I : A → Prop) (μ : A → Nat) (N : Nat) (S : A → List (Nat × PV)) (B : A → List (List PV)) (O : A → List (Option Row)) (n : Nat) (s : St) : Prop where
  h : ∃ y, I y ∧ μ y < n ∧ Weak s N (S y) (B y) (O y)
theorem again {A : Type} {I : A → Prop} {μ : A → Nat} {N n : Nat} {S : A → List (Nat × PV)} {B : A → List (List PV)} {O : A → List (Option Row)} {t : Nat → PV} {bx : List (List PV)} {ob : List (Option Row)} (y : A) (h1 : I y) (h2 : μ y < n) (h3 : hold (S y) t) (hb : ∃ e, bx = B y ++ e) (ho : ∃ e, ob = O y ++ e) : Again I μ N S B O n ⟨N, t, bx, ob⟩ :=
  ⟨y, h1, h2, ⟨rfl, h3, hb, ho⟩⟩
theorem loop_g {A : Type} {c : Code} {kr : St → Prop} {kx : Nat → St → Prop} {N : Nat} {t : Nat → PV} {bx : List (List PV)} {ob : List (Option Row)} (I : A → Prop) (μ : A → Nat) (S : A → List (Nat × PV)) (B : A → List (List PV)) (O : A → List (Option Row)) (x0 : A) (hTT : TOk P TT) (hin : ∀ x, inS (B x).length (O x).length (S x) ∧ inBB (B x).length (O x).length (B x) ∧ F.c0.ob.length ≤ (O x).length)
    (h0 : I x0) (ht : hold (S x0) t) (hb : ∃ e, bx = B x0 ++ e) (ho : ∃ e, ob = O x0 ++ e) (round : ∀ x, I x → vC P F TT X c (Again I μ N S B O (μ x)) kr kx ⟨N, tab (S x), B x, O x⟩) : LoopG P F TT X c kr kx ⟨N, t, bx, ob⟩ := by
  refine ⟨?_⟩
  intro cx a w hi
  refine wp_loop_ghost (fun n a w => ∃ cx x, Inv F cx ⟨N, tab (S x), B x, O x⟩ a w ∧ I x ∧ μ x = n) (μ x0) ⟨_, x0, hi.weak ⟨rfl, ht, hb, ho⟩ (hin x0).1 (hin x0).2.1 (hin x0).2.2, h0, rfl⟩ ?_
  rintro n a w ⟨cx, x, hi, hI, rfl⟩
  refine wp_mono (vC_ok hTT (round x hI) cx a w hi) ?_
  rintro e a' w' ⟨cx', s', hi', hq⟩
  cases e with
  | normal =>
    obtain ⟨y, h1, h2, h3⟩ := (show Again I μ N S B O (μ x) s' from hq).h
    exact ⟨μ y, h2, _, y, hi'.weak h3 (hin y).1 (hin y).2.1 (hin y).2.2, h1, rfl⟩
  | ret => exact ⟨cx', s', hi', hq⟩
  | exit i => exact ⟨cx', s', hi', hq⟩
  | _ => exact (show False from hq).elim
theorem lg {c : Code} {kr : St → Prop} {kx : Nat → St → Prop} (h : LoopG P F TT X c kr kx s) : LoopG P F TT X c kr kx s := h
theorem cg {e : Bool} {f : FuncId} {l : List PV} {K : St → PV → Prop} (h : CallF P F e f l s K) : CallF P F e f l s K := h
/-- A loop walked round by round. -/
def vR (P : Program) (F : Fr) (TT : List TI) (X : List FuncId) (c : Code) (kr : St → Prop) (kx : Nat → St → Prop) : Nat → St → Prop
  | 0, _ => False
  | n + 1, s => vC P F TT X c (vR P F TT X c kr kx n) kr kx s
theorem rounds_g {c : Code} {kr : St → Prop} {kx : Nat → St → Prop} (n : Nat) (hTT : TOk P TT) (h : vR P F TT X c kr kx n s) : LoopG P F TT X c kr kx s := by
  refine ⟨Cd.rounds n ?_⟩
  have key : ∀ n s, vR P F TT X c kr kx n s → Rounds P F c (mkQ (fun _ => False) kr kx) n s := by
    intro n
    induction n with
    | zero => intro s h; exact h
    | succ n ih =>
      intro s h
      refine (vC_ok hTT h).mono fun e s' hq => ?_
      cases e with
      | normal => exact ih s' hq
      | _ => exact hq
  exact key n s h

/-! ### the end -/
def vRes (TT : List TI) (s : St) (rs : List ResultVar) (k : List PV → Prop) : Prop := match rs with
  | [] => k []
  | r :: rs => match r with
    | .tmp t => fo (s.t t) fun p => vRes TT s rs fun l => k (p :: l)
    | .cell x T => match tlook TT T with
      | some ti => match s.t x with
        | .ptr b n => match lget s.bx b with
          | some l => vCells ti l n fun p => vRes TT s rs fun l => k (p :: l)
          | none => False
        | _ => False
      | none => False
theorem vRes_ok (hTT : TOk P TT) : ∀ {rs : List ResultVar} {k : List PV → Prop}, vRes TT s rs k → ∃ l, rs.mapM (resOne P s) = some l ∧ k l
  | [], k, h => ⟨[], rfl, h⟩
  | r :: rs, k, h => by
    simp only [vRes] at h
    split at h
    · rename_i t
      obtain ⟨l, h1, h2⟩ := vRes_ok hTT (fo_eq h)
      exact ⟨s.t t :: l, by rw [List.mapM_cons]; simp [resOne, h1], h2⟩
    · rename_i x T
      split at h
      · rename_i ti hti
        obtain ⟨t1, t2⟩ := tlook_ok hTT hti
        subst t2
        split at h
        · rename_i b n hx
          split at h
          · rename_i l hl
            rw [lget_eq] at hl
            have hc : cells s (s.t x) = some (l.drop n) := by rw [hx]; simp [cells, hl]
            unfold vCells at h
            split at h
            · rename_i ha
              split at h
              · rename_i p hp
                rw [lget_eq] at hp
                obtain ⟨l', h1, h2⟩ := vRes_ok hTT (fo_eq h)
                refine ⟨p :: l', ?_, h2⟩
                rw [List.mapM_cons]
                have : resOne P s (.cell x ti.t) = some p := by
                  simp only [resOne, hc, t1.agg, ha]
                  rw [List.getElem?_drop]; simpa using hp
                simp [this, h1]
              · cases h
            · rename_i ha
              obtain ⟨hle, h⟩ := takeG_eq h
              obtain ⟨l', h1, h2⟩ := vRes_ok hTT h
              refine ⟨_ :: l', ?_, h2⟩
              rw [List.mapM_cons]
              have : resOne P s (.cell x ti.t) = some (.agg ((l.drop n).take ti.sz)) := by
                simp only [resOne, hc, t1.agg, ha, t1.sz]
                rw [if_pos hle]
              simp [this, h1]
          · cases h
        · cases h
      · cases h
/-- A row of one's own that is answered. -/
structure FzG (A : List Int) (b n : Nat) (K : List Int → Prop) : Prop where
  c : b + n ≤ A.length
  h : K ((A.drop b).take n)
theorem fz_all {A : List Int} {n : Nat} {K : List Int → Prop} (h : n = A.length) (k : K A) : FzG A 0 n K := ⟨by omega, by subst h; simpa using k⟩
theorem fz_g {A B : List Int} {b n : Nat} {K : List Int → Prop} (h : b + n ≤ A.length) (e : (A.drop b).take n = B) (k : K B) : FzG A b n K := ⟨h, by rw [e]; exact k⟩
mutual
def fzG (ob : List (Option Row)) (p : PV) (k : PV → Prop) : Prop := match p with
  | .arr q b n => match lget ob q with
    | some (some ⟨z, T, .w kk A⟩) => match Nat.beq z 1 with
      | true => FzG A b n fun B => k (.ws kk B)
      | false => False
    | _ => False
  | .agg l => fzL ob l fun l => k (.agg l)
  | .tup l => fzL ob l fun l => k (.tup l)
  | .ptr _ _ => False
  | .ead _ _ => False
  | .val v => k (.val v)
  | .nil => k .nil
  | .ws a b => k (.ws a b)
  | .sl a b => k (.sl a b)
  | .fs a b c => k (.fs a b c)
  | .cel l => k (.cel l)
  | .cw a b c => k (.cw a b c)
  | .cf a b c => k (.cf a b c)
  | .emp => k .emp
  | .any => k .any
def fzL (ob : List (Option Row)) (l : List PV) (k : List PV → Prop) : Prop := match l with
  | [] => k []
  | p :: l => fzG ob p fun p => fzL ob l fun l => k (p :: l)
end
/-- What is frozen once a function has answered: its rows too. -/
theorem Inv.fz {c : Cx} {a : Act} {w : World} (hi : Inv F c s a w) (h0 : F.c0.ob = []) : ∃ ρ' : Addr → Option Value, (∀ ad u, c.ρ ad = some u → ρ' ad = some u) ∧ (∀ ad u, ρ' ad = some u → w.cell? ad = some u) ∧ (∀ ad u, ρ' ad = some u → F.c0.ρ ad = some u ∨ F.w0.heap.size ≤ ad.block) ∧
    (∀ (i : Nat) (r : Row) (x : Ob), s.ob[i]? = some (some r) → c.ob[i]? = some x → ∀ off u, w.cell? ⟨x.g, off, none⟩ = some u → ρ' ⟨x.g, off, none⟩ = some u) := by
  classical
  refine ⟨fun ad => if (∃ (i : Nat) (r : Row) (x : Ob), s.ob[i]? = some (some r) ∧ c.ob[i]? = some x ∧ ad.block = x.g) then w.cell? ad else c.ρ ad, fun ad u hu => ?_, fun ad u hu => ?_, fun ad u hu => ?_, fun i r x hr hx off u hu => ?_⟩
  · show (if _ then _ else _) = _
    split
    · exact hi.W.mem ad u hu
    · exact hu
  · replace hu : (if _ then _ else _) = _ := hu
    split at hu
    · exact hu
    · exact hi.W.mem ad u hu
  · replace hu : (if _ then _ else _) = _ := hu
    split at hu
    · rename_i hh
      obtain ⟨i, r, x, h1, h2, h3⟩ := hh
      exact .inr (by rw [h3]; exact hi.obB i x (by rw [h0]; exact Nat.zero_le _) h2)
    · exact hi.new ad u hu
  · show (if _ then _ else _) = _
    rw [if_pos ⟨i, r, x, hr, hx, rfl⟩]; exact hu
theorem Rep.up0 {c : Cx} {ρ' : Addr → Option Value} {v : Value} (hr : Rep c.strip p v) (hρ : ∀ ad u, c.ρ ad = some u → ρ' ad = some u) : Rep ⟨ρ', [], []⟩ p v :=
  Rep.up (c := c.strip) (c' := ⟨ρ', [], []⟩) ⟨hρ, fun _ _ h => by simp [Cx.strip] at h, fun _ _ h => by simp [Cx.strip] at h⟩ hr
mutual
theorem fzG_ok {c : Cx} {a : Act} {w : World} (hi : Inv F c s a w) {ρ' : Addr → Option Value} (hρ : ∀ ad u, c.ρ ad = some u → ρ' ad = some u) (hz : ∀ (i : Nat) (r : Row) (x : Ob), s.ob[i]? = some (some r) → c.ob[i]? = some x → ∀ off u, w.cell? ⟨x.g, off, none⟩ = some u → ρ' ⟨x.g, off, none⟩ = some u) :
    ∀ {p : PV} {v : Value} {k : PV → Prop}, Rep c p v → fzG s.ob p k → ∃ p', Rep ⟨ρ', [], []⟩ p' v ∧ k p'
  | .arr q b n, v, k, hr, h => by
    simp only [fzG] at h
    split at h
    · rename_i z T kk A hl
      rw [lget_eq] at hl
      split at h
      · rename_i hb
        obtain rfl := Nat.eq_of_beq_eq_true hb
        refine ⟨_, ?_, h.h⟩
        have hc := h.c
        obtain ⟨x, us, a1, a2, a3, a4, a5, a6, a7⟩ := hi.W.obj q _ hl
        rw [cs_w] at a6 a7
        simp only [List.length_map] at a6 a7
        have hus := wv_repL_eq a7
        cases hr with
        | @arr _ _ _ _ cap X ad k1 k2 k3 k4 k5 =>
          rw [a1] at k1; cases k1
          have hsz : x.sz = 1 := a2
          refine .ws (by simp; omega) k3 fun j y hj => ?_
          rw [List.getElem?_take] at hj
          split at hj
          · rename_i hj2
            rw [List.getElem?_drop] at hj
            refine ⟨ad, rfl, ?_⟩
            rw [k4 (by omega), hsz, Nat.mul_one, addr_add]
            refine hz q _ x hl a1 _ _ ?_
            have h1 : (us.take A.length)[b + j]? = some (.int kk y) := by rw [hus, List.getElem?_map, hj]; rfl
            rw [List.getElem?_take] at h1
            split at h1
            · simpa [World.cell?, a5] using h1
            · cases h1
          · cases hj
      · cases h
    · cases h
  | .agg l, v, k, hr, h => by
    cases hr with
    | agg hr =>
      obtain ⟨l', h1, h2⟩ := fzL_ok hi hρ hz hr (by simpa [fzG] using h)
      exact ⟨_, .agg h1, h2⟩
  | .tup l, v, k, hr, h => by
    cases hr with
    | tup hr =>
      obtain ⟨l', h1, h2⟩ := fzL_ok hi hρ hz hr (by simpa [fzG] using h)
      exact ⟨_, .tup h1, h2⟩
  | .ptr _ _, v, k, hr, h => by simp [fzG] at h
  | .ead _ _, v, k, hr, h => by simp [fzG] at h
  | .val _, v, k, hr, h => ⟨_, (hr.bare rfl).up0 hρ, by simpa [fzG] using h⟩
  | .nil, v, k, hr, h => ⟨_, (hr.bare rfl).up0 hρ, by simpa [fzG] using h⟩
  | .ws _ _, v, k, hr, h => ⟨_, (hr.bare rfl).up0 hρ, by simpa [fzG] using h⟩
  | .sl _ _, v, k, hr, h => ⟨_, (hr.bare rfl).up0 hρ, by simpa [fzG] using h⟩
  | .fs _ _ _, v, k, hr, h => ⟨_, (hr.bare rfl).up0 hρ, by simpa [fzG] using h⟩
  | .cel _, v, k, hr, h => ⟨_, (hr.bare rfl).up0 hρ, by simpa [fzG] using h⟩
  | .cw _ _ _, v, k, hr, h => ⟨_, (hr.bare rfl).up0 hρ, by simpa [fzG] using h⟩
  | .cf _ _ _, v, k, hr, h => ⟨_, (hr.bare rfl).up0 hρ, by simpa [fzG] using h⟩
  | .emp, v, k, hr, h => ⟨_, (hr.bare rfl).up0 hρ, by simpa [fzG] using h⟩
  | .any, v, k, hr, h => ⟨_, (hr.bare rfl).up0 hρ, by simpa [fzG] using h⟩
theorem fzL_ok {c : Cx} {a : Act} {w : World} (hi : Inv F c s a w) {ρ' : Addr → Option Value} (hρ : ∀ ad u, c.ρ ad = some u → ρ' ad = some u) (hz : ∀ (i : Nat) (r : Row) (x : Ob), s.ob[i]? = some (some r) → c.ob[i]? = some x → ∀ off u, w.cell? ⟨x.g, off, none⟩ = some u → ρ' ⟨x.g, off, none⟩ = some u) :
    ∀ {l : List PV} {us : List Value} {k : List PV → Prop}, RepL c l us → fzL s.ob l k → ∃ l', RepL ⟨ρ', [], []⟩ l' us ∧ k l'
  | [], us, k, hr, h => by cases hr; exact ⟨[], .nil, by simpa [fzL] using h⟩
  | p :: l, us, k, hr, h => by
    cases hr with
    | cons hr ht =>
      obtain ⟨p', h1, h2⟩ := fzG_ok hi hρ hz hr (by simpa only [fzL] using h)
      obtain ⟨l', h3, h4⟩ := fzL_ok hi hρ hz ht h2
      exact ⟨p' :: l', .cons h1 h3, h4⟩
end
def tupG (l : List PV) (k : PV → Prop) : Prop := match l with
  | [p] => k p
  | l => k (.tup l)
def vEnd (TT : List TI) (rs : List ResultVar) (Q : PV → Prop) (s : St) : Prop := vRes TT s rs fun l => tupG l fun p => fzG s.ob p fun r => RetE Q r
theorem FC.intro {G : List (Nat × List Value)} {f : FuncId} {fn : Func} {cd : Code} {args : List PV} {Q : PV → Prop} {N : Nat} {rs : List ResultVar} (hTT : TOk P TT) (hf : P.funcs[f]? = some fn) (hb : fn.body = some cd) (hN : fn.ntmps = N) (hrs : fn.results.toList = rs) (hc : callable P f = true) (hn : Nat.ble args.length N = true)
    (h : ∀ F : Fr, F.G = G → F.c0.ob.length = 0 → vC P F TT X cd (vEnd TT rs Q) (vEnd TT rs Q) (fun _ _ => False) ⟨N, argT args, [], []⟩) : FC P G f args Q := by
  refine ⟨hc, ?_⟩
  subst hN; subst hrs
  intro ρ w vs hG hm hr
  have hn := Nat.le_of_ble_eq_true hn
  have hl := hr.len
  refine calls_of_wp hf hb ?_
  have hi : Inv ⟨G, ⟨ρ, [], []⟩, w, hG⟩ ⟨ρ, [], []⟩ ⟨fn.ntmps, argT args, [], []⟩ { tmps := vs.toArray ++ Array.replicate (fn.ntmps - vs.toArray.size) undef, defers := [] } w := by
    refine ⟨⟨hm, rfl, rfl, fun i l hi => by simp at hi, fun i r hi => by simp at hi, fun i j g hi => by simp at hi, fun i j x y l m hi => by simp at hi, fun i x l hi => by simp at hi, fun ad u _ => by simp, fun ad u i x l _ hi => by simp at hi⟩, rfl, by simp; omega, fun t => ?_, Kp.refl _ _ _, fun _ _ h => h, fun _ _ h => .inl h, fun _ _ h => by simp at h, fun _ _ _ h => by simp at h, fun g hg => by simp at hg⟩
    show Rep _ (argT args t) _
    rw [argT_get]
    rcases Nat.lt_or_ge t args.length with ht | ht
    · have h1 := List.getElem?_eq_getElem ht
      obtain ⟨u, hu, hr'⟩ := hr.get h1
      have h2 : (vs.toArray ++ Array.replicate (fn.ntmps - vs.toArray.size) undef).getD t undef = u := by
        rw [Array.getD_eq_getD_getElem?, Array.getElem?_append_left (by simp; omega)]
        simp [hu]
      rw [h2, List.getD_eq_getElem?_getD, h1]
      exact hr'
    · have h2 : (vs.toArray ++ Array.replicate (fn.ntmps - vs.toArray.size) undef).getD t undef = undef := by
        rw [Array.getD_eq_getD_getElem?, Array.getElem?_append_right (by simp; omega)]
        simp only [Array.getElem?_replicate]
        split <;> rfl
      rw [h2, List.getD_eq_getElem?_getD, List.getElem?_eq_none ht]
      exact .val _
  refine wp_mono (vC_ok hTT (h _ rfl rfl) _ _ _ hi) ?_
  rintro e a' w' ⟨cx', s', hi', hq⟩
  have fin : vEnd TT fn.results.toList Q s' → a'.defers = [] ∧ ∃ v, (results fn a'.tmps).run P w' = .ok v w' ∧
      ∃ v_1 r_1 ρ', Ending.returned v = .returned v_1 ∧ Q r_1 ∧ (∀ ad u, ρ ad = some u → ρ' ad = some u) ∧ (∀ ad u, ρ' ad = some u → w'.cell? ad = some u) ∧ Rep ⟨ρ', [], []⟩ r_1 v_1 ∧ Below w.heap.size w w' ∧ ∀ ad u, ρ' ad = some u → ρ ad = some u ∨ w.heap.size ≤ ad.block := by
    intro hv
    obtain ⟨l, h1, h2⟩ := vRes_ok hTT hv
    obtain ⟨r, hr1, hr2⟩ : ∃ r, resPV P fn.results.toList s' = some r ∧ fzG s'.ob r (fun r => RetE Q r) := by
      unfold tupG at h2
      unfold resPV
      rw [h1]
      match l, h2 with
      | [], h2 => exact ⟨_, rfl, h2⟩
      | [p], h2 => exact ⟨_, rfl, h2⟩
      | _ :: _ :: _, h2 => exact ⟨_, rfl, h2⟩
    obtain ⟨v, hrep, hrun⟩ := results_ok hi' hr1
    obtain ⟨ρ', e1, e2, e3, e4⟩ := hi'.fz rfl
    obtain ⟨r', g1, g2⟩ := fzG_ok hi' e1 e4 hrep hr2
    obtain ⟨r'', g3, g4⟩ := g2.h
    exact ⟨hi'.nd, v, hrun, v, r'', ρ', rfl, g4, fun ad u hu => e1 _ _ (hi'.rho ad u hu), e2, g3.rep g1, hi'.kp.below, e3⟩
  cases e with
  | normal => exact fin hq
  | ret => exact fin hq
  | _ => exact (show False from hq).elim
end
end Go.Proofs.YtlbnlalkimnhdaaDoor.Sim
