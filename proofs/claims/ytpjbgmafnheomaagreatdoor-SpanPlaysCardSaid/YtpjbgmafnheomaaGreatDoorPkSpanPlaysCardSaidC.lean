/-
  Lemmas of SpanPlaysCardSaid, part 3.
-/
import Derived.Test.YtpjbgmafnheomaaGreatDoorPkSpanPlaysCardSaidB
import Derived.Laws.CopyRow
import Derived.Laws.Slices
import Derived.Laws.Cells
import Derived.Laws.BitsLemmas
import Derived.Tactics
import Derived.ChangeKeysEq
namespace Go.Proofs.YtpjbgmafnheomaaGreatDoor.Sim
open Go.RowKit
set_option linter.unusedVariables false
set_option linter.unusedSimpArgs false
def pcon : Value → PV
  | .slice none 0 0 => .nil
  | v => .val v
theorem pcon_rep (c : Cx) (v : Value) : Rep c (pcon v) v := by
  unfold pcon
  split
  · exact .nil
  · exact .val _
def pev (s : St) : Operand → PV
  | .tmp t => s.t t
  | .const v => pcon v
  | .global g => .val (.pointer (some ⟨g, 0, none⟩))
  | .func f => .val (.func (.func f) #[] #[])
section
variable {P : Program} {F : Fr}
theorem pev_rep {c : Cx} {s : St} {a : Act} {w : World} (h : Inv F c s a w) (x : Operand) : Rep c (pev s x) (a.eval x) := by
  cases x with
  | tmp t => exact h.tm t
  | const v => exact pcon_rep c v
  | global g => exact .val _
  | func f => exact .val _
theorem pev_val {c : Cx} {s : St} {a : Act} {w : World} (h : Inv F c s a w) {x : Operand} {v : Value} (hx : pev s x = .val v) : a.eval x = v := by
  have := pev_rep h x
  rw [hx] at this
  cases this; rfl
def Still (P : Program) (F : Fr) (o : Oper) (s : St) (p : PV) : Prop :=
  ∀ c a w, Inv F c s a w → ∃ v, Rep c p v ∧ ∀ w', (Ext w w' ∨ pureO o = true) → (execOp a.eval o).run P w' = .ok (.value v) w'
def Does (P : Program) (F : Fr) (o : Oper) (e : Bool) (s : St) (K : St → Prop) : Prop :=
  ∀ Q c a w, Inv F c s a w → o.wp P a w (fun a' w' => ∃ c' s', Inv F c' s' a' w' ∧ K s' ∧ (e = true → Ext w w')) Q
theorem Still.does {o : Oper} {s : St} {p : PV} {K : St → Prop} (h : Still P F o s p) (hd : s.fits o.dst = true) (k : K (s.put o.dst p)) : Does P F o true s K := by
  intro Q c a w hi
  obtain ⟨v, hr, hrun⟩ := h c a w hi
  unfold Oper.wp
  rw [hrun w (.inl (Ext.refl w))]
  exact ⟨c, _, hi.put hd hr, k, fun _ => Ext.refl w⟩
def Ops (P : Program) (F : Fr) (rg : Rg) (l : List Oper) (s : St) (K : St → Prop) : Prop := match rg.dr with
  | none => ∀ Q c a w, Inv F c s a w → (∀ c' s' a' w', Inv F c' s' a' w' → K s' → Q .normal a' w') → wpList P rg.ops Q l a w
  | some d => ∀ Q c a w, Inv F c s a w → (∀ c' s' a' w', Inv F c' s' a' w' → K s' → Q .normal a' w') → (∀ cc a w, ¬ Q (.panic cc) a w) → ∀ f, d.left ≤ f → wpAnyE P rg.ops Q d.cut f d.listed a w
def pwant (ops : Array Oper) (s : St) (o : Oper) : Option Bool :=
  match o.guard with
  | none => some true
  | some (j, want) => match (ops[j]?).bind (·.dst) with
    | some d => match s.t d with
      | .val (.bool b) => some (b == want)
      | .val (.tuple _) => some false
      | _ => none
    | none => none
theorem pwant_ok {ops : Array Oper} {c : Cx} {s : St} {a : Act} {w : World} (h : Inv F c s a w) {o : Oper} {b : Bool} (hw : pwant ops s o = some b) : Region.wanted o (yielded ops a.tmps) = b := by
  unfold pwant at hw
  unfold Region.wanted
  cases hg : o.guard with
  | none => simp [hg] at hw; simp [hw]
  | some jw =>
    obtain ⟨j, want⟩ := jw
    simp only [hg] at hw
    unfold yielded
    cases hd : (ops[j]?).bind (·.dst) with
    | none => simp [hd] at hw
    | some d =>
      simp only [hd] at hw
      split at hw
      · rename_i b' hb'
        have hr := h.tm d
        rw [hb'] at hr
        have hv : a.tmps.getD d undef = .bool b' := by generalize a.tmps.getD d undef = z at hr; cases hr; rfl
        have ht : a.tmps[d]? = some (.bool b') := by
          rw [Array.getD_eq_getD_getElem?] at hv
          cases hq : a.tmps[d]? with
          | none => rw [hq] at hv; simp [undef] at hv
          | some z => rw [hq] at hv; simpa using hv
        simp only [hd, Option.bind_some, ht]
        cases hw
        cases b' <;> cases want <;> rfl
      · rename_i vs hb'
        have hr := h.tm d
        rw [hb'] at hr
        have hv : a.tmps.getD d undef = .tuple vs := by generalize a.tmps.getD d undef = z at hr; cases hr; rfl
        cases hw
        simp only [hd, Option.bind_some]
        rw [Array.getD_eq_getD_getElem?] at hv
        cases hq : a.tmps[d]? with
        | none => rfl
        | some z => rw [hq] at hv; simp at hv; subst hv; rfl
      · cases hw
variable {ops : Rg} {o : Oper} {rest : List Oper} {s : St} {K : St → Prop} {p : PV}
theorem Ops.nil (h : K s) (hf : ops.fin) : Ops P F ops [] s K := by
  obtain ⟨arr, dr⟩ := ops
  cases dr with
  | none => exact fun Q c a w hi hq => hq _ _ _ _ hi h
  | some d =>
    intro Q c a w hi hq _ f hl
    obtain ⟨h1, h2⟩ := hf
    have hc : d.cut = d.listed := by simp [Dr.cut, h1, setAll]
    have hd := wpAny_done (P := P) (Q := Q) h2 (hq _ _ _ _ hi h) f
    rw [hc]
    cases f with
    | zero => exact ⟨rfl, hd⟩
    | succ f => exact .inl ⟨rfl, hd⟩
theorem Ops.lift {l : List Oper} {s' : St} (h : ∀ c a w, Inv F c s a w → ∃ c', Inv F c' s' a w) (k : Ops P F ops l s' K) : Ops P F ops l s K := by
  obtain ⟨arr, dr⟩ := ops
  cases dr with
  | none =>
    intro Q c a w hi hq
    obtain ⟨c', hi'⟩ := h c a w hi
    exact k Q c' a w hi' hq
  | some d =>
    intro Q c a w hi hq hp f hl
    obtain ⟨c', hi'⟩ := h c a w hi
    exact k Q c' a w hi' hq hp f hl
theorem Ops.yields {v : St → PV} (h : ∀ c a w, Inv F c s a w → ∃ u, Rep c p u ∧ YieldsIf P ops.ops (fun w' => Ext w w' ∨ pureO o = true) o u a) (hd : s.fits o.dst = true) (hm : ops.okS o) (k : Ops P F ops.next rest (s.put o.dst p) K)
    (text : ∀ Q c a w, Inv F c s a w → (∀ u, Rep c p u → wpList P ops.ops Q rest (a.put o.dst u) w) → wpList P ops.ops Q (o :: rest) a w) : Ops P F ops (o :: rest) s K := by
  obtain ⟨arr, dr⟩ := ops
  cases dr with
  | none => exact fun Q c a w hi hq => text Q c a w hi fun u hr => k Q c _ w (hi.put hd hr) hq
  | some d =>
    intro Q c a w hi hq hp f hl
    obtain ⟨plan, listed⟩ := d
    match plan, hm with
    | (i :: is) :: r, ⟨h1, h2⟩ =>
      obtain ⟨u, hr, hy⟩ := h c a w hi
      simp only [chkS, Bool.and_eq_true] at h2
      obtain ⟨⟨⟨⟨c1, c2⟩, c3⟩, c0⟩, c4⟩ := h2
      have hl' : (Dr.left ⟨is :: r, listed.setIfInBounds i true⟩) + 1 ≤ f := by
        simp [Dr.left] at hl ⊢; omega
      obtain ⟨f, rfl⟩ : ∃ g, f = g + 1 := ⟨f - 1, by omega⟩
      have hk := k Q c _ w (hi.put hd hr) hq hp f (by simpa [Rg.next, Dr.next] using Nat.le_of_succ_le_succ hl')
      refine wpAnyE_first h1 (Region.noSelect_spec c1) hp (fun l hcl hl hi0 j hj => ?_) f listed a w (closedB_ok.1 c0) (Region.free_spec h1 c2) (by simpa using c3) (hy.imp (fun ⟨x, y⟩ => ⟨x, fun w' he => y w' (.inl he)⟩) id) hk
      have e2 : l = (setAll listed (i :: is)).setIfInBounds i false := by
        have := set_unset hi0
        rw [hl] at this
        exact this.symm
      simp only [Bool.or_eq_true, Bool.not_eq_true'] at c4
      rcases c4 with c4 | c4
      rotate_left
      · rw [← e2, closedB_ok.2 hcl] at c4; cases c4
      have e1 := sole_ok c4
      rw [e2, e1] at hj
      simpa using hj
    | [] :: (i :: is) :: r, ⟨h1, h2, h3⟩ =>
      obtain ⟨u, hr, hy⟩ := h c a w hi
      simp only [chkP, Bool.and_eq_true] at h2
      obtain ⟨⟨c1, c2⟩, c3⟩ := h2
      have hl' : (Dr.left ⟨is :: r, listed.setIfInBounds i true⟩) + 1 ≤ f := by
        simp [Dr.left] at hl ⊢; omega
      obtain ⟨f, rfl⟩ : ∃ g, f = g + 1 := ⟨f - 1, by omega⟩
      have hk := k Q c _ w (hi.put hd hr) hq hp f (by simpa [Rg.next, Dr.next] using Nat.le_of_succ_le_succ hl')
      refine .inl ⟨rfl, ?_⟩
      show wpAny P .any arr Q (f + 1) listed a w
      exact wpAny_take h1 c1 c2 c3 (fun c a w h => absurd h (hp _ _ _)) (hy.imp (fun ⟨x, y⟩ => ⟨x, fun w' => y w' (.inr h3)⟩) id) (wpAnyE.any _ _ _ _ hk)
theorem Ops.stillS (h : Still P F o s p) (hw : pwant ops.ops s o = some true) (hd : s.fits o.dst = true) (hm : ops.okS o) (k : Ops P F ops.next rest (s.put o.dst p) K) : Ops P F ops (o :: rest) s K := by
  refine Ops.yields (v := fun _ => p) (fun c a w hi => ?_) hd hm k fun Q c a w hi hk => ?_
  · obtain ⟨u, hr, hrun⟩ := h c a w hi
    exact ⟨u, hr, .inl ⟨pwant_ok hi hw, hrun⟩⟩
  · obtain ⟨u, hr, hrun⟩ := h c a w hi
    unfold wpList
    rw [pwant_ok hi hw, if_pos rfl]
    refine .inl ?_
    unfold Oper.wp
    rw [hrun w (.inl (Ext.refl w))]
    exact hk u hr
theorem Ops.off (hw : pwant ops.ops s o = some false) (hd : s.fits o.dst = true) (hm : ops.okS o) (h : Ops P F ops.next rest (s.put o.dst (.val undef)) K) : Ops P F ops (o :: rest) s K := by
  refine Ops.yields (v := fun _ => .val undef) (fun c a w hi => ?_) hd hm h fun Q c a w hi hk => ?_
  · exact ⟨undef, .val _, .inr ⟨pwant_ok hi hw, rfl⟩⟩
  · unfold wpList
    rw [pwant_ok hi hw, if_neg (by simp)]
    exact hk undef (.val _)
theorem Ops.step {e : Bool} (h : Does P F o e s fun s' => Ops P F ops.next rest s' K) (hw : pwant ops.ops s o = some true) (hm : ops.ok e o) : Ops P F ops (o :: rest) s K := by
  obtain ⟨arr, dr⟩ := ops
  cases dr with
  | none =>
    intro Q c a w hi hq
    unfold wpList
    rw [pwant_ok hi hw, if_pos rfl]
    refine .inl (Oper.wp_mono ?_ (h Q c a w hi))
    rintro a' w' ⟨c', s', hi', hk, _⟩
    exact hk Q c' a' w' hi' hq
  | some d =>
    intro Q c a w hi hq hp f hl
    obtain ⟨plan, listed⟩ := d
    cases e with
    | true =>
      match plan, hm with
      | (i :: is) :: r, ⟨h1, h2⟩ =>
        have hl' : (Dr.left ⟨is :: r, listed.setIfInBounds i true⟩) + 1 ≤ f := by
          simp [Dr.left] at hl ⊢; omega
        obtain ⟨f, rfl⟩ : ∃ g, f = g + 1 := ⟨f - 1, by omega⟩
        have e1 := sole_ok h2
        refine .inr ⟨by rw [e1]; simp, fun j hj => ?_⟩
        rw [e1] at hj
        obtain rfl : j = i := by simpa using hj
        unfold wpOp
        simp only [h1]
        rw [pwant_ok hi hw, if_pos rfl]
        refine .inl (Oper.wp_mono ?_ (h Q c a w hi))
        rintro a' w' ⟨c', s', hi', hk, he⟩
        exact ⟨he rfl, hk Q c' a' w' hi' hq hp f (by simpa [Rg.next, Dr.next] using Nat.le_of_succ_le_succ hl')⟩
    | false =>
      match plan, hm with
      | [] :: (i :: is) :: r, ⟨h1, h2⟩ =>
        have hl' : (Dr.left ⟨is :: r, listed.setIfInBounds i true⟩) + 1 ≤ f := by
          simp [Dr.left] at hl ⊢; omega
        obtain ⟨f, rfl⟩ : ∃ g, f = g + 1 := ⟨f - 1, by omega⟩
        have e1 := sole_ok h2
        refine .inl ⟨rfl, ?_⟩
        show wpAny P .any arr Q (f + 1) listed a w
        refine ⟨fun e => (by rw [e1] at e; cases e), fun j hj => ?_⟩
        rw [e1] at hj
        obtain rfl : j = i := by simpa using hj
        unfold wpOp
        simp only [h1]
        rw [pwant_ok hi hw, if_pos rfl]
        refine .inl (Oper.wp_mono ?_ (h Q c a w hi))
        rintro a' w' ⟨c', s', hi', hk, he⟩
        exact wpAnyE.any _ _ _ _ (hk Q c' a' w' hi' hq hp f (by simpa [Rg.next, Dr.next] using Nat.le_of_succ_le_succ hl'))
theorem Ops.guard {j d : Nat} {want b : Bool} (hg : o.guard = some (j, want)) (hj : (ops.ops[j]?).bind (·.dst) = some d) (hb : s.t d = .val (.bool b)) (ht : b = true → Ops P F ops (o :: rest) { s with t := upd s.t d (.val (.bool true)) } K) (hf : b = false → Ops P F ops (o :: rest) { s with t := upd s.t d (.val (.bool false)) } K) : Ops P F ops (o :: rest) s K := by
  have e : ∀ c, b = c → ({ s with t := upd s.t d (.val (.bool c)) } : St) = s := by
    rintro c rfl
    have : upd s.t d (.val (.bool b)) = s.t := by
      funext x
      by_cases hx : x = d
      · subst hx; rw [upd_same, hb]
      · rw [upd_ne _ _ _ hx]
    rw [this]
  cases b
  · rw [← e false rfl]; exact hf rfl
  · rw [← e true rfl]; exact ht rfl
theorem still_move {x : Operand} (ho : o.op = .move x) : Still P F o s (pev s x) := fun c a w hi => ⟨_, pev_rep hi x, fun w' _ => by simp [execOp, ho]⟩
theorem still_assign {x : Operand} (ho : o.op = .assign x) : Still P F o s (pev s x) := fun c a w hi => ⟨_, pev_rep hi x, fun w' _ => by simp [execOp, ho]⟩
theorem still_pick {x y z : Operand} {b : Bool} (ho : o.op = .pick x y z) (hx : pev s x = .val (.bool b)) : Still P F o s (bif b then pev s y else pev s z) := by
  intro c a w hi
  refine ⟨if b then a.eval y else a.eval z, ?_, fun w' _ => ?_⟩
  · cases b
    · exact pev_rep hi z
    · exact pev_rep hi y
  · simp [execOp, ho, pev_val hi hx, asBool]
def pbin : BinOp → IntKind → Int → Int → Option Value
  | .add, k, a, b => some (.int k (k.wrap (a + b)))
  | .sub, k, a, b => some (.int k (k.wrap (a - b)))
  | .mul, k, a, b => some (.int k (k.wrap (a * b)))
  | .and, k, a, b => some (.int k (k.wrap (BitVec.ofInt k.bits a &&& BitVec.ofInt k.bits b).toNat))
  | .or, k, a, b => some (.int k (k.wrap (BitVec.ofInt k.bits a ||| BitVec.ofInt k.bits b).toNat))
  | .xor, k, a, b => some (.int k (k.wrap (BitVec.ofInt k.bits a ^^^ BitVec.ofInt k.bits b).toNat))
  | .andNot, k, a, b => some (.int k (k.wrap (BitVec.ofInt k.bits a &&& ~~~BitVec.ofInt k.bits b).toNat))
  | .eql, k, a, b => some (.bool (decide (a = b)))
  | .neq, k, a, b => some (.bool (decide (a ≠ b)))
  | .lss, k, a, b => some (.bool (decide (a < b)))
  | .leq, k, a, b => some (.bool (decide (a ≤ b)))
  | .gtr, k, a, b => some (.bool (decide (b < a)))
  | .geq, k, a, b => some (.bool (decide (b ≤ a)))
  | _, _, _, _ => none
theorem run_eqGuard_int (op : BinOp) (t : TypeId) (x y : Operand) (k k' : IntKind) (a b : Int) (w : World) : (eqGuard op t x y (.int k a) (.int k' b)).run P w = .ok () w := by
  unfold eqGuard; cases op <;> rfl
theorem run_eqGuard_bool (op : BinOp) (t : TypeId) (x y : Operand) (a b : Bool) (w : World) : (eqGuard op t x y (.bool a) (.bool b)).run P w = .ok () w := by
  unfold eqGuard; cases op <;> rfl
theorem still_bin {op : BinOp} {t t' : TypeId} {x y : Operand} {k : IntKind} {a b : Int} {v : Value} (ho : o.op = .binOp op t x y t') (hx : pev s x = .val (.int k a)) (hy : pev s y = .val (.int k b)) (hv : pbin op k a b = some v) : Still P F o s (.val v) := by
  intro c A w hi
  refine ⟨v, .val _, fun w' _ => ?_⟩
  simp only [execOp, ho, pev_val hi hx, pev_val hi hy, Sem.run_bind, run_eqGuard_int, Result.andThen_ok]
  cases op <;> simp [pbin] at hv <;> subst hv <;> simp [binOp, Op.intArith, Op.intBits, Op.intCmp, bne, BEq.beq, eq_comm]
  all_goals (by_cases hab : b = a <;> simp [hab])
theorem still_quo {t t' : TypeId} {x y : Operand} {k : IntKind} {a b : Int} (ho : o.op = .binOp .quo t x y t') (hx : pev s x = .val (.int k a)) (hy : pev s y = .val (.int k b)) (hb : b ≠ 0) : Still P F o s (.val (.int k (k.wrap (a.tdiv b)))) := by
  intro c A w hi
  refine ⟨_, .val _, fun w' _ => ?_⟩
  simp [execOp, ho, pev_val hi hx, pev_val hi hy, run_eqGuard_int, binOp, Op.intDiv, hb]
theorem still_rem {t t' : TypeId} {x y : Operand} {k : IntKind} {a b : Int} (ho : o.op = .binOp .rem t x y t') (hx : pev s x = .val (.int k a)) (hy : pev s y = .val (.int k b)) (hb : b ≠ 0) : Still P F o s (.val (.int k (a.tmod b))) := by
  intro c A w hi
  refine ⟨_, .val _, fun w' _ => ?_⟩
  simp [execOp, ho, pev_val hi hx, pev_val hi hy, run_eqGuard_int, binOp, Op.intDiv, hb]
theorem still_shl {t t' : TypeId} {x y : Operand} {k k' : IntKind} {a b : Int} (ho : o.op = .binOp .shl t x y t') (hx : pev s x = .val (.int k a)) (hy : pev s y = .val (.int k' b)) (hb : 0 ≤ b) : Still P F o s (.val (.int k (k.wrap (a * 2 ^ min b.toNat k.bits)))) := by
  intro c A w hi
  refine ⟨_, .val _, fun w' _ => ?_⟩
  have : ¬ b < 0 := by omega
  simp [execOp, ho, pev_val hi hx, pev_val hi hy, run_eqGuard_int, binOp, Op.shift, this]
theorem still_shr {t t' : TypeId} {x y : Operand} {k k' : IntKind} {a b : Int} (ho : o.op = .binOp .shr t x y t') (hx : pev s x = .val (.int k a)) (hy : pev s y = .val (.int k' b)) (hb : 0 ≤ b) : Still P F o s (.val (.int k (a.fdiv (2 ^ min b.toNat k.bits)))) := by
  intro c A w hi
  refine ⟨_, .val _, fun w' _ => ?_⟩
  have : ¬ b < 0 := by omega
  simp [execOp, ho, pev_val hi hx, pev_val hi hy, run_eqGuard_int, binOp, Op.shift, this]
theorem run_equalIn_bool {t : TypeId} (ht : P.underlying t = some .bool) (d : Nat) (a b : Bool) (w : World) : (Op.equalIn (d + 1) t (.bool a) (.bool b)).run P w = .ok (a == b) w := by
  simp only [Op.equalIn, Sem.run_bind, run_underlying ht, Result.andThen_ok]
  rfl
theorem run_eql_bool {t : TypeId} (ht : P.underlying t = some .bool) (a b : Bool) (w : World) : (binOp .eql t (.bool a) (.bool b)).run P w = .ok (.bool (a == b)) w := by
  simp only [binOp, Op.equal, Op.maxDepth, Sem.run_bind, run_equalIn_bool ht 9999, Result.andThen_ok]
  rfl
theorem run_neq_bool {t : TypeId} (ht : P.underlying t = some .bool) (a b : Bool) (w : World) : (binOp .neq t (.bool a) (.bool b)).run P w = .ok (.bool (a != b)) w := by
  simp only [binOp, Op.equal, Op.maxDepth, Sem.run_bind, run_equalIn_bool ht 9999, Result.andThen_ok]
  rfl
theorem still_eqb {t t' : TypeId} {x y : Operand} {a b : Bool} (ho : o.op = .binOp .eql t x y t') (hx : pev s x = .val (.bool a)) (hy : pev s y = .val (.bool b)) (ht : P.underlying t = some .bool) : Still P F o s (.val (.bool (a == b))) := by
  intro c A w hi
  refine ⟨_, .val _, fun w' _ => ?_⟩
  simp only [execOp, ho, pev_val hi hx, pev_val hi hy, Sem.run_bind, run_eqGuard_bool, run_eql_bool ht, Result.andThen_ok]
  rfl
theorem still_neb {t t' : TypeId} {x y : Operand} {a b : Bool} (ho : o.op = .binOp .neq t x y t') (hx : pev s x = .val (.bool a)) (hy : pev s y = .val (.bool b)) (ht : P.underlying t = some .bool) : Still P F o s (.val (.bool (a != b))) := by
  intro c A w hi
  refine ⟨_, .val _, fun w' _ => ?_⟩
  simp only [execOp, ho, pev_val hi hx, pev_val hi hy, Sem.run_bind, run_eqGuard_bool, run_neq_bool ht, Result.andThen_ok]
  rfl
theorem still_not {t : TypeId} {x : Operand} {b : Bool} (ho : o.op = .unOp .not t x) (hx : pev s x = .val (.bool b)) : Still P F o s (.val (.bool (!b))) := by
  intro c A w hi
  exact ⟨_, .val _, fun w' _ => by simp [execOp, ho, pev_val hi hx, Op.unary]⟩
theorem still_neg {t : TypeId} {x : Operand} {k : IntKind} {n : Int} (ho : o.op = .unOp .neg t x) (hx : pev s x = .val (.int k n)) : Still P F o s (.val (.int k (k.wrap (0 - n)))) := by
  intro c A w hi
  exact ⟨_, .val _, fun w' _ => by simp [execOp, ho, pev_val hi hx, Op.unary, Op.intArith]⟩
theorem still_conv {t t' : TypeId} {x : Operand} {d : TypeDesc} {k k' : IntKind} {n : Int} (ho : o.op = .convert t t' x) (hx : pev s x = .val (.int k n)) (ht : P.underlying t = some d) (ht' : P.underlying t' = some (.int k')) : Still P F o s (.val (.int k' (k'.wrap n))) := by
  intro c A w hi
  refine ⟨_, .val _, fun w' _ => ?_⟩
  simp only [execOp, ho, pev_val hi hx, convert, Sem.run_bind, run_underlying ht, run_underlying ht', Result.andThen_ok]
  cases d <;> rfl
theorem still_extract {x : Operand} {i : Nat} {l : List PV} (ho : o.op = .extract x i) (hx : pev s x = .tup l) (hp : l[i]? = some p) : Still P F o s p := by
  intro c A w hi
  have hr := pev_rep hi x
  rw [hx] at hr
  generalize hq : A.eval x = z at hr
  cases hr with
  | tup hl =>
    obtain ⟨u, hu, hr⟩ := hl.get hp
    exact ⟨u, hr, fun w' _ => by simp [execOp, ho, hq, Instr.extract, hu]⟩
theorem add_zero_off (ad : Addr) (n m : Nat) : (ad.add n).add m = ad.add (n + m) := by
  unfold Addr.add
  by_cases h1 : n = 0 <;> by_cases h2 : m = 0 <;> simp [h1, h2, Nat.add_assoc]
def cells (s : St) : PV → Option (List PV)
  | .ptr b o => (s.bx[b]?).map (·.drop o)
  | .cel l => some l
  | .ead o i => match s.ob[o]? with
    | some (some r) => some (r.cs.drop i)
    | _ => none
  | _ => none
theorem cells_ok {c : Cx} {a : Act} {w : World} (h : Inv F c s a w) {l : List PV} {v : Value} (hr : Rep c p v) (hl : cells s p = some l) :
    ∃ ad us, v = .pointer (some ad) ∧ RepL c l us ∧ ∀ j u, us[j]? = some u → w.cell? (ad.add j) = some u := by
  cases hr <;> simp only [cells, reduceCtorEq] at hl
  case ptr b o g hg =>
    cases hb : s.bx[b]? with
    | none => simp [hb] at hl
    | some l0 =>
      simp only [hb, Option.map_some, Option.some.injEq] at hl
      obtain ⟨g', us, T, h1, h2, h3⟩ := h.W.box b l0 hb
      rw [hg] at h1; cases h1
      refine ⟨_, us.drop o, rfl, hl ▸ h3.drop o, fun j u hu => ?_⟩
      rw [List.getElem?_drop] at hu
      have : (⟨g, o, none⟩ : Addr).add j = ⟨g, o + j, none⟩ := by unfold Addr.add; split <;> simp_all
      rw [this]
      simpa [World.cell?, h2] using hu
  case cel h3 h4 =>
    cases hl
    exact ⟨_, _, rfl, RepL.up c.strip_le h3, fun j u hu => h.W.mem _ _ (h4 j u hu)⟩
  case ead o i x hx =>
    split at hl
    · rename_i l0 hb
      cases hl
      obtain ⟨x', us, h1, _, _, h1', h2, h3, h4⟩ := h.W.obj o l0 hb
      rw [hx] at h1; cases h1
      refine ⟨_, (us.take l0.cs.length).drop i, rfl, RepL.up c.strip_le (h4.drop i), fun j u hu => ?_⟩
      rw [List.getElem?_drop, List.getElem?_take] at hu
      split at hu
      · have : (⟨x.g, i, none⟩ : Addr).add j = ⟨x.g, i + j, none⟩ := by unfold Addr.add; split <;> simp_all
        rw [this]
        simpa [World.cell?, h2] using hu
      · cases hu
    · cases hl
def aggT (P : Program) (t : TypeId) : Option Bool := match P.underlying t with
  | some (.struct _) => some true
  | some (.array _ _) => some true
  | some _ => some false
  | none => none
def szT (P : Program) (t : TypeId) : Option Nat := (P.info? t).map (·.size)
theorem run_isAgg {t : TypeId} {b : Bool} (h : aggT P t = some b) (w : World) : (isAgg t).run P w = .ok b w := by
  unfold aggT at h
  cases hu : P.underlying t with
  | none => simp [hu] at h
  | some d => cases d <;> simp_all [isAgg, run_underlying hu]
theorem run_szT {t : TypeId} {n : Nat} (h : szT P t = some n) (w : World) : (sizeOf t).run P w = .ok n w := by
  unfold szT at h
  cases hi : P.info? t with
  | none => simp [hi] at h
  | some i => simp [hi] at h; simp [sizeOf, typeInfo, hi, h]
theorem still_load1 {t : TypeId} {x : Operand} {l : List PV} (ho : o.op = .load t x) (hx : cells s (pev s x) = some l) (ha : aggT P t = some false) (hp : l[0]? = some p) : Still P F o s p := by
  intro c A w hi
  obtain ⟨ad, us, hv, hl, hc⟩ := cells_ok hi (pev_rep hi x) hx
  obtain ⟨u, hu, hr⟩ := hl.get hp
  refine ⟨u, hr, fun w' he => ?_⟩
  replace he : Ext w w' := he.resolve_right (by simp [pureO, ho])
  have h0 := he _ _ (hc 0 u hu)
  simp only [Addr.add, if_pos] at h0
  simp [execOp, ho, hv, Instr.loadAt, Instr.sureAddr, loadVar, run_isAgg ha, run_load, h0]
theorem still_loadA {t : TypeId} {x : Operand} {l : List PV} {n : Nat} (ho : o.op = .load t x) (hx : cells s (pev s x) = some l) (ha : aggT P t = some true) (hn : szT P t = some n) (hl : n ≤ l.length) : Still P F o s (.agg (l.take n)) := by
  intro c A w hi
  obtain ⟨ad, us, hv, hr, hc⟩ := cells_ok hi (pev_rep hi x) hx
  refine ⟨_, .agg (hr.take n), fun w' he => ?_⟩
  replace he : Ext w w' := he.resolve_right (by simp [pureO, ho])
  have hlen : (us.take n).length = n := by rw [List.length_take, ← hr.len]; omega
  have := run_loadCells_list (P := P) w' ad (us.take n) (fun j v hj => he _ _ (hc j v (by rw [List.getElem?_take] at hj; split at hj; exact hj; cases hj)))
  rw [hlen] at this
  simp [execOp, ho, hv, Instr.loadAt, Instr.sureAddr, loadVar, run_isAgg ha, run_szT hn, this]
def shift (p : PV) (n : Nat) : Option PV := match p with
  | .ptr b o => some (.ptr b (o + n))
  | .cel l => some (.cel (l.drop n))
  | .ead o i => some (.ead o (i + n))
  | _ => none
theorem shift_ok {c : Cx} {q : PV} {v : Value} {n : Nat} (hr : Rep c p v) (hq : shift p n = some q) : ∃ ad, v = .pointer (some ad) ∧ Rep c q (.pointer (some (ad.add n))) := by
  have ha : ∀ g o : Nat, (⟨g, o, none⟩ : Addr).add n = ⟨g, o + n, none⟩ := fun g o => by unfold Addr.add; split <;> simp_all
  cases hr <;> simp only [shift, reduceCtorEq, Option.some.injEq] at hq <;> subst hq
  case ptr b o g hg => exact ⟨_, rfl, by rw [ha]; exact .ptr hg⟩
  case cel ad us h3 h4 =>
    refine ⟨_, rfl, .cel (h3.drop n) fun j u hu => ?_⟩
    rw [List.getElem?_drop] at hu
    rw [add_zero_off]
    exact h4 _ _ hu
  case ead o i x hx => exact ⟨_, rfl, by rw [ha]; exact .ead hx⟩
def fldT (P : Program) (t : TypeId) (i : Nat) : Option Nat := match P.underlying t with
  | some (.struct fs) => match fs[i]? with
    | some f => match P.info? f.type with
      | some j => if j.size = 0 then none else some f.offset
      | none => none
    | none => none
  | _ => none
theorem still_fieldAddr {t : TypeId} {x : Operand} {i n : Nat} (ho : o.op = .fieldAddr t x i) (hn : fldT P t i = some n) (hq : shift (pev s x) n = some p) : Still P F o s p := by
  intro c A w hi
  obtain ⟨ad, hv, hr⟩ := shift_ok (pev_rep hi x) hq
  refine ⟨_, hr, fun w' _ => ?_⟩
  unfold fldT at hn
  split at hn
  · rename_i fs hu
    split at hn
    · rename_i f hf
      split at hn
      · rename_i j hj
        split at hn
        · cases hn
        · rename_i h0
          cases hn
          simp [execOp, ho, hv, Instr.fieldAt, run_underlying hu, hf, Instr.sureAddr, fieldPlace, sizeOf, typeInfo, hj, h0]
      · cases hn
    · cases hn
  · cases hn
def elT (P : Program) (t : TypeId) : Option (TypeId × Nat) := match P.underlying t with
  | some (.slice e) => (szT P e).map fun n => (e, n)
  | _ => none
theorem elT_ok {t e : TypeId} {n : Nat} (h : elT P t = some (e, n)) : P.underlying t = some (.slice e) ∧ szT P e = some n := by
  unfold elT at h
  split at h
  · rename_i e' hu
    cases hz : szT P e' with
    | none => simp [hz] at h
    | some m => simp [hz] at h; obtain ⟨rfl, rfl⟩ := h; exact ⟨hu, hz⟩
  · cases h
theorem still_idx {t e : TypeId} {x y : Operand} {sz : Nat} {l : List PV} {k : IntKind} {i : Int} (ho : o.op = .indexAddr t x y) (hx : pev s x = .sl sz l) (hy : pev s y = .val (.int k i)) (ht : elT P t = some (e, sz)) (h0 : 0 ≤ i) (h1 : (i.toNat + 1) * sz ≤ l.length) :
    Still P F o s (.cel (l.drop (i.toNat * sz))) := by
  intro c A w hi
  obtain ⟨hu, hz⟩ := elT_ok ht
  have hr := pev_rep hi x
  rw [hx] at hr
  generalize hq : A.eval x = z at hr
  cases hr with
  | @sl _ _ n cap B _ us hs0 hs1 hs2 hs3 hs4 =>
    have hlt : i.toNat < n := by
      rcases Nat.lt_or_ge i.toNat n with h | h
      · exact h
      · exfalso
        have : (n + 1) * sz ≤ (i.toNat + 1) * sz := Nat.mul_le_mul_right _ (by omega)
        rw [Nat.add_mul] at this
        omega
    have hus : us[i.toNat * sz]? ≠ none := by
      rw [Ne, List.getElem?_eq_none_iff, ← hs3.len]
      rw [Nat.add_mul] at h1
      omega
    obtain ⟨u0, hu0⟩ := Option.ne_none_iff_exists'.1 hus
    obtain ⟨ad, rfl, _⟩ := hs4 _ _ hu0
    refine ⟨_, .cel (hs3.drop (i.toNat * sz)) (ad := ad.add (i.toNat * sz)) fun j u hj => ?_, fun w' _ => ?_⟩
    · rw [List.getElem?_drop] at hj
      obtain ⟨ad', e', hr'⟩ := hs4 _ _ hj
      cases e'
      rw [add_zero_off]; exact hr'
    · have hi2 : i < (n : Int) := by omega
      simp [execOp, ho, hq, pev_val hi hy, Instr.indexAt, asIntOf, run_underlying hu, h0, hi2, run_szT hz]
theorem still_idxO {t e : TypeId} {x y : Operand} {sz ob lo n : Nat} {k : IntKind} {i : Int} (ho : o.op = .indexAddr t x y) (hx : pev s x = .arr ob lo n) (hy : pev s y = .val (.int k i)) (ht : elT P t = some (e, sz)) {r : Row} (hr0 : s.ob[ob]? = some (some r)) (hsz : r.sz = sz) (h0 : 0 ≤ i) (h1 : i < n) :
    Still P F o s (.ead ob ((lo + i.toNat) * sz)) := by
  intro c A w hi
  obtain ⟨hu, hz⟩ := elT_ok ht
  have hr := pev_rep hi x
  rw [hx] at hr
  generalize hq : A.eval x = z at hr
  cases hr with
  | @arr _ _ _ _ cap y' ad hs hs0 hs2 hs3 hs4 =>
    have hsz' : y'.sz = sz := by
      obtain ⟨x', us, h1, h2, _⟩ := hi.W.obj ob r hr0
      rw [hs] at h1; cases h1; rw [h2, hsz]
    have had := hs3 (by omega)
    refine ⟨_, .ead (i := (lo + i.toNat) * sz) hs, fun w' _ => ?_⟩
    have : (⟨y'.g, lo * y'.sz, none⟩ : Addr).add (i.toNat * sz) = ⟨y'.g, (lo + i.toNat) * sz, none⟩ := by
      rw [hsz', Nat.add_mul]
      unfold Addr.add; split <;> simp_all
    simp [execOp, ho, hq, pev_val hi hy, Instr.indexAt, asIntOf, run_underlying hu, h0, h1, run_szT hz, had, this]
theorem still_len {t : TypeId} {e : TypeId} {x : Operand} {sz : Nat} {l : List PV} {n : Nat} {ts : Array TypeId} (ho : o.op = .call { callee := .builtin .len, args := #[x], argTypes := ts }) (hx : pev s x = .sl sz l) (h0 : ts[0]? = some t) (ht : P.underlying t = some (.slice e)) (hn : n * sz = l.length) :
    Still P F o s (.val (.int .i64 n)) := by
  intro c A w hi
  have hr := pev_rep hi x
  rw [hx] at hr
  generalize hq : A.eval x = z at hr
  cases hr with
  | @sl _ _ m cap B _ us hs0 hs1 hs2 hs3 hs4 =>
    have hm : m = n := Nat.eq_of_mul_eq_mul_right hs0 (by rw [hs1, hn])
    subst hm
    exact ⟨_, .val _, fun w' _ => by simp [execOp, ho, resolve, invoke, builtin, hq, Builtin.len_, h0, run_underlying ht, goInt]⟩
theorem still_lenN {t : TypeId} {e : TypeId} {x : Operand} {ts : Array TypeId} (ho : o.op = .call { callee := .builtin .len, args := #[x], argTypes := ts }) (hx : pev s x = .nil) (h0 : ts[0]? = some t) (ht : P.underlying t = some (.slice e)) :
    Still P F o s (.val (.int .i64 0)) := by
  intro c A w hi
  have hr := pev_rep hi x
  rw [hx] at hr
  generalize hq : A.eval x = z at hr
  cases hr
  exact ⟨_, .val _, fun w' _ => by simp [execOp, ho, resolve, invoke, builtin, hq, Builtin.len_, h0, run_underlying ht, goInt]⟩
theorem still_lenO {t : TypeId} {e : TypeId} {x : Operand} {ob lo n : Nat} {ts : Array TypeId} (ho : o.op = .call { callee := .builtin .len, args := #[x], argTypes := ts }) (hx : pev s x = .arr ob lo n) (h0 : ts[0]? = some t) (ht : P.underlying t = some (.slice e)) :
    Still P F o s (.val (.int .i64 n)) := by
  intro c A w hi
  have hr := pev_rep hi x
  rw [hx] at hr
  generalize hq : A.eval x = z at hr
  cases hr
  exact ⟨_, .val _, fun w' _ => by simp [execOp, ho, resolve, invoke, builtin, hq, Builtin.len_, h0, run_underlying ht, goInt]⟩
theorem still_min {x y : Operand} {k : IntKind} {a b : Int} {ts : Array TypeId} (ho : o.op = .call { callee := .builtin .min, args := #[x, y], argTypes := ts }) (hx : pev s x = .val (.int k a)) (hy : pev s y = .val (.int k b)) : Still P F o s (.val (.int k (min a b))) := by
  intro c A w hi
  refine ⟨_, .val _, fun w' _ => ?_⟩
  have : (if b < a then b else a) = min a b := by rw [Int.min_def]; split <;> split <;> omega
  simp [execOp, ho, resolve, invoke, builtin, pev_val hi hx, pev_val hi hy, Builtin.min_, Builtin.min2, this]
theorem still_max {x y : Operand} {k : IntKind} {a b : Int} {ts : Array TypeId} (ho : o.op = .call { callee := .builtin .max, args := #[x, y], argTypes := ts }) (hx : pev s x = .val (.int k a)) (hy : pev s y = .val (.int k b)) : Still P F o s (.val (.int k (max a b))) := by
  intro c A w hi
  refine ⟨_, .val _, fun w' _ => ?_⟩
  have : (if a < b then b else a) = max a b := by rw [Int.max_def]; split <;> split <;> omega
  simp [execOp, ho, resolve, invoke, builtin, pev_val hi hx, pev_val hi hy, Builtin.max_, Builtin.max2, this]
end
end Go.Proofs.YtpjbgmafnheomaaGreatDoor.Sim
