/-
  Sim, part Vd: calls; every operation; regions, code, loops; from a body to a contract. No condition.
-/
import Derived.Test.YtlbnlalkimnhdaaDoorVc
namespace Go.Proofs.YtlbnlalkimnhdaaDoor.Sim
open Go.RowKit
set_option linter.unusedVariables false
set_option linter.unusedSimpArgs false

/-- A contract of a function with a body. -/
structure FC (P : Program) (G : List (Nat × List Value)) (f : FuncId) (args : List PV) (Q : PV → Prop) : Prop where
  c : callable P f = true
  h : PC P G f args Q
theorem FC.mono {P : Program} {G : List (Nat × List Value)} {f : FuncId} {args : List PV} {Q Q' : PV → Prop} (h : FC P G f args Q) (k : ∀ r, Q r → Q' r) : FC P G f args Q' := ⟨h.c, h.h.mono k⟩
/-! ### what stands for less -/
mutual
inductive Lp : PV → PV → Prop
  | refl (p : PV) : Lp p p
  | nil (k : IntKind) : Lp .nil (.ws k [])
  | emp (k : IntKind) : Lp .emp (.ws k [])
  | nils (z : Nat) (h : 0 < z) : Lp .nil (.sl z [])
  | any (p : PV) : Lp p .any
  | agg {l l' : List PV} (h : LpL l l') : Lp (.agg l) (.agg l')
  | tup {l l' : List PV} (h : LpL l l') : Lp (.tup l) (.tup l')
inductive LpL : List PV → List PV → Prop
  | nil : LpL [] []
  | cons {p p' : PV} {l l' : List PV} (h : Lp p p') (t : LpL l l') : LpL (p :: l) (p' :: l')
end
mutual
theorem Lp.rep {c : Cx} : ∀ {p p' : PV} {v : Value}, Lp p p' → Rep c p v → Rep c p' v
  | _, _, _, .refl p, h => h
  | _, _, _, .nil k, h => by cases h; exact .ws rfl (Nat.le_refl _) fun j x hx => by simp at hx
  | _, _, _, .emp k, h => by cases h; exact .ws rfl (Nat.le_refl _) fun j x hx => by simp at hx
  | _, _, _, .nils z h0, h => by cases h; exact .sl (us := []) h0 (by simp) (Nat.le_refl _) .nil fun j u hu => by simp at hu
  | _, _, _, .any p, h => .any _
  | _, _, _, .agg hl, h => by cases h with | agg h => exact .agg (LpL.rep hl h)
  | _, _, _, .tup hl, h => by cases h with | tup h => exact .tup (LpL.rep hl h)
theorem LpL.rep {c : Cx} : ∀ {l l' : List PV} {us : List Value}, LpL l l' → RepL c l us → RepL c l' us
  | _, _, _, .nil, h => h
  | _, _, _, .cons h t, .cons r rs => .cons (Lp.rep h r) (LpL.rep t rs)
end
theorem LpL.refl : ∀ l : List PV, LpL l l
  | [] => .nil
  | p :: l => .cons (.refl p) (LpL.refl l)
/-- The end of a function: its result, or what it stands for. -/
structure RetE (Q : PV → Prop) (r : PV) : Prop where
  h : ∃ r', Lp r r' ∧ Q r'
theorem ret_e {Q : PV → Prop} {r : PV} (h : Q r) : RetE Q r := ⟨r, .refl r, h⟩
theorem ret_l {Q : PV → Prop} {r : PV} (r' : PV) (l : Lp r r') (h : Q r') : RetE Q r := ⟨r', l, h⟩

section
variable {P : Program} {F : Fr} {TT : List TI} {X : List FuncId} {m : Md} {o : Oper} {s : St} {K : St → Prop} {p q : PV}

/-! ### calls -/
theorem Inv.called {c : Cx} {a : Act} {w w' : World} {ρ' : Addr → Option Value} (hi : Inv F c s a w) (hρ : ∀ ad u, c.ρ ad = some u → ρ' ad = some u) (hm : ∀ ad u, ρ' ad = some u → w'.cell? ad = some u) (hb : Below w.heap.size w w') (hn : ∀ ad u, ρ' ad = some u → c.ρ ad = some u ∨ w.heap.size ≤ ad.block) :
    Inv F { c with ρ := ρ' } s a w' := by
  have k : c.le { c with ρ := ρ' } := ⟨hρ, fun _ _ h => h, fun _ _ h => h⟩
  have hW : SimW c s.bx s.ob w' := hi.W.grow fun i h => hb.block i h
  refine ⟨⟨hm, hW.bl, hW.ol, fun i l hl => ?_, fun i r hr => ?_, hW.nb, hW.no, hW.nbo, fun ad u hu => ?_, fun ad u i x r hu hr hx he => ?_⟩, hi.nd, hi.sz, fun t => (hi.tm t).up k, ?_, fun ad u hu => hρ _ _ (hi.rho _ _ hu), fun ad u hu => ?_, hi.obp, hi.obB, hi.bbB⟩
  · obtain ⟨g, us, T, h1, h2, h3⟩ := hW.box i l hl
    exact ⟨g, us, T, h1, h2, h3.up k⟩
  · obtain ⟨x, us, h1, ha, hb', h2, h3, h4, h5⟩ := hW.obj i r hr
    exact ⟨x, us, h1, ha, hb', h2, h3, h4, h5.up k.strip⟩
  · rcases hn ad u hu with h | h
    · exact hi.W.sb ad u h
    · intro hmem
      obtain ⟨i, hgi⟩ := List.getElem?_of_mem hmem
      have := hi.W.bb_lt hgi
      omega
  · rcases hn ad u hu with h | h
    · exact hi.W.so ad u i x r h hr hx he
    · have := hi.W.ob_lt hr hx
      omega
  · exact hi.kp.trans (Kp.of_below (hb.mono hi.kp.size))
  · rcases hn ad u hu with h | h
    · exact hi.new ad u h
    · exact .inr (Nat.le_trans hi.kp.size h)
/-- A call of a function with a body. -/
structure CallF (P : Program) (F : Fr) (e : Bool) (f : FuncId) (args : List PV) (s : St) (K : St → PV → Prop) : Prop where
  c : callable P f = true
  h : ∀ c a w (vs : List Value), Inv F c s a w → RepL c args vs → Calls P f vs.toArray w fun en w' => ∃ v r c' s', en = .returned v ∧ Inv F c' s' a w' ∧ Rep c' r v ∧ K s' r ∧ (e = true → Ext w w')
theorem CallF.does {f : FuncId} {e : Bool} {x : Operand} {as : Array Operand} {ts : Array TypeId} (ho : o.op = .call { callee := .value x, args := as, argTypes := ts }) (hx : pev s x = .val (.func (.func f) #[] #[])) (h : CallF P F e f (as.toList.map (pev s)) s fun s r => vPut o.dst s r K) : Does P F o e s K := by
  intro R c a w hi
  unfold Oper.wp
  rw [run_call h.c ho (pev_val hi hx)]
  have hc := h.h c a w (as.toList.map a.eval) hi (evalL hi as.toList)
  have he : as.map a.eval = (as.toList.map a.eval).toArray := by rw [← List.map_toArray]
  rw [he]
  refine hc.mono ?_
  rintro en w' ⟨v, r, c', s', rfl, hI, hr, hK, hE⟩
  have h2 := vPut_ok hK
  exact ⟨c', _, hI.put h2.1 hr, h2.2, hE⟩
theorem call_pcw {f : FuncId} {e : Bool} {args args' : List PV} {Q : PV → Prop} {K : St → PV → Prop} (h : FC P F.G f args' Q) (hl : LpL args args') (hno : noHL args = true) (k : ∀ r, Q r → K s r) : CallF P F e f args s K := by
  refine ⟨h.c, fun c a w vs hi hr => ?_⟩
  have hG : GOk F.G c.ρ := fun g cs hm j u hu => hi.rho _ _ (F.hG g cs hm j u hu)
  refine (h.h c.ρ w vs hG hi.W.mem (hl.rep (hr.bare hno))).mono ?_
  rintro en w' ⟨v, r, ρ', rfl, hQ, hρ, hm, hr, hb, hn⟩
  have kr : (⟨ρ', [], []⟩ : Cx).le { c with ρ := ρ' } := ⟨fun _ _ h => h, fun _ _ h => by simp at h, fun _ _ h => by simp at h⟩
  exact ⟨v, r, _, s, rfl, hi.called hρ hm hb hn, hr.up kr, k r hQ, fun _ => Ext.below hb⟩
theorem call_pc {f : FuncId} {e : Bool} {args : List PV} {Q : PV → Prop} {K : St → PV → Prop} (h : FC P F.G f args Q) (hno : noHL args = true) (k : ∀ r, Q r → K s r) : CallF P F e f args s K :=
  call_pcw h (LpL.refl _) hno k
/-- A call whose answer is known. -/
theorem call_eq {f : FuncId} {e : Bool} {args args' : List PV} {r : PV} {K : St → PV → Prop} (h : FC P F.G f args' (· = r)) (hl : LpL args args') (hno : noHL args = true) (k : K s r) : CallF P F e f args s K :=
  call_pcw h hl hno fun _ e => e ▸ k
/-- A row of one's own is given away with the call. -/
theorem freeze_ws {N : Nat} {t : Nat → PV} {bx : List (List PV)} {ob : List (Option Row)} {c : Cx} {a : Act} {w : World} (hi : Inv F c ⟨N, t, bx, ob⟩ a w) {q b n : Nat} {k : IntKind} {T : TypeId} {A : List Int} (hr : ob[q]? = some (some ⟨1, T, .w k A⟩)) (hle : b + n ≤ A.length) (hown : F.c0.ob.length ≤ q) :
    ∃ c' : Cx, c.le c' ∧ Inv F c' ⟨N, t, bx, ob.set q none⟩ a w ∧ ∀ v, Rep c (.arr q b n) v → Rep c' (.ws k ((A.drop b).take n)) v := by
  have hr' : ob[q]? = some (some (rw_ k T A)) := hr
  obtain ⟨x, us, a1, a2, a3, a4, a5, a6, a7⟩ := hi.W.obj q _ hr'
  obtain ⟨ρ', hρ⟩ : ∃ ρ' : Addr → Option Value, ∀ ad, ρ' ad = if ad.block = x.g ∧ ad.spot = none ∧ ad.off < (rw_ k T A).cs.length then us[ad.off]? else c.ρ ad := ⟨_, fun _ => rfl⟩
  obtain ⟨kle, hW⟩ := hi.W.freeze hr' a1 a5 a7 ρ' hρ
  refine ⟨{ c with ρ := ρ' }, kle, ⟨hW, hi.nd, hi.sz, fun y => (hi.tm y).up kle, hi.kp, fun ad u hu => kle.ρ _ _ (hi.rho ad u hu), fun ad u hu => ?_, hi.obp, hi.obB, hi.bbB⟩, fun v hv => ?_⟩
  · have hu' : ρ' ad = some u := hu
    rw [hρ] at hu'
    split at hu'
    · rename_i hh
      exact .inr (by rw [hh.1]; exact hi.obB q x hown a1)
    · exact hi.new ad u hu'
  · cases hv with
    | @arr _ _ _ _ cap X ad k1 k2 k3 k4 k5 =>
      rw [a1] at k1; cases k1
      have hsz : x.sz = 1 := a2
      have hcs : (rw_ k T A).cs.length = A.length := by simp [rw_, cs_w]
      refine rep_ws.2 (.sl (us := ((us.take A.length).drop b).take n) Nat.one_pos (by simp; omega) k3 ?_ fun j u hu => ?_)
      · have h7 := a7.up kle.strip
        rw [hcs] at h7
        have := (h7.drop b).take n
        simpa [rw_, cs_w, List.map_take, List.map_drop] using this
      · rw [List.getElem?_take] at hu
        split at hu
        · rename_i hj
          rw [List.getElem?_drop, List.getElem?_take] at hu
          split at hu
          · rename_i hj2
            refine ⟨ad, rfl, ?_⟩
            have had : ad.add j = ⟨x.g, b + j, none⟩ := by rw [k4 (by omega), hsz, Nat.mul_one, addr_add]
            show ρ' (ad.add j) = some u
            rw [had, hρ, if_pos ⟨rfl, rfl, by simp only [hcs]; exact hj2⟩]
            exact hu
          · cases hu
        · cases hu
theorem call_fz {N : Nat} {t : Nat → PV} {bx : List (List PV)} {ob : List (Option Row)} {f : FuncId} {e : Bool} {args : List PV} {K : St → PV → Prop} (i : Nat) {q b n : Nat} {k : IntKind} {T : TypeId} {A B : List Int} (ha : args[i]? = some (.arr q b n)) (hr : ob[q]? = some (some ⟨1, T, .w k A⟩)) (hle : b + n ≤ A.length) (hB : (A.drop b).take n = B) (hown : F.c0.ob.length ≤ q)
    (h : CallF P F e f (args.set i (.ws k B)) ⟨N, t, bx, ob.set q none⟩ K) : CallF P F e f args ⟨N, t, bx, ob⟩ K := by
  subst hB
  refine ⟨h.c, fun c a w vs hi hv => ?_⟩
  obtain ⟨c', kle, hi', hrep⟩ := freeze_ws hi hr hle hown
  obtain ⟨u, hu, hru⟩ := hv.get ha
  refine h.h c' a w vs hi' ?_
  have h2 := (RepL.up kle hv).set i (hrep u hru)
  have e : vs.set i u = vs := by
    apply List.ext_getElem?
    intro j
    by_cases hj : i = j
    · subst hj; rw [List.getElem?_set_self (List.getElem?_eq_some_iff.1 hu).1, hu]
    · rw [List.getElem?_set_ne hj]
  rwa [e] at h2
/-- A call of a function without a body. -/
structure ExtF (P : Program) (f : FuncId) (vs : List Value) (K : PV → Prop) : Prop where
  h : ∃ r, ExtOk P f vs r ∧ K r
def valsG (l : List PV) (k : List Value → Prop) (raw : Prop) : Prop := match l with
  | [] => k []
  | p :: l => match p with
    | .val v => valsG l (fun vs => k (v :: vs)) raw
    | _ => raw
theorem valsG_ok : ∀ {l : List PV} {k : List Value → Prop} {raw : Prop}, valsG l k raw → (∃ vs, l = vs.map .val ∧ k vs) ∨ raw
  | [], k, raw, h => .inl ⟨[], rfl, h⟩
  | p :: l, k, raw, h => by
    simp only [valsG] at h
    split at h
    · rcases valsG_ok h with ⟨vs, rfl, h'⟩ | h'
      · exact .inl ⟨_ :: vs, rfl, h'⟩
      · exact .inr h'
    · exact .inr h
def memX (X : List FuncId) (f : FuncId) : Bool := match X with
  | [] => false
  | g :: X => match Nat.beq g f with
    | true => true
    | false => memX X f
def vLen (p : PV) (k : Int → Prop) (raw : Prop) : Prop := match p with
  | .ws _ a => k a.length
  | .arr _ _ n => k n
  | .nil => k 0
  | .emp => k 0
  | .fs _ n _ => k n
  | .sl z l => lenG l fun n => Chk (n / z * z = n) (k ((n / z : Nat) : Int))
  | _ => raw
theorem vLen_ok {t e : TypeId} {z : Nat} {x : Operand} {k : Int → Prop} {raw : Prop} (ho : o.op = .call { callee := .builtin .len, args := #[x], argTypes := #[t] }) (ht : elT P t = some (e, z)) (h : vLen (pev s x) k raw) : Sv P F o s (fun p => ∃ n, p = .val (.int .i64 n) ∧ k n) ∨ raw := by
  have hu := (elT_ok ht).1
  generalize hX : pev s x = X at h
  unfold vLen at h
  split at h
  · rename_i kk a
    refine .inl ⟨_, fun c A w hi => ?_, _, rfl, h⟩
    have hr := pev_rep hi x
    rw [hX] at hr
    generalize hq : A.eval x = y at hr
    cases hr with
    | ws h1 h2 h4 =>
      subst h1
      exact ⟨_, .val _, fun w' _ => by simp [execOp, ho, resolve, invoke, builtin, hq, Builtin.len_, run_underlying hu, goInt]⟩
  · exact .inl ⟨_, still_lenO ho hX rfl hu, _, rfl, h⟩
  · exact .inl ⟨_, still_lenN ho hX rfl hu, _, rfl, h⟩
  · refine .inl ⟨_, fun c A w hi => ?_, _, rfl, h⟩
    have hr := pev_rep hi x
    rw [hX] at hr
    generalize hq : A.eval x = y at hr
    cases hr with
    | emp => exact ⟨_, .val _, fun w' _ => by simp [execOp, ho, resolve, invoke, builtin, hq, Builtin.len_, run_underlying hu, goInt]⟩
  · refine .inl ⟨_, fun c A w hi => ?_, _, rfl, h⟩
    have hr := pev_rep hi x
    rw [hX] at hr
    generalize hq : A.eval x = y at hr
    cases hr with
    | fs => exact ⟨_, .val _, fun w' _ => by simp [execOp, ho, resolve, invoke, builtin, hq, Builtin.len_, run_underlying hu, goInt]⟩
  · have h2 := lenG_eq h
    exact .inl ⟨_, still_len ho hX rfl hu h2.c.h, _, rfl, h2.k⟩
  · exact .inr h
def fnOf (p : PV) : Option FuncId := match p with
  | .val (.func (.func f) a b) => match a.toList with
    | [] => match b.toList with
      | [] => some f
      | _ => none
    | _ => none
  | _ => none
theorem fnOf_ok {f : FuncId} (h : fnOf p = some f) : p = .val (.func (.func f) #[] #[]) := by
  unfold fnOf at h
  split at h
  · rename_i g a b
    split at h
    · rename_i ha
      split at h
      · rename_i hb
        cases h
        rw [← Array.toArray_toList (xs := a), ← Array.toArray_toList (xs := b), ha, hb]
      · cases h
    · cases h
  · cases h
def vMM (ii : Bool) (x y : PV) (k : PV → Prop) (raw : Prop) : Prop := match x with
  | .val (.int ka a) => match y with
    | .val (.int kb b) => match ikEq ka kb with
      | true => match ii with
        | true => k (.val (.int ka (min a b)))
        | false => k (.val (.int ka (max a b)))
      | false => raw
    | _ => raw
  | _ => raw
def vBuiltin (F : Fr) (TT : List TI) (m : Md) (d : Option Tmp) (s : St) (b : Builtin) (as : List Operand) (ts : List TypeId) (K : St → Prop) (raw : Prop) : Prop := match b with
  | .len => match as with
    | [x] => match ts with
      | [t] => match tlook TT t with
        | some ti => match ti.k with
          | .slice _ _ => vLen (pev s x) (fun n => vPut d s (.val (.int .i64 n)) K) raw
          | _ => raw
        | none => raw
      | _ => raw
    | _ => raw
  | .min => match as with
    | [x, y] => vMM true (pev s x) (pev s y) (fun p => vPut d s p K) raw
    | _ => raw
  | .max => match as with
    | [x, y] => vMM false (pev s x) (pev s y) (fun p => vPut d s p K) raw
    | _ => raw
  | .append => match as with
    | [x, y] => match ts with
      | [t, t'] => match Nat.beq t t' with
        | true => match tlook TT t with
          | some ti => vApp F TT ti m d s (pev s x) (pev s y) K raw
          | none => raw
        | false => raw
      | _ => raw
    | _ => raw
  | .copy => match as with
    | [x, y] => match ts with
      | [t, t'] => match Nat.beq t t' with
        | true => match tlook TT t with
          | some ti => vCopy ti m d s (pev s x) (pev s y) K raw
          | none => raw
        | false => raw
      | _ => raw
    | _ => raw
  | _ => raw
def vCall (P : Program) (F : Fr) (TT : List TI) (X : List FuncId) (m : Md) (d : Option Tmp) (s : St) (c : Call) (K : St → Prop) (raw : Prop) : Prop := match c.callee with
  | .builtin b => vBuiltin F TT m d s b c.args.toList c.argTypes.toList K raw
  | .value x => match fnOf (pev s x) with
    | some f => match memX X f with
      | true => foL (c.args.toList.map (pev s)) fun l => valsG l (fun vs => ExtF P f vs fun p => vPut d s p K) raw
      | false => match m with
        | .S => raw
        | .E => foL (c.args.toList.map (pev s)) fun l => CallF P F true f l s fun s r => vPut d s r K
        | .L => foL (c.args.toList.map (pev s)) fun l => CallF P F false f l s fun s r => vPut d s r K
    | none => raw
  | _ => raw
theorem vCall_ok {c : Call} {raw : Prop} (hTT : TOk P TT) (ho : o.op = .call c) (h : vCall P F TT X m o.dst s c K raw) : Sem P F m o s K ∨ raw := by
  obtain ⟨cl, as, ts⟩ := c
  have ea : as = as.toList.toArray := by simp
  have et : ts = ts.toList.toArray := by simp
  unfold vCall at h
  simp only at h
  split at h
  · rename_i b
    generalize hA : as.toList = A at h ea
    generalize hT : ts.toList = T at h et
    unfold vBuiltin at h
    split at h
    · split at h
      · rename_i x
        split at h
        · rename_i t
          split at h
          · rename_i ti hti
            obtain ⟨t1, t2⟩ := tlook_ok hTT hti
            have tk := t1.k
            split at h
            · rename_i e z hz
              rw [hz] at tk
              have tk : elT P ti.t = some (e, z) := tk
              rw [ea, et] at ho
              rw [t2] at tk
              rcases vLen_ok ho tk h with ⟨p, h1, n, rfl, h2⟩ | h
              · exact .inl (vPut_still h1 h2)
              · exact .inr h
            · exact .inr h
          · exact .inr h
        · exact .inr h
      · exact .inr h
    · split at h
      · rename_i x y
        generalize hX : pev s x = X at h
        generalize hY : pev s y = Y at h
        rw [ea] at ho
        unfold vMM at h
        split at h
        · split at h
          · split at h
            · rename_i hk
              have hk := ikEq_ok hk
              subst hk
              exact .inl (vPut_still (still_min ho hX hY) h)
            · exact .inr h
          · exact .inr h
        · exact .inr h
      · exact .inr h
    · split at h
      · rename_i x y
        generalize hX : pev s x = X at h
        generalize hY : pev s y = Y at h
        rw [ea] at ho
        unfold vMM at h
        split at h
        · split at h
          · split at h
            · rename_i hk
              have hk := ikEq_ok hk
              subst hk
              exact .inl (vPut_still (still_max ho hX hY) h)
            · exact .inr h
          · exact .inr h
        · exact .inr h
      · exact .inr h
    · split at h
      · rename_i x y
        split at h
        · rename_i t t'
          split at h
          · rename_i hb
            have hb := Nat.eq_of_beq_eq_true hb
            subst hb
            split at h
            · rename_i ti hti
              obtain ⟨t1, t2⟩ := tlook_ok hTT hti
              rw [ea, et, ← t2] at ho
              exact vApp_ok hTT t1 ho h
            · exact .inr h
          · exact .inr h
        · exact .inr h
      · exact .inr h
    · split at h
      · rename_i x y
        split at h
        · rename_i t t'
          split at h
          · rename_i hb
            have hb := Nat.eq_of_beq_eq_true hb
            subst hb
            split at h
            · rename_i ti hti
              obtain ⟨t1, t2⟩ := tlook_ok hTT hti
              rw [ea, et, ← t2] at ho
              exact vCopy_ok t1 ho h
            · exact .inr h
          · exact .inr h
        · exact .inr h
      · exact .inr h
    · exact .inr h
  · rename_i x
    split at h
    · rename_i f hf
      have hf := fnOf_ok hf
      split at h
      · rcases valsG_ok (foL_eq h) with ⟨vs, hvs, h2⟩ | h2
        · obtain ⟨r, h3, h4⟩ := h2.h
          rw [ea] at ho
          exact .inl (vPut_still (still_ext ho hf hvs h3) h4)
        · exact .inr h2
      · split at h
        · exact .inr h
        · exact .inl (CallF.does (e := true) ho hf (foL_eq h))
        · exact .inl (CallF.does (e := false) ho hf (foL_eq h))
    · exact .inr h
  · exact .inr h

/-! ### every operation -/
def isBoolT (TT : List TI) (t : TypeId) : Bool := match tlook TT t with
  | some ti => match ti.k with
    | .bool => true
    | _ => false
  | none => false
theorem isBoolT_ok {t : TypeId} (hTT : TOk P TT) (h : isBoolT TT t = true) : P.underlying t = some .bool := by
  unfold isBoolT at h
  split at h
  · rename_i ti hti
    obtain ⟨t1, t2⟩ := tlook_ok hTT hti
    have := t1.k
    split at h
    · rename_i hk; rw [hk] at this; rw [← t2]; exact this
    · cases h
  · cases h
def vOp (P : Program) (F : Fr) (TT : List TI) (X : List FuncId) (m : Md) (o : Oper) (s : St) (K : St → Prop) : Prop := match o.op with
  | .move x => fo (pev s x) fun p => vPut o.dst s p K
  | .assign x => fo (pev s x) fun p => vPut o.dst s p K
  | .pick c x y => match pev s c with
    | .val (.bool b) => ForkG b (fo (pev s x) fun p => vPut o.dst s p K) (fo (pev s y) fun p => vPut o.dst s p K)
    | _ => RawG (Sem P F m o s K)
  | .binOp op t x y _ => vBin (isBoolT TT t) op (pev s x) (pev s y) (fun p => vPut o.dst s p K) (RawG (Sem P F m o s K))
  | .unOp op _ x => vUn op (pev s x) (fun p => vPut o.dst s p K) (RawG (Sem P F m o s K))
  | .convert t t' x => match tlook TT t with
    | some a => match tlook TT t' with
      | some b => vCon a b (pev s x) (fun p => vPut o.dst s p K) (RawG (Sem P F m o s K))
      | none => RawG (Sem P F m o s K)
    | none => RawG (Sem P F m o s K)
  | .extract x i => match pev s x with
    | .tup l => match lget l i with
      | some p => fo p fun p => vPut o.dst s p K
      | none => RawG (Sem P F m o s K)
    | _ => RawG (Sem P F m o s K)
  | .load t x => match tlook TT t with
    | some ti => vLoad ti s (pev s x) fun p => vPut o.dst s p K
    | none => RawG (Sem P F m o s K)
  | .store t x y => match tlook TT t with
    | some ti => vStore ti m o.dst s (pev s x) (pev s y) K (RawG (Sem P F m o s K))
    | none => RawG (Sem P F m o s K)
  | .alloc t => match tlook TT t with
    | some ti => match m.mem with
      | true => vAlloc ti o.dst s K
      | false => RawG (Sem P F m o s K)
    | none => RawG (Sem P F m o s K)
  | .box t x => match m.mem with
    | true => vBox o.dst s (pev s x) K (RawG (Sem P F m o s K))
    | false => RawG (Sem P F m o s K)
  | .build t ps => match tlook TT t with
    | some ti => vBuild ti s ps.toList fun p => vPut o.dst s p K
    | none => RawG (Sem P F m o s K)
  | .buildSlice t n ps => match tlook TT t with
    | some ti => vLit TT ti m o.dst s n ps.toList K (RawG (Sem P F m o s K))
    | none => RawG (Sem P F m o s K)
  | .makeSlice t x y => match tlook TT t with
    | some ti => match o.dst with
      | some d => vMake TT ti m (some d) s (pev s x) (pev s y) K (RawG (Sem P F m o s K))
      | none => RawG (Sem P F m o s K)
    | none => RawG (Sem P F m o s K)
  | .slice t x lo hi mx => match tlook TT t with
    | some ti => vSlc ti s (pev s x) lo hi mx (fun p => vPut o.dst s p K) (RawG (Sem P F m o s K))
    | none => RawG (Sem P F m o s K)
  | .fieldAddr t x i => match tlook TT t with
    | some ti => match ti.k with
      | .str fs => vFa fs i (pev s x) fun p => vPut o.dst s p K
      | _ => RawG (Sem P F m o s K)
    | none => RawG (Sem P F m o s K)
  | .field t x i => match tlook TT t with
    | some ti => match ti.k with
      | .str fs => vField TT fs i (pev s x) fun p => vPut o.dst s p K
      | _ => RawG (Sem P F m o s K)
    | none => RawG (Sem P F m o s K)
  | .indexAddr t x y => match tlook TT t with
    | some ti => match pev s y with
      | .val (.int _ i) => vIdx F ti s (pev s x) i fun p => vPut o.dst s p K
      | _ => RawG (Sem P F m o s K)
    | none => RawG (Sem P F m o s K)
  | .index t x y => match tlook TT t with
    | some ti => match pev s y with
      | .val (.int _ i) => vIndex TT ti (pev s x) i (fun p => vPut o.dst s p K) (RawG (Sem P F m o s K))
      | _ => RawG (Sem P F m o s K)
    | none => RawG (Sem P F m o s K)
  | .call c => vCall P F TT X m o.dst s c K (RawG (Sem P F m o s K))
  | _ => RawG (Sem P F m o s K)
theorem Sem.of (h : Sv P F o s (fun p => vPut o.dst s p K) ∨ RawG (Sem P F m o s K)) : Sem P F m o s K := by
  rcases h with h | h
  · exact h.sem
  · exact h.h
theorem Sem.of' (h : Sem P F m o s K ∨ RawG (Sem P F m o s K)) : Sem P F m o s K := by
  rcases h with h | h
  · exact h
  · exact h.h
theorem vOp_ok (hTT : TOk P TT) (h : vOp P F TT X m o s K) : Sem P F m o s K := by
  unfold vOp at h
  split at h
  · rename_i ho; exact vPut_still (still_move ho) (fo_eq h)
  · rename_i ho; exact vPut_still (still_assign ho) (fo_eq h)
  · rename_i ho
    split at h
    · rename_i b hx
      cases b with
      | true => exact vPut_still (by simpa using still_pick ho hx) (fo_eq (h.t rfl))
      | false => exact vPut_still (by simpa using still_pick ho hx) (fo_eq (h.f rfl))
    · exact h.h
  · rename_i ho; exact Sem.of (vBin_ok ho (isBoolT_ok hTT) h)
  · rename_i ho; exact Sem.of (vUn_ok ho h)
  · rename_i ho
    split at h
    · rename_i a ha
      split at h
      · rename_i b hb
        obtain ⟨a1, a2⟩ := tlook_ok hTT ha
        obtain ⟨b1, b2⟩ := tlook_ok hTT hb
        subst a2 b2
        exact Sem.of (vCon_ok a1 b1 ho h)
      · exact h.h
    · exact h.h
  · rename_i ho
    split at h
    · rename_i l hx
      split at h
      · rename_i p hp
        rw [lget_eq] at hp
        exact vPut_still (still_extract ho hx hp) (fo_eq h)
      · exact h.h
    · exact h.h
  · rename_i ho
    split at h
    · rename_i ti hti
      obtain ⟨t1, t2⟩ := tlook_ok hTT hti
      subst t2
      exact (vLoad_ok t1 ho h).sem
    · exact h.h
  · rename_i ho
    split at h
    · rename_i ti hti
      obtain ⟨t1, t2⟩ := tlook_ok hTT hti
      subst t2
      exact Sem.of' (vStore_ok t1 ho h)
    · exact h.h
  · rename_i ho
    split at h
    · rename_i ti hti
      obtain ⟨t1, t2⟩ := tlook_ok hTT hti
      subst t2
      split at h
      · rename_i hm; exact vAlloc_ok hm t1 ho h
      · exact h.h
    · exact h.h
  · rename_i ho
    split at h
    · rename_i hm; exact Sem.of' (vBox_ok hm ho h)
    · exact h.h
  · rename_i ho
    split at h
    · rename_i ti hti
      obtain ⟨t1, t2⟩ := tlook_ok hTT hti
      subst t2
      exact (vBuild_ok t1 ho h).sem
    · exact h.h
  · rename_i ho
    split at h
    · rename_i ti hti
      obtain ⟨t1, t2⟩ := tlook_ok hTT hti
      subst t2
      exact Sem.of' (vLit_ok hTT t1 ho h)
    · exact h.h
  · rename_i ho
    split at h
    · rename_i ti hti
      obtain ⟨t1, t2⟩ := tlook_ok hTT hti
      subst t2
      split at h
      · rename_i d hd
        rw [← hd] at h
        exact Sem.of' (vMake_ok hTT t1 ho (by simp [hd]) h)
      · exact h.h
    · exact h.h
  · rename_i ho
    split at h
    · rename_i ti hti
      obtain ⟨t1, t2⟩ := tlook_ok hTT hti
      subst t2
      exact Sem.of (vSlc_ok t1 ho h)
    · exact h.h
  · rename_i ho
    split at h
    · rename_i ti hti
      obtain ⟨t1, t2⟩ := tlook_ok hTT hti
      subst t2
      have tk := t1.k
      split at h
      · rename_i hk
        rw [hk] at tk
        exact (vFa_ok tk ho h).sem
      · exact h.h
    · exact h.h
  · rename_i ho
    split at h
    · rename_i ti hti
      obtain ⟨t1, t2⟩ := tlook_ok hTT hti
      subst t2
      have tk := t1.k
      split at h
      · rename_i hk
        rw [hk] at tk
        exact (vField_ok hTT tk ho h).sem
      · exact h.h
    · exact h.h
  · rename_i ho
    split at h
    · rename_i ti hti
      obtain ⟨t1, t2⟩ := tlook_ok hTT hti
      subst t2
      split at h
      · rename_i hy; exact (vIdx_ok t1 ho hy h).sem
      · exact h.h
    · exact h.h
  · rename_i ho
    split at h
    · rename_i ti hti
      obtain ⟨t1, t2⟩ := tlook_ok hTT hti
      subst t2
      split at h
      · rename_i hy; exact Sem.of (vIndex_ok hTT t1 ho hy h)
      · exact h.h
    · exact h.h
  · rename_i ho; exact Sem.of' (vCall_ok hTT ho h)
  · exact h.h
end
end Go.Proofs.YtlbnlalkimnhdaaDoor.Sim
