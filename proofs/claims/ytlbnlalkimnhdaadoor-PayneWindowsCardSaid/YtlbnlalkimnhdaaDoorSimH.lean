/-
  Sim, part H: cuts, a row given away for good, append, copy, literals, functions without a body.
-/
import Derived.Test.YtlbnlalkimnhdaaDoorSimD
namespace Go.Proofs.YtlbnlalkimnhdaaDoor.Sim
open Go.RowKit
set_option linter.unusedVariables false
set_option linter.unusedSimpArgs false
section
variable {P : Program} {F : Fr} {s : St} {o : Oper}

theorem addr_add (g o j : Nat) : (⟨g, o, none⟩ : Addr).add j = ⟨g, o + j, none⟩ := by unfold Addr.add; split <;> simp_all
def evI (s : St) (x : Option Operand) (z : Int) : Option Int := match x with
  | none => some z
  | some x => match pev s x with
    | .val (.int _ i) => some i
    | _ => none
theorem evI_some {c : Cx} {a : Act} {w : World} (hi : Inv F c s a w) {x : Operand} {z i : Int} (h : evI s (some x) z = some i) : ∃ k, a.eval x = .int k i := by
  simp only [evI] at h
  split at h
  · rename_i k j hj
    cases h
    exact ⟨k, pev_val hi hj⟩
  · cases h
theorem elem_of {t e : TypeId} (h : P.underlying t = some (.slice e)) : P.elem t = e := by simp [Program.elem, h]
/-- The cut as it runs. -/
theorem run_cut {c : Cx} {A : Act} {w : World} (hi : Inv F c s A w) {ty e : TypeId} {sz : Nat} (ht : elT P ty = some (e, sz)) {x : Operand} {lo hi' mx : Option Operand} {B : Option Addr} {n cap : Nat} (ho : o.op = .slice ty x lo hi' mx) (hx : A.eval x = .slice B n cap) (hnc : n ≤ cap)
    {l h m : Int} (h1 : evI s lo 0 = some l) (h2 : evI s hi' n = some h) (h3 : evI s mx cap = some m) (hmx : mx.isSome = true → hi'.isSome = true) (hb : 0 ≤ l ∧ l ≤ h ∧ h ≤ n ∧ h ≤ m ∧ m ≤ cap) (w' : World) :
    (execOp A.eval o).run P w' = .ok (.value (sliced B l.toNat h.toNat m.toNat sz)) w' := by
  obtain ⟨hu, hz⟩ := elT_ok ht
  have hel := elem_of hu
  have hu' : P.underlying ty = some (.slice (P.elem ty)) := by rw [hel]; exact hu
  obtain ⟨b1, b2, b3, b4, b5⟩ := hb
  have hcap : (cap : Int).toNat = cap := Int.toNat_natCast cap
  have hlen : (n : Int).toNat = n := Int.toNat_natCast n
  cases mx with
  | none =>
    simp only [evI, Option.some.injEq] at h3; subst h3
    rw [hcap]
    cases hi' with
    | none =>
      simp only [evI, Option.some.injEq] at h2; subst h2
      rw [hlen]
      cases lo with
      | none =>
        simp only [evI, Option.some.injEq] at h1; subst h1
        simp [execOp, ho, hx, run_sliceAt_slice w' ty _ _ _ _ hu', run_slice_all w' ty B n cap hu', hel, run_szT hz, Result.andThen]
      | some lo =>
        obtain ⟨k1, e1⟩ := evI_some hi h1
        simp [execOp, ho, hx, e1, run_sliceAt_slice w' ty _ _ _ _ hu', run_slice_l w' ty B n cap hu' k1 l b1 (by omega), hel, run_szT hz, Result.andThen]
    | some hi' =>
      obtain ⟨k2, e2⟩ := evI_some hi h2
      cases lo with
      | none =>
        simp only [evI, Option.some.injEq] at h1; subst h1
        simp [execOp, ho, hx, e2, run_sliceAt_slice w' ty _ _ _ _ hu', run_slice_h w' ty B n cap hu' k2 h (by omega) (by omega), hel, run_szT hz, Result.andThen]
      | some lo =>
        obtain ⟨k1, e1⟩ := evI_some hi h1
        simp [execOp, ho, hx, e1, e2, run_sliceAt_slice w' ty _ _ _ _ hu', run_slice_lh w' ty B n cap hu' k1 k2 l h b1 b2 (by omega), hel, run_szT hz, Result.andThen]
  | some mx =>
    obtain ⟨k3, e3⟩ := evI_some hi h3
    cases hi' with
    | none => simp at hmx
    | some hi' =>
      obtain ⟨k2, e2⟩ := evI_some hi h2
      cases lo with
      | none =>
        simp only [evI, Option.some.injEq] at h1; subst h1
        simp [execOp, ho, hx, e2, e3, run_sliceAt_slice w' ty _ _ _ _ hu', run_slice_hm w' ty B n cap hu' k2 k3 h m (by omega) b4 b5, hel, run_szT hz, Result.andThen]
      | some lo =>
        obtain ⟨k1, e1⟩ := evI_some hi h1
        simp [execOp, ho, hx, e1, e2, e3, run_sliceAt_slice w' ty _ _ _ _ hu', run_slice_lhm w' ty B n cap hu' k1 k2 k3 l h m b1 b2 b4 b5, hel, run_szT hz, Result.andThen]
theorem rep_cut {c : Cx} {sz n cap l h m : Nat} {L : List PV} {B : Option Addr} (hr : Rep c (.sl sz L) (.slice B n cap)) (h1 : l ≤ h) (h2 : h ≤ n) (h3 : h ≤ m) (h4 : m ≤ cap) : Rep c (.sl sz ((L.take (h * sz)).drop (l * sz))) (sliced B l h m sz) := by
  cases hr with
  | sl k0 k1 k2 k3 k4 =>
  rename_i us
  unfold sliced
  refine .sl (us := (us.take (h * sz)).drop (l * sz)) k0 ?_ (by omega) ((k3.take _).drop _) fun j u hu => ?_
  · have : h * sz ≤ n * sz := Nat.mul_le_mul_right _ h2
    simp only [List.length_drop, List.length_take, Nat.sub_mul]; omega
  · rw [List.getElem?_drop, List.getElem?_take] at hu
    split at hu
    · rename_i hlt
      obtain ⟨ad, rfl, hρ⟩ := k4 _ _ hu
      have hne : m ≠ l := by
        intro e
        have : h = l := by omega
        rw [this] at hlt; omega
      rw [if_neg hne]
      exact ⟨_, rfl, by rw [add_zero_off]; exact hρ⟩
    · cases hu
theorem still_cutW {ty e : TypeId} {x : Operand} {lo hi' mx : Option Operand} {k : IntKind} {a : List Int} {l h : Int} (ho : o.op = .slice ty x lo hi' mx) (hx : pev s x = ws k a) (ht : elT P ty = some (e, 1)) (h1 : evI s lo 0 = some l) (h2 : evI s hi' a.length = some h)
    (h3 : evI s mx h = some h) (hmx : mx.isSome = true → hi'.isSome = true) (hb : 0 ≤ l ∧ l ≤ h ∧ h ≤ a.length) : Still P F o s (ws k ((a.take h.toNat).drop l.toNat)) := by
  intro c A w hi
  have hr := pev_rep hi x
  rw [hx] at hr
  generalize hq : A.eval x = z at hr
  replace hr := rep_ws.1 hr
  have hr0 := hr
  cases hr with
  | @sl _ _ n cap B _ us k0 k1 k2 k3 k4 =>
    have hn : n = a.length := by simpa using k1
    subst hn
    have hm : ∃ m : Int, evI s mx cap = some m ∧ h ≤ m ∧ m ≤ cap := by
      cases mx with
      | none => exact ⟨cap, rfl, by omega, by omega⟩
      | some mx => exact ⟨h, h3, by omega, by omega⟩
    obtain ⟨m, h3', hm1, hm2⟩ := hm
    have hrep := rep_cut (l := l.toNat) (h := h.toNat) (m := m.toNat) hr0 (by omega) (by omega) (by omega) (by omega)
    have he : ((a.map (wv k)).take (h.toNat * 1)).drop (l.toNat * 1) = ((a.take h.toNat).drop l.toNat).map (wv k) := by simp [List.map_take, List.map_drop]
    rw [he] at hrep
    exact ⟨_, rep_ws.2 hrep, fun w' _ => run_cut hi ht ho hq k2 h1 h2 h3' hmx ⟨hb.1, hb.2.1, by omega, hm1, hm2⟩ w'⟩
theorem still_cutR {ty e : TypeId} {x : Operand} {lo hi' mx : Option Operand} {q b n sz : Nat} {r : Row} {l h : Int} (ho : o.op = .slice ty x lo hi' mx) (hx : pev s x = .arr q b n) (hr0 : s.ob[q]? = some (some r)) (hsz : r.sz = sz) (ht : elT P ty = some (e, sz)) (h1 : evI s lo 0 = some l) (h2 : evI s hi' n = some h)
    (h3 : evI s mx h = some h) (hmx : mx.isSome = true → hi'.isSome = true) (hb : 0 ≤ l ∧ l ≤ h ∧ h ≤ n) : Still P F o s (.arr q (b + l.toNat) (h.toNat - l.toNat)) := by
  intro c A w hi
  have hr := pev_rep hi x
  rw [hx] at hr
  generalize hq : A.eval x = z at hr
  cases hr with
  | @arr _ _ _ _ cap X ad k1 k2 k3 k4 k5 =>
    have hX : X.sz = sz := by
      obtain ⟨x', us, a1, a2, _⟩ := hi.W.obj q r hr0
      rw [k1] at a1; cases a1; rw [a2, hsz]
    have hm : ∃ m : Int, evI s mx cap = some m ∧ h ≤ m ∧ m ≤ cap := by
      cases mx with
      | none => exact ⟨cap, rfl, by omega, by omega⟩
      | some mx => exact ⟨h, h3, by omega, by omega⟩
    obtain ⟨m, h3', hm1, hm2⟩ := hm
    refine ⟨_, ?_, fun w' _ => run_cut hi ht ho hq k3 h1 h2 h3' hmx ⟨hb.1, hb.2.1, hb.2.2, hm1, hm2⟩ w'⟩
    unfold sliced
    have e1 : (if m.toNat = l.toNat then some ad else Option.map (fun x => x.add (l.toNat * sz)) (some ad)) = some (if m.toNat = l.toNat then ad else ad.add (l.toNat * sz)) := by split <;> rfl
    rw [e1]
    refine .arr k1 k2 (by omega) (fun hc => ?_) (fun hc => ?_)
    · rw [if_neg (by omega), k4 (by omega), hX]
      unfold Addr.add
      split
      · rename_i h0; rw [Nat.add_mul, h0, Nat.add_zero]
      · simp [Nat.add_mul]
    · have := k5 (by omega)
      have h5 : (b + l.toNat + (m.toNat - l.toNat)) * X.sz ≤ (b + cap) * X.sz := Nat.mul_le_mul_right _ (by omega)
      omega

variable {ops : Rg} {rest : List Oper} {K : St → Prop} {p : PV} {N d : Nat} {t : Nat → PV} {bx : List (List PV)} {ob : List (Option Row)}
/-! ### a row given away: nobody writes it any more -/
theorem SimW.freeze {c : Cx} {bx : List (List PV)} {ob : List (Option Row)} {w : World} (h : SimW c bx ob w) {q : Nat} {x : Ob} {r : Row} {us : List Value} (hr : ob[q]? = some (some r)) (hx : c.ob[q]? = some x) (hus : w.heap[x.g]? = some (.cells us.toArray x.T (0, 0))) (hc : RepL c.strip r.cs (us.take r.cs.length)) (ρ' : Addr → Option Value)
    (hρ : ∀ ad, ρ' ad = if ad.block = x.g ∧ ad.spot = none ∧ ad.off < r.cs.length then us[ad.off]? else c.ρ ad) : c.le { c with ρ := ρ' } ∧ SimW { c with ρ := ρ' } bx (ob.set q none) w := by
  have hnew : ∀ ad u, ρ' ad = some u → c.ρ ad = some u ∨ ad.block = x.g := by
    intro ad u hu
    rw [hρ] at hu
    split at hu
    · rename_i hh; exact .inr hh.1
    · exact .inl hu
  have k : c.le { c with ρ := ρ' } := by
    refine ⟨fun ad u hu => ?_, fun _ _ h => h, fun _ _ h => h⟩
    show ρ' ad = some u
    rw [hρ, if_neg (fun hh => h.so ad u q x r hu hr hx hh.1)]
    exact hu
  have live : ∀ (i : Nat) (l : Row), (ob.set q none)[i]? = some (some l) → i ≠ q ∧ ob[i]? = some (some l) := by
    intro i l hl
    rcases set_get hl with ⟨_, e, _⟩ | ⟨hne, hl⟩
    · cases e
    · exact ⟨hne, hl⟩
  refine ⟨k, ⟨fun ad u hu => ?_, h.bl, by simp [h.ol], fun i l hi => ?_, fun i l hl => ?_, h.nb, fun i j y z l m hl hm hy hz e => h.no i j y z l m (live i l hl).2 (live j m hm).2 hy hz e, fun i y l hl hy => h.nbo i y l (live i l hl).2 hy, fun ad u hu => ?_, fun ad u i y l hu hl hy => ?_⟩⟩
  · have hu' : ρ' ad = some u := hu
    rw [hρ] at hu'
    split at hu'
    · rename_i hh
      simpa [World.cell?, hh.1, hus, hh.2.1] using hu'
    · exact h.mem ad u hu'
  · obtain ⟨g, us', T, a1, a2, a3⟩ := h.box i l hi
    exact ⟨g, us', T, a1, a2, a3.up k⟩
  · obtain ⟨y, us', a1, a2, a3, a4, a5, a6, a7⟩ := h.obj i l (live i l hl).2
    exact ⟨y, us', a1, a2, a3, a4, a5, a6, a7.up k.strip⟩
  · rcases hnew ad u hu with hu | hu
    · exact h.sb ad u hu
    · rw [hu]; exact h.nbo q x r hr hx
  · obtain ⟨hne, hl'⟩ := live i l hl
    rcases hnew ad u hu with hu | hu
    · exact h.so ad u i y l hu hl' hy
    · rw [hu]
      exact fun e => hne (h.no i q y x l r hl' hr hy hx e.symm)
theorem freeze_inv {c : Cx} {a : Act} {w : World} (hi : Inv F c ⟨N, t, bx, ob⟩ a w) {q b n : Nat} {k : IntKind} {T : TypeId} {A : List Int} (hd : t d = .arr q b n) (hr : ob[q]? = some (some (rw_ k T A))) (hle : b + n ≤ A.length) (hown : F.c0.ob.length ≤ q) :
    ∃ c', Inv F c' ⟨N, upd t d (ws k ((A.drop b).take n)), bx, ob.set q none⟩ a w := by
  obtain ⟨x, us, a1, a2, a3, a4, a5, a6, a7⟩ := hi.W.obj q _ hr
  obtain ⟨ρ', hρ⟩ : ∃ ρ' : Addr → Option Value, ∀ ad, ρ' ad = if ad.block = x.g ∧ ad.spot = none ∧ ad.off < (rw_ k T A).cs.length then us[ad.off]? else c.ρ ad := ⟨_, fun _ => rfl⟩
  obtain ⟨kle, hW⟩ := hi.W.freeze hr a1 a5 a7 ρ' hρ
  refine ⟨{ c with ρ := ρ' }, ⟨hW, hi.nd, hi.sz, fun y => ?_, hi.kp, fun ad u hu => kle.ρ _ _ (hi.rho ad u hu), fun ad u hu => ?_, hi.obp, hi.obB, hi.bbB⟩⟩
  · show Rep _ (upd t d (ws k ((A.drop b).take n)) y) _
    by_cases hy : y = d
    · subst hy
      rw [upd_same]
      have htm := hi.tm y
      change Rep c (t y) _ at htm
      rw [hd] at htm
      generalize a.tmps.getD y undef = z at htm ⊢
      cases htm with
      | @arr _ _ _ _ cap X ad k1 k2 k3 k4 k5 =>
        rw [a1] at k1; cases k1
        have hsz : x.sz = 1 := a2
        have hcs : (rw_ k T A).cs.length = A.length := by simp [rw_, cs_w]
        refine rep_ws.2 (.sl (us := ((us.take A.length).drop b).take n) Nat.one_pos (by simp; omega) k3 ?_ fun j u hu => ?_)
        · have h7 := a7.up kle.strip
          rw [hcs] at h7
          have := (h7.drop b).take n
          simpa [rw_, cs_w, List.map_take, List.map_drop] using this
        · rw [List.getElem?_take] at hu
          split at hu
          · rename_i hj
            rw [List.getElem?_drop, List.getElem?_take] at hu
            split at hu
            · rename_i hj2
              refine ⟨ad, rfl, ?_⟩
              have had : ad.add j = ⟨x.g, b + j, none⟩ := by rw [k4 (by omega), hsz, Nat.mul_one, addr_add]
              show ρ' (ad.add j) = some u
              rw [had, hρ, if_pos ⟨rfl, rfl, by simp only [hcs]; exact hj2⟩]
              exact hu
            · cases hu
          · cases hu
    · rw [upd_ne _ _ _ hy]; exact (hi.tm y).up kle
  · have hu' : ρ' ad = some u := hu
    rw [hρ] at hu'
    split at hu'
    · rename_i hh
      exact .inr (by rw [hh.1]; exact hi.obB q x hown a1)
    · exact hi.new ad u hu'
theorem Ops.freeze {l : List Oper} (d : Nat) {q b n : Nat} {k : IntKind} {T : TypeId} {A B : List Int} (hd : t d = .arr q b n) (hr : ob[q]? = some (some (rw_ k T A))) (hle : b + n ≤ A.length) (hB : (A.drop b).take n = B) (hown : F.c0.ob.length ≤ q) (h : ∀ c, c = ob.set q none → Ops P F ops l ⟨N, upd t d (ws k B), bx, c⟩ K) : Ops P F ops l ⟨N, t, bx, ob⟩ K := by
  subst hB
  exact Ops.lift (fun c a w hi => freeze_inv hi hd hr hle hown) (h _ rfl)
theorem Cd.freeze {cd : Code} {Q : Exit → St → Prop} (d : Nat) {q b n : Nat} {k : IntKind} {T : TypeId} {A B : List Int} (hd : t d = .arr q b n) (hr : ob[q]? = some (some (rw_ k T A))) (hle : b + n ≤ A.length) (hB : (A.drop b).take n = B) (hown : F.c0.ob.length ≤ q) (h : ∀ c, c = ob.set q none → Cd P F cd ⟨N, upd t d (ws k B), bx, c⟩ Q) : Cd P F cd ⟨N, t, bx, ob⟩ Q := by
  subst hB
  intro c a w hi
  obtain ⟨c', hi'⟩ := freeze_inv hi hd hr hle hown
  exact h _ rfl c' a w hi'
/-- nil is an empty slice. -/
theorem unnil_inv {c : Cx} {a : Act} {w : World} (hi : Inv F c ⟨N, t, bx, ob⟩ a w) (d : Nat) (k : IntKind) (hd : t d = .nil) : Inv F c ⟨N, upd t d (ws k []), bx, ob⟩ a w := by
  refine ⟨hi.W, hi.nd, hi.sz, fun y => ?_, hi.kp, hi.rho, hi.new, hi.obp, hi.obB, hi.bbB⟩
  by_cases hy : y = d
  · subst hy
    have htm := hi.tm y
    change Rep c (t y) _ at htm
    rw [hd] at htm
    show Rep c (upd t y (ws k []) y) _
    rw [upd_same]
    generalize a.tmps.getD y undef = z at htm ⊢
    cases htm
    exact rep_ws.2 (.sl (us := []) Nat.one_pos (by simp) (Nat.le_refl _) .nil fun j u hu => by simp at hu)
  · show Rep c (upd t d (ws k []) y) _
    rw [upd_ne _ _ _ hy]; exact hi.tm y
theorem Ops.unnil {l : List Oper} (d : Nat) (k : IntKind) (hd : t d = .nil) (h : Ops P F ops l ⟨N, upd t d (ws k []), bx, ob⟩ K) : Ops P F ops l ⟨N, t, bx, ob⟩ K :=
  Ops.lift (fun c a w hi => ⟨c, unnil_inv hi d k hd⟩) h
theorem Cd.unnil {cd : Code} {Q : Exit → St → Prop} (d : Nat) (k : IntKind) (hd : t d = .nil) (h : Cd P F cd ⟨N, upd t d (ws k []), bx, ob⟩ Q) : Cd P F cd ⟨N, t, bx, ob⟩ Q :=
  fun c a w hi => h c a w (unnil_inv hi d k hd)

/-! ### functions without a body -/
def ExtOk (P : Program) (f : FuncId) (vs : List Value) (r : PV) : Prop := ∃ v, (∀ c, Rep c r v) ∧ ∀ w, (callFunc f vs.toArray).run P w = .ok (.value v) w
theorem vals_eq {c : Cx} : ∀ {vs us : List Value}, RepL c (vs.map .val) us → us = vs
  | [], _, .nil => rfl
  | _ :: _, _, .cons h t => by cases h; rw [vals_eq t]
theorem still_ext {f : FuncId} {x : Operand} {as : List Operand} {ts : Array TypeId} {vs : List Value} (ho : o.op = .call { callee := .value x, args := as.toArray, argTypes := ts }) (hx : pev s x = .val (.func (.func f) #[] #[])) (ha : as.map (pev s) = vs.map .val) (h : ExtOk P f vs p) : Still P F o s p := by
  obtain ⟨v, hr, hrun⟩ := h
  intro c a w hi
  refine ⟨v, hr c, fun w' _ => ?_⟩
  have h1 := evalL hi as
  rw [ha] at h1
  have hargs := vals_eq h1
  have he : as.toArray.map a.eval = vs.toArray := by simp [hargs]
  simp only [execOp, ho, resolve, pev_val hi hx, Deferred.ofValue, Sem.run_bind, Sem.run_pure, Result.andThen_ok, invoke, Array.empty_append, Array.append_empty, he, hrun]
end
end Go.Proofs.YtlbnlalkimnhdaaDoor.Sim
