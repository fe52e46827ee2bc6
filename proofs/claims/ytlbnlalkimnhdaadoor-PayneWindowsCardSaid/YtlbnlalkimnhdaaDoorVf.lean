/-
  Sim, part Vf: contracts of functions that write into their caller's rows, or answer rows to be written. No condition.
-/
import Derived.Test.YtlbnlalkimnhdaaDoorVe
namespace Go.Proofs.YtlbnlalkimnhdaaDoor.Sim
open Go.RowKit
set_option linter.unusedVariables false
set_option linter.unusedSimpArgs false
/-- A contract over rows: those that are handed in (by their numbers in args), and what becomes of them (new ones behind). -/
structure PM (P : Program) (G : List (Nat × List Value)) (f : FuncId) (args : List PV) (rows : List Row) (Q : PV → List (Option Row) → Prop) : Prop where
  c : callable P f = true
  h : ∀ (ρ : Addr → Option Value) (w : World) (vs : List Value) (obs : List Ob), GOk G ρ → SimW ⟨ρ, [], obs⟩ [] (rows.map some) w → RepL ⟨ρ, [], obs⟩ args vs →
    Calls P f vs.toArray w fun e w' => ∃ v r ρ' obs' rows', e = .returned v ∧ Q r rows' ∧ (∀ ad u, ρ ad = some u → ρ' ad = some u) ∧ SimW ⟨ρ', [], obs'⟩ [] rows' w' ∧ Rep ⟨ρ', [], obs'⟩ r v ∧ Kp (obs.map (·.g)) w.heap.size w w' ∧
      (∀ ad u, ρ' ad = some u → ρ ad = some u ∨ w.heap.size ≤ ad.block) ∧ (∀ (i : Nat) (x : Ob), obs[i]? = some x → obs'[i]? = some x) ∧ (∀ (i : Nat) (x : Ob), obs.length ≤ i → obs'[i]? = some x → w.heap.size ≤ x.g)
theorem PM.mono {P : Program} {G : List (Nat × List Value)} {f : FuncId} {args : List PV} {rows : List Row} {Q Q' : PV → List (Option Row) → Prop} (h : PM P G f args rows Q) (k : ∀ r rs, Q r rs → Q' r rs) : PM P G f args rows Q' :=
  ⟨h.c, fun ρ w vs obs hG hW hr => (h.h ρ w vs obs hG hW hr).mono fun e w' ⟨v, r, ρ', obs', rows', h1, h2, h3⟩ => ⟨v, r, ρ', obs', rows', h1, k _ _ h2, h3⟩⟩
mutual
/-- Rows no further than k, no boxes. -/
def okA (k : Nat) : PV → Bool
  | .arr i _ _ => Nat.blt i k
  | .ead i _ => Nat.blt i k
  | .ptr _ _ => false
  | .agg l => okAL k l
  | .tup l => okAL k l
  | .val _ => true
  | .nil => true
  | .ws _ _ => true
  | .sl _ _ => true
  | .fs _ _ _ => true
  | .cel _ => true
  | .cw _ _ _ => true
  | .cf _ _ _ => true
  | .emp => true
  | .any => true
def okAL (k : Nat) : List PV → Bool
  | [] => true
  | p :: l => okA k p && okAL k l
end
def renI (σ : List Nat) (m i : Nat) : Nat := match σ with
  | [] => m + i
  | q :: σ => match i with
    | 0 => q
    | i + 1 => renI σ m i
mutual
def ren (σ : List Nat) (m : Nat) : PV → PV
  | .arr i lo n => .arr (renI σ m i) lo n
  | .ead i j => .ead (renI σ m i) j
  | .ptr _ _ => .any
  | .agg l => .agg (renL σ m l)
  | .tup l => .tup (renL σ m l)
  | .val v => .val v
  | .nil => .nil
  | .ws k a => .ws k a
  | .sl z l => .sl z l
  | .fs z n f => .fs z n f
  | .cel l => .cel l
  | .cw k a i => .cw k a i
  | .cf f i n => .cf f i n
  | .emp => .emp
  | .any => .any
def renL (σ : List Nat) (m : Nat) : List PV → List PV
  | [] => []
  | p :: l => ren σ m p :: renL σ m l
end
theorem renI_lt : ∀ {σ : List Nat} {m i : Nat}, i < σ.length → σ[i]? = some (renI σ m i)
  | [], _, _, h => by simp at h
  | q :: σ, m, 0, h => rfl
  | q :: σ, m, i + 1, h => by simpa [renI] using renI_lt (σ := σ) (m := m) (i := i) (by simpa using h)
theorem renI_ge : ∀ {σ : List Nat} {m i : Nat}, σ.length ≤ i → renI σ m i = m + (i - σ.length)
  | [], _, _, h => by simp [renI]
  | q :: σ, m, 0, h => by simp at h
  | q :: σ, m, i + 1, h => by simp only [renI]; rw [renI_ge (by simpa using h)]; simp
-- from the caller's spelling to the callee's
mutual
theorem Rep.unren {c d : Cx} {σ : List Nat} {m : Nat} (hρ : c.ρ = d.ρ) (ho : ∀ (i : Nat) (x : Ob), i < σ.length → c.ob[renI σ m i]? = some x → d.ob[i]? = some x) : ∀ {p : PV} {v : Value}, okA σ.length p = true → Rep c (ren σ m p) v → Rep d p v
  | .val _, _, _, h => by simp only [ren] at h; cases h; exact .val _
  | .nil, _, _, h => by simp only [ren] at h; cases h; exact .nil
  | .ws _ _, _, _, h => by simp only [ren] at h; cases h with | ws h1 h2 h4 => exact .ws h1 h2 (hρ ▸ h4)
  | .sl _ _, _, _, h => by
    have e : c.strip = d.strip := by simp [Cx.strip, hρ]
    simp only [ren] at h; cases h with | sl h0 h1 h2 h3 h4 => exact .sl h0 h1 h2 (e ▸ h3) (hρ ▸ h4)
  | .fs _ _ _, _, _, h => by
    have e : c.strip = d.strip := by simp [Cx.strip, hρ]
    simp only [ren] at h; cases h with | fs h0 h1 h2 h3 h4 => exact .fs h0 h1 h2 (e ▸ h3) (hρ ▸ h4)
  | .cel _, _, _, h => by
    have e : c.strip = d.strip := by simp [Cx.strip, hρ]
    simp only [ren] at h; cases h with | cel h3 h4 => exact .cel (e ▸ h3) (hρ ▸ h4)
  | .cw _ _ _, _, _, h => by simp only [ren] at h; cases h with | cw h0 h4 => exact .cw h0 (hρ ▸ h4)
  | .cf _ _ _, _, _, h => by
    have e : c.strip = d.strip := by simp [Cx.strip, hρ]
    simp only [ren] at h; cases h with | cf h1 h3 h4 => exact .cf h1 (e ▸ h3) (hρ ▸ h4)
  | .emp, _, _, h => by simp only [ren] at h; cases h; exact .emp
  | .any, _, _, h => .any _
  | .ptr _ _, _, k, h => by simp [okA] at k
  | .arr i _ _, _, k, h => by
    simp only [ren] at h
    simp only [okA] at k
    cases h with | arr h h0 h2 h3 h4 => exact .arr (ho _ _ (by simpa using k) h) h0 h2 h3 h4
  | .ead i _, _, k, h => by
    simp only [ren] at h
    simp only [okA] at k
    cases h with | ead h => exact .ead (ho _ _ (by simpa using k) h)
  | .agg l, _, k, h => by
    simp only [ren] at h
    simp only [okA] at k
    cases h with | agg h => exact .agg (RepL.unren hρ ho k h)
  | .tup l, _, k, h => by
    simp only [ren] at h
    simp only [okA] at k
    cases h with | tup h => exact .tup (RepL.unren hρ ho k h)
theorem RepL.unren {c d : Cx} {σ : List Nat} {m : Nat} (hρ : c.ρ = d.ρ) (ho : ∀ (i : Nat) (x : Ob), i < σ.length → c.ob[renI σ m i]? = some x → d.ob[i]? = some x) : ∀ {l : List PV} {us : List Value}, okAL σ.length l = true → RepL c (renL σ m l) us → RepL d l us
  | [], _, _, h => by simp only [renL] at h; cases h; exact .nil
  | p :: l, _, k, h => by
    simp only [renL] at h
    simp only [okAL, Bool.and_eq_true] at k
    cases h with | cons h t => exact .cons (Rep.unren hρ ho k.1 h) (RepL.unren hρ ho k.2 t)
end
-- from the callee's spelling to the caller's
mutual
theorem Rep.ren {c d : Cx} {σ : List Nat} {m : Nat} (hρ : c.ρ = d.ρ) (ho : ∀ (i : Nat) (x : Ob), d.ob[i]? = some x → c.ob[renI σ m i]? = some x) : ∀ {p : PV} {v : Value}, Rep d p v → Rep c (ren σ m p) v
  | _, _, .val v => .val v
  | _, _, .nil => .nil
  | _, _, .ws h1 h2 h4 => .ws h1 h2 (hρ ▸ h4)
  | _, _, .sl h0 h1 h2 h3 h4 => by
    have e : c.strip = d.strip := by simp [Cx.strip, hρ]
    exact .sl h0 h1 h2 (e ▸ h3) (hρ ▸ h4)
  | _, _, .fs h0 h1 h2 h3 h4 => by
    have e : c.strip = d.strip := by simp [Cx.strip, hρ]
    exact .fs h0 h1 h2 (e ▸ h3) (hρ ▸ h4)
  | _, _, .cel h3 h4 => by
    have e : c.strip = d.strip := by simp [Cx.strip, hρ]
    exact .cel (e ▸ h3) (hρ ▸ h4)
  | _, _, .cw h0 h4 => .cw h0 (hρ ▸ h4)
  | _, _, .cf h1 h3 h4 => by
    have e : c.strip = d.strip := by simp [Cx.strip, hρ]
    exact .cf h1 (e ▸ h3) (hρ ▸ h4)
  | _, _, .emp => .emp
  | _, _, .any v => .any v
  | _, _, .ptr h => .any _
  | _, _, .arr h h0 h2 h3 h4 => .arr (ho _ _ h) h0 h2 h3 h4
  | _, _, .ead h => .ead (ho _ _ h)
  | _, _, .agg h => .agg (RepL.ren hρ ho h)
  | _, _, .tup h => .tup (RepL.ren hρ ho h)
theorem RepL.ren {c d : Cx} {σ : List Nat} {m : Nat} (hρ : c.ρ = d.ρ) (ho : ∀ (i : Nat) (x : Ob), d.ob[i]? = some x → c.ob[renI σ m i]? = some x) : ∀ {l : List PV} {us : List Value}, RepL d l us → RepL c (renL σ m l) us
  | _, _, .nil => .nil
  | _, _, .cons h t => .cons (Rep.ren hρ ho h) (RepL.ren hρ ho t)
end
theorem nodup_idx : ∀ {σ : List Nat} {i j q : Nat}, σ.Nodup → σ[i]? = some q → σ[j]? = some q → i = j
  | [], i, j, q, _, h, _ => by simp at h
  | a :: σ, 0, 0, q, _, _, _ => rfl
  | a :: σ, 0, j + 1, q, hn, h1, h2 => by
    simp at h1 h2
    subst h1
    exact absurd (List.mem_of_getElem? h2) (List.nodup_cons.1 hn).1
  | a :: σ, i + 1, 0, q, hn, h1, h2 => by
    simp at h1 h2
    subst h2
    exact absurd (List.mem_of_getElem? h1) (List.nodup_cons.1 hn).1
  | a :: σ, i + 1, j + 1, q, hn, h1, h2 => by
    have := nodup_idx (List.nodup_cons.1 hn).2 (by simpa using h1) (by simpa using h2)
    omega
/-- The caller's rows once the callee has answered. -/
def putR (ob : List (Option Row)) (σ : List Nat) (rs : List (Option Row)) : List (Option Row) := match σ with
  | [] => ob ++ rs
  | q :: σ => match rs with
    | [] => ob
    | r :: rs => putR (ob.set q r) σ rs
theorem putR_get : ∀ {σ : List Nat} {ob rs : List (Option Row)} {i : Nat}, σ.Nodup → (∀ q ∈ σ, q < ob.length) → σ.length ≤ rs.length →
    (∀ j : Nat, σ[j]? = some i → (putR ob σ rs)[i]? = rs[j]?) ∧ (i ∉ σ → i < ob.length → (putR ob σ rs)[i]? = ob[i]?) ∧ (ob.length ≤ i → (putR ob σ rs)[i]? = rs[σ.length + (i - ob.length)]?) ∧ (putR ob σ rs).length = ob.length + (rs.length - σ.length)
  | [], ob, rs, i, _, _, _ => by
    refine ⟨fun j h => by simp at h, fun _ h => by simp only [putR]; exact List.getElem?_append_left h, fun h => ?_, by simp [putR]⟩
    simp only [putR]
    rw [List.getElem?_append_right h]; simp
  | q :: σ, ob, [], i, _, _, h => by simp at h
  | q :: σ, ob, r :: rs, i, hn, hq, hl => by
    obtain ⟨hn1, hn2⟩ := List.nodup_cons.1 hn
    obtain ⟨k1, k2, k3, k4⟩ := putR_get (σ := σ) (ob := ob.set q r) (rs := rs) (i := i) hn2 (fun p hp => by simpa using hq p (List.mem_cons_of_mem _ hp)) (by simpa using hl)
    simp only [putR]
    refine ⟨fun j h => ?_, fun h1 h2 => ?_, fun h => ?_, by rw [k4]; simp⟩
    · cases j with
      | zero =>
        simp at h
        subst h
        rw [k2 hn1 (by simpa using hq q (by simp))]
        simp [hq q (by simp)]
      | succ j => rw [k1 j (by simpa using h)]; simp
    · simp only [List.mem_cons, not_or] at h1
      rw [k2 h1.2 (by simpa using h2), List.getElem?_set_ne (Ne.symm h1.1)]
    · rw [k3 (by simpa using h)]
      simp [Nat.add_right_comm σ.length 1]

section
variable {P : Program} {F : Fr} {TT : List TI} {X : List FuncId}
theorem call_pm {N : Nat} {t : Nat → PV} {bx : List (List PV)} {ob : List (Option Row)} {f : FuncId} {args0 args : List PV} {rows : List Row} {Q : PV → List (Option Row) → Prop} {K : St → PV → Prop} (σ : List Nat) (h : PM P F.G f args0 rows Q) (ha : renL σ ob.length args0 = args) (hok : okAL σ.length args0 = true)
    (hr : σ.map (fun q => ob[q]?) = rows.map fun r => some (some r)) (hnd : σ.Nodup) (k : ∀ r rs, Q r rs → K ⟨N, t, bx, putR ob σ rs⟩ (ren σ ob.length r)) : CallF P F false f args ⟨N, t, bx, ob⟩ K := by
  refine ⟨h.c, fun c a w vs hi hv => ?_⟩
  subst ha
  have hkl : σ.length = rows.length := by have := congrArg List.length hr; simpa using this
  have hrow : ∀ (j : Nat) (r : Row), rows[j]? = some r → ∃ q, σ[j]? = some q ∧ ob[q]? = some (some r) := by
    intro j r hj
    have h1 := congrArg (fun l => l[j]?) hr
    simp only [List.getElem?_map, hj, Option.map_some] at h1
    cases hq : σ[j]? with
    | none => simp [hq] at h1
    | some q => simp [hq] at h1; exact ⟨q, rfl, h1⟩
  have hsig : ∀ (j q : Nat), σ[j]? = some q → ∃ r, rows[j]? = some r ∧ ob[q]? = some (some r) := by
    intro j q hj
    have h1 := congrArg (fun l => l[j]?) hr
    simp only [List.getElem?_map, hj, Option.map_some] at h1
    cases hq : rows[j]? with
    | none => simp [hq] at h1
    | some r => simp [hq] at h1; exact ⟨r, rfl, h1⟩
  have hol : c.ob.length = ob.length := hi.W.ol
  have hlt : ∀ q ∈ σ, q < ob.length := by
    intro q hq
    obtain ⟨j, hj⟩ := List.getElem?_of_mem hq
    obtain ⟨r, _, h2⟩ := hsig j q hj
    exact (List.getElem?_eq_some_iff.1 h2).1
  obtain ⟨obs, hobs, hobl⟩ : ∃ obs : List Ob, (∀ (j q : Nat), σ[j]? = some q → obs[j]? = c.ob[q]?) ∧ obs.length = σ.length := by
    refine ⟨σ.map fun q => c.ob.getD q ⟨0, 0, 0, 0⟩, fun j q hj => ?_, by simp⟩
    have hq := hlt q (List.mem_of_getElem? hj)
    rw [List.getElem?_map, hj, Option.map_some, List.getD_eq_getElem?_getD, List.getElem?_eq_getElem (by omega)]
    rfl
  have hW0 : SimW ⟨c.ρ, [], obs⟩ [] (rows.map some) w := by
    have row : ∀ (i : Nat) (r : Row), (rows.map some)[i]? = some (some r) → ∃ q, σ[i]? = some q ∧ ob[q]? = some (some r) ∧ obs[i]? = c.ob[q]? := by
      intro i r hir
      rw [List.getElem?_map, Option.map_eq_some_iff] at hir
      obtain ⟨r', h1, h2⟩ := hir
      cases h2
      obtain ⟨q, h3, h4⟩ := hrow i r h1
      exact ⟨q, h3, h4, hobs i q h3⟩
    refine ⟨hi.W.mem, rfl, by simp [hobl, hkl], fun i l hl => by simp at hl, fun i r hir => ?_, fun i j g h1 => by simp at h1, fun i j x y l m hl hm hx hy e => ?_, fun i x l _ _ => by simp, fun ad u _ => by simp, fun ad u i x l hu hl hx => ?_⟩
    · obtain ⟨q, h1, h2, h3⟩ := row i r hir
      obtain ⟨x, us, a1, a2⟩ := hi.W.obj q r h2
      exact ⟨x, us, by rw [h3]; exact a1, a2⟩
    · obtain ⟨q, h1, h2, h3⟩ := row i l hl
      obtain ⟨q', h1', h2', h3'⟩ := row j m hm
      have := hi.W.no q q' x y l m h2 h2' (h3 ▸ hx) (h3' ▸ hy) e
      subst this
      exact nodup_idx hnd h1 h1'
    · obtain ⟨q, h1, h2, h3⟩ := row i l hl
      exact hi.W.so ad u q x l hu h2 (h3 ▸ hx)
  have hG : GOk F.G c.ρ := fun g cs hm j u hu => hi.rho _ _ (F.hG g cs hm j u hu)
  have hv0 : RepL ⟨c.ρ, [], obs⟩ args0 vs := RepL.unren (c := c) (d := ⟨c.ρ, [], obs⟩) rfl (fun i x hl hx => by
    have := renI_lt (m := ob.length) hl
    show obs[i]? = some x
    rw [hobs _ _ this]; exact hx) hok hv
  refine (h.h c.ρ w vs obs hG hW0 hv0).mono ?_
  rintro en w' ⟨v, r, ρ', obs', rows', rfl, hQ, hρ, hW', hrep, hkp, hnew, hext, hfresh⟩
  have hol' : obs'.length = rows'.length := hW'.ol
  have hle : σ.length ≤ rows'.length := by
    rw [← hol', ← hobl]
    rcases Nat.eq_zero_or_pos obs.length with h0 | h0
    · omega
    · have := hext (obs.length - 1) obs[obs.length - 1] (List.getElem?_eq_getElem (by omega))
      have := (List.getElem?_eq_some_iff.1 this).1
      omega
  obtain ⟨c', hc'⟩ : ∃ c' : Cx, c' = ⟨ρ', c.bb, c.ob ++ obs'.drop σ.length⟩ := ⟨_, rfl⟩
  have ob_lo : ∀ {i : Nat}, i < ob.length → c'.ob[i]? = c.ob[i]? := fun hl => by rw [hc']; exact List.getElem?_append_left (by omega)
  have ob_hi : ∀ {i : Nat}, ob.length ≤ i → c'.ob[i]? = obs'[σ.length + (i - ob.length)]? := fun hl => by
    rw [hc']; show (c.ob ++ obs'.drop σ.length)[_]? = _
    rw [List.getElem?_append_right (by omega), List.getElem?_drop, hol]
  have kle : c.le c' := by
    rw [hc']
    exact ⟨hρ, fun _ _ h => h, fun i x hx => by
      show (c.ob ++ _)[i]? = some x
      rw [List.getElem?_append_left (List.getElem?_eq_some_iff.1 hx).1]; exact hx⟩
  -- where a live row of the new state comes from
  have src : ∀ (i : Nat) (l : Row) (x : Ob), (putR ob σ rows')[i]? = some (some l) → c'.ob[i]? = some x →
      (∃ j, rows'[j]? = some (some l) ∧ obs'[j]? = some x ∧ ((j < σ.length ∧ σ[j]? = some i ∧ c.ob[i]? = some x) ∨ (j = σ.length + (i - ob.length) ∧ ob.length ≤ i))) ∨ (i ∉ σ ∧ i < ob.length ∧ ob[i]? = some (some l) ∧ c.ob[i]? = some x) := by
    intro i l x hl hx
    obtain ⟨k1, k2, k3, k4⟩ := putR_get (i := i) hnd hlt hle
    rcases Nat.lt_or_ge i ob.length with hi1 | hi1
    · rw [ob_lo hi1] at hx
      by_cases hm : i ∈ σ
      · obtain ⟨j, hj⟩ := List.getElem?_of_mem hm
        have hjl := (List.getElem?_eq_some_iff.1 hj).1
        rw [k1 j hj] at hl
        have h2 := hobs j i hj
        rw [hx] at h2
        exact .inl ⟨j, hl, hext j x h2, .inl ⟨hjl, hj, hx⟩⟩
      · rw [k2 hm hi1] at hl
        exact .inr ⟨hm, hi1, hl, hx⟩
    · rw [k3 hi1] at hl
      rw [ob_hi hi1] at hx
      exact .inl ⟨_, hl, hx, .inr ⟨rfl, hi1⟩⟩
  have oldlive : ∀ (j i : Nat), σ[j]? = some i → ∃ l, ob[i]? = some (some l) := fun j i hj => let ⟨r, _, h2⟩ := hsig j i hj; ⟨r, h2⟩
  have hgs : ∀ g ∈ obs.map (·.g), ∃ (i : Nat) (x : Ob) (l : Row), i ∈ σ ∧ c.ob[i]? = some x ∧ ob[i]? = some (some l) ∧ x.g = g := by
    intro g hg
    obtain ⟨x, hx, rfl⟩ := List.mem_map.1 hg
    obtain ⟨j, hj⟩ := List.getElem?_of_mem hx
    have hjl : j < σ.length := by rw [← hobl]; exact (List.getElem?_eq_some_iff.1 hj).1
    have h1 := List.getElem?_eq_getElem hjl
    have h2 := hobs j _ h1
    obtain ⟨l, hl⟩ := oldlive j _ h1
    exact ⟨_, x, l, List.getElem_mem hjl, by rw [← h2]; exact hj, hl, rfl⟩
  have hbig : ∀ (j : Nat) (x : Ob), σ.length ≤ j → obs'[j]? = some x → w.heap.size ≤ x.g := fun j x hj hx => hfresh j x (by omega) hx
  have keepB : ∀ g, g < w.heap.size → g ∉ obs.map (·.g) → w'.heap[g]? = w.heap[g]? := fun g h1 h2 => hkp.block g h1 h2
  have hI : Inv F c' ⟨N, t, bx, putR ob σ rows'⟩ a w' := by
    have hcρ : c'.ρ = ρ' := by rw [hc']
    have hcb : c'.bb = c.bb := by rw [hc']
    refine ⟨⟨fun ad u hu => hW'.mem ad u (by rw [hcρ] at hu; exact hu), by rw [hcb]; exact hi.W.bl, ?_, fun i l hl => ?_, fun i l hl => ?_, fun i j g h1 h2 => hi.W.nb i j g (hcb ▸ h1) (hcb ▸ h2), fun i j x y l m hl hm hx hy e => ?_, fun i x l hl hx => ?_, fun ad u hu => ?_, fun ad u i x l hu hl hx => ?_⟩, hi.nd, hi.sz, fun y => (hi.tm y).up kle, ?_, fun ad u hu => kle.ρ _ _ (hi.rho ad u hu), fun ad u hu => ?_, fun i x hx => kle.ob i x (hi.obp i x hx), fun i x hl hx => ?_, fun g hg => hi.bbB g (hcb ▸ hg)⟩
    · obtain ⟨k1, k2, k3, k4⟩ := putR_get (i := 0) hnd hlt hle
      show c'.ob.length = (putR ob σ rows').length
      rw [k4, hc']
      simp [hol, hol']
    · obtain ⟨g, us, T, h1, h2, h3⟩ := hi.W.box i l hl
      refine ⟨g, us, T, by rw [hcb]; exact h1, ?_, h3.up kle⟩
      rw [keepB g (hi.W.bb_lt h1) (fun hm => ?_)]
      · exact h2
      · obtain ⟨i', x, l', _, h5, h6, h7⟩ := hgs g hm
        exact hi.W.nbo i' x l' h6 h5 (h7 ▸ List.mem_of_getElem? h1)
    · have hil : i < (putR ob σ rows').length := (List.getElem?_eq_some_iff.1 hl).1
      have hcl : c'.ob.length = (putR ob σ rows').length := by
        obtain ⟨k1, k2, k3, k4⟩ := putR_get (i := 0) hnd hlt hle
        rw [k4, hc']
        simp [hol, hol']
      obtain ⟨x, hx⟩ : ∃ x, c'.ob[i]? = some x := ⟨_, List.getElem?_eq_getElem (by omega)⟩
      rcases src i l x hl hx with ⟨j, h1, h2, _⟩ | ⟨h1, h2, h3, h4⟩
      · obtain ⟨x', us, a1, a2, a3, a4, a5, a6, a7⟩ := hW'.obj j l h1
        have : x' = x := by have := a1.symm.trans h2; injection this
        subst this
        refine ⟨x', us, hx, a2, a3, a4, a5, a6, ?_⟩
        have e : c'.strip = (⟨ρ', [], []⟩ : Cx) := by simp [Cx.strip, hcρ]
        rw [e]; exact a7
      · obtain ⟨x', us, a1, a2, a3, a4, a5, a6, a7⟩ := hi.W.obj i l h3
        have : x' = x := by have := a1.symm.trans h4; injection this
        subst this
        refine ⟨x', us, hx, a2, a3, a4, ?_, a6, a7.up kle.strip⟩
        rw [keepB x'.g (hi.W.ob_lt h3 a1) (fun hm => ?_)]
        · exact a5
        · obtain ⟨i', y, l', g1, g2, g3, g4⟩ := hgs x'.g hm
          have := hi.W.no i' i y x' l' l g3 h3 g2 a1 g4
          subst this
          exact h1 g1
    · rcases src i l x hl hx with ⟨j1, a1, a2, a3⟩ | ⟨a1, a2, a3, a4⟩ <;> rcases src j m y hm hy with ⟨j2, b1, b2, b3⟩ | ⟨b1, b2, b3, b4⟩
      · have := hW'.no j1 j2 x y l m a1 b1 a2 b2 e
        subst this
        rcases a3 with ⟨p1, p2, _⟩ | ⟨p1, p2⟩ <;> rcases b3 with ⟨q1, q2, _⟩ | ⟨q1, q2⟩
        · rw [p2] at q2; injection q2
        · omega
        · omega
        · omega
      · rcases a3 with ⟨p1, p2, p3⟩ | ⟨p1, p2⟩
        · obtain ⟨l', hl'⟩ := oldlive j1 i p2
          exact hi.W.no i j x y l' m hl' b3 p3 b4 e
        · have h1 := hbig j1 x (by omega) a2
          have h2 := hi.W.ob_lt b3 b4
          omega
      · rcases b3 with ⟨p1, p2, p3⟩ | ⟨p1, p2⟩
        · obtain ⟨l', hl'⟩ := oldlive j2 j p2
          exact hi.W.no i j x y l l' a3 hl' a4 p3 e
        · have h1 := hbig j2 y (by omega) b2
          have h2 := hi.W.ob_lt a3 a4
          omega
      · exact hi.W.no i j x y l m a3 b3 a4 b4 e
    · rw [hcb]
      rcases src i l x hl hx with ⟨j1, a1, a2, a3⟩ | ⟨a1, a2, a3, a4⟩
      · rcases a3 with ⟨p1, p2, p3⟩ | ⟨p1, p2⟩
        · obtain ⟨l', hl'⟩ := oldlive j1 i p2
          exact hi.W.nbo i x l' hl' p3
        · intro hm
          obtain ⟨z, hz⟩ := List.getElem?_of_mem hm
          have h1 := hbig j1 x (by omega) a2
          have h2 := hi.W.bb_lt hz
          omega
      · exact hi.W.nbo i x l a3 a4
    · rw [hcb]
      rw [hcρ] at hu
      rcases hnew ad u hu with hu | hu
      · exact hi.W.sb ad u hu
      · intro hm
        obtain ⟨z, hz⟩ := List.getElem?_of_mem hm
        have h2 := hi.W.bb_lt hz
        omega
    · rw [hcρ] at hu
      rcases src i l x hl hx with ⟨j1, a1, a2, _⟩ | ⟨a1, a2, a3, a4⟩
      · exact hW'.so ad u j1 x l hu a1 a2
      · rcases hnew ad u hu with hu | hu
        · exact hi.W.so ad u i x l hu a3 a4
        · have := hi.W.ob_lt a3 a4
          omega
    · refine hi.kp.trans (hkp.mono hi.kp.size fun g hg hm => ?_)
      obtain ⟨i', x, l', g1, g2, g3, g4⟩ := hgs g hm
      rcases hi.row_own g2 with h1 | h1
      · omega
      · rw [← g4]; exact h1
    · rw [hcρ] at hu
      rcases hnew ad u hu with hu | hu
      · exact hi.new ad u hu
      · exact .inr (Nat.le_trans hi.kp.size hu)
    · rcases Nat.lt_or_ge i ob.length with h1 | h1
      · rw [ob_lo h1] at hx; exact hi.obB i x hl hx
      · rw [ob_hi h1] at hx
        exact Nat.le_trans hi.kp.size (hbig _ x (by omega) hx)
  refine ⟨v, ren σ ob.length r, c', _, rfl, hI, ?_, k r rows' hQ, fun e => by cases e⟩
  refine hrep.ren (by rw [hc']) fun i x hx => ?_
  replace hx : obs'[i]? = some x := hx
  rcases Nat.lt_or_ge i σ.length with h1 | h1
  · have h2 := renI_lt (m := ob.length) h1
    have h3 := hlt _ (List.mem_of_getElem? h2)
    rw [ob_lo h3, ← hobs _ _ h2]
    have h4 := List.getElem?_eq_getElem (show i < obs.length by omega)
    have h5 := hext i _ h4
    rw [hx] at h5
    rw [h4, ← h5]
  · rw [renI_ge h1, ob_hi (by omega)]
    have : σ.length + (ob.length + (i - σ.length) - ob.length) = i := by omega
    rw [this]; exact hx

/-! ### from a body to a contract over rows -/
mutual
def noB : PV → Bool
  | .ptr _ _ => false
  | .agg l => noBL l
  | .tup l => noBL l
  | .arr _ _ _ => true
  | .ead _ _ => true
  | .val _ => true
  | .nil => true
  | .ws _ _ => true
  | .sl _ _ => true
  | .fs _ _ _ => true
  | .cel _ => true
  | .cw _ _ _ => true
  | .cf _ _ _ => true
  | .emp => true
  | .any => true
def noBL : List PV → Bool
  | [] => true
  | p :: l => noB p && noBL l
end
mutual
theorem Rep.nobox {c : Cx} : ∀ {p : PV} {v : Value}, Rep c p v → noB p = true → Rep ⟨c.ρ, [], c.ob⟩ p v
  | _, _, .val v, _ => .val v
  | _, _, .nil, _ => .nil
  | _, _, .ws h1 h2 h4, _ => .ws h1 h2 h4
  | _, _, .sl h0 h1 h2 h3 h4, _ => .sl h0 h1 h2 h3 h4
  | _, _, .fs h0 h1 h2 h3 h4, _ => .fs h0 h1 h2 h3 h4
  | _, _, .cel h3 h4, _ => .cel h3 h4
  | _, _, .cw h0 h4, _ => .cw h0 h4
  | _, _, .cf h1 h3 h4, _ => .cf h1 h3 h4
  | _, _, .emp, _ => .emp
  | _, _, .any v, _ => .any v
  | _, _, .ptr h, k => by simp [noB] at k
  | _, _, .arr h h0 h2 h3 h4, _ => .arr h h0 h2 h3 h4
  | _, _, .ead h, _ => .ead h
  | _, _, .agg h, k => .agg (RepL.nobox h (by simpa [noB] using k))
  | _, _, .tup h, k => .tup (RepL.nobox h (by simpa [noB] using k))
theorem RepL.nobox {c : Cx} : ∀ {l : List PV} {us : List Value}, RepL c l us → noBL l = true → RepL ⟨c.ρ, [], c.ob⟩ l us
  | _, _, .nil, _ => .nil
  | _, _, .cons h t, k => .cons (h.nobox (by simp [noBL] at k; exact k.1)) (t.nobox (by simp [noBL] at k; exact k.2))
end
/-- The end of a function over rows (so many were handed in): its result, and the rows that are told. -/
structure RetM (n : Nat) (Q : PV → List (Option Row) → Prop) (r : PV) (ob : List (Option Row)) : Prop where
  h : ∃ (σ : List Nat) (r1 r2 : PV) (rs : List (Option Row)), ren σ 0 r1 = r ∧ okA σ.length r1 = true ∧ σ.Nodup ∧ (∀ i : Nat, i < n → σ[i]? = some i) ∧ σ.map (fun q => ob[q]?) = rs.map some ∧ Lp r1 r2 ∧ Q r2 rs
theorem ret_m {n : Nat} {Q : PV → List (Option Row) → Prop} {r : PV} {ob : List (Option Row)} (σ : List Nat) (r1 : PV) (rs : List (Option Row)) (h1 : ren σ 0 r1 = r) (h2 : okA σ.length r1 = true) (h3 : σ.Nodup) (h4 : ∀ i : Nat, i < n → σ[i]? = some i) (h5 : σ.map (fun q => ob[q]?) = rs.map some) (h : Q r1 rs) : RetM n Q r ob := ⟨σ, r1, r1, rs, h1, h2, h3, h4, h5, .refl _, h⟩
def vEndM (TT : List TI) (n : Nat) (rs : List ResultVar) (Q : PV → List (Option Row) → Prop) (s : St) : Prop := vRes TT s rs fun l => tupG l fun p => match noB p with
  | true => RetM n Q p s.ob
  | false => False
/-- Some of a frame's rows, in a new order. -/
theorem SimW.sel {c : Cx} {bx : List (List PV)} {ob : List (Option Row)} {w : World} (h : SimW c bx ob w) {σ : List Nat} {rs : List (Option Row)} (hr : σ.map (fun q => ob[q]?) = rs.map some) (hnd : σ.Nodup) : ∃ obs : List Ob, obs.length = σ.length ∧ (∀ (j q : Nat), σ[j]? = some q → obs[j]? = c.ob[q]?) ∧ SimW ⟨c.ρ, [], obs⟩ [] rs w := by
  have hkl : σ.length = rs.length := by have := congrArg List.length hr; simpa using this
  have hsig : ∀ (j q : Nat), σ[j]? = some q → ∃ r, rs[j]? = some r ∧ ob[q]? = some r := by
    intro j q hj
    have h1 := congrArg (fun l => l[j]?) hr
    simp only [List.getElem?_map, hj, Option.map_some] at h1
    cases hq : rs[j]? with
    | none => simp [hq] at h1
    | some r => simp [hq] at h1; exact ⟨r, rfl, h1⟩
  have hrow : ∀ (j : Nat) (r : Option Row), rs[j]? = some r → ∃ q, σ[j]? = some q ∧ ob[q]? = some r := by
    intro j r hj
    have h1 := congrArg (fun l => l[j]?) hr
    simp only [List.getElem?_map, hj, Option.map_some] at h1
    cases hq : σ[j]? with
    | none => simp [hq] at h1
    | some q => simp [hq] at h1; exact ⟨q, rfl, h1⟩
  have hlt : ∀ q ∈ σ, q < ob.length := by
    intro q hq
    obtain ⟨j, hj⟩ := List.getElem?_of_mem hq
    obtain ⟨r, _, h2⟩ := hsig j q hj
    exact (List.getElem?_eq_some_iff.1 h2).1
  have hol := h.ol
  have hobs : ∀ (j q : Nat), σ[j]? = some q → (σ.map fun q => c.ob.getD q ⟨0, 0, 0, 0⟩)[j]? = c.ob[q]? := by
    intro j q hj
    have hq := hlt q (List.mem_of_getElem? hj)
    rw [List.getElem?_map, hj, Option.map_some, List.getD_eq_getElem?_getD, List.getElem?_eq_getElem (by omega)]
    rfl
  refine ⟨_, by simp, hobs, ⟨h.mem, rfl, by simp [hkl], fun i l hl => by simp at hl, fun i r hir => ?_, fun i j g h1 => by simp at h1, fun i j x y l m hl hm hx hy e => ?_, fun i x l _ _ => by simp, fun ad u _ => by simp, fun ad u i x l hu hl hx => ?_⟩⟩
  · obtain ⟨q, h1, h2⟩ := hrow i _ hir
    obtain ⟨x, us, a1, a2⟩ := h.obj q r h2
    exact ⟨x, us, by show (σ.map _)[i]? = _; rw [hobs i q h1]; exact a1, a2⟩
  · obtain ⟨q, h1, h2⟩ := hrow i _ hl
    obtain ⟨q', h1', h2'⟩ := hrow j _ hm
    replace hx : (σ.map _)[i]? = some x := hx
    replace hy : (σ.map _)[j]? = some y := hy
    rw [hobs i q h1] at hx
    rw [hobs j q' h1'] at hy
    have := h.no q q' x y l m h2 h2' hx hy e
    subst this
    exact nodup_idx hnd h1 h1'
  · obtain ⟨q, h1, h2⟩ := hrow i _ hl
    replace hx : (σ.map _)[i]? = some x := hx
    rw [hobs i q h1] at hx
    exact h.so ad u q x l hu h2 hx
theorem resPV_of {rs : List ResultVar} {s : St} {l : List PV} (h : rs.mapM (resOne P s) = some l) {k : PV → Prop} (h2 : tupG l k) : ∃ r, resPV P rs s = some r ∧ k r := by
  unfold tupG at h2
  unfold resPV
  rw [h]
  match l, h2 with
  | [], h2 => exact ⟨_, rfl, h2⟩
  | [p], h2 => exact ⟨_, rfl, h2⟩
  | _ :: _ :: _, h2 => exact ⟨_, rfl, h2⟩
theorem lpB {p q : PV} {v : Value} {c : Cx} (hl : Lp p q) (h : Rep c p v) : Rep c q v := hl.rep h
theorem PM.intro {G : List (Nat × List Value)} {f : FuncId} {fn : Func} {cd : Code} {args : List PV} {rows : List Row} {Q : PV → List (Option Row) → Prop} {N : Nat} {rs : List ResultVar} (hTT : TOk P TT) (hf : P.funcs[f]? = some fn) (hb : fn.body = some cd) (hN : fn.ntmps = N) (hrs : fn.results.toList = rs) (hc : callable P f = true) (hn : Nat.ble args.length N = true)
    (h : ∀ F : Fr, F.G = G → F.c0.ob.length = rows.length → vC P F TT X cd (vEndM TT rows.length rs Q) (vEndM TT rows.length rs Q) (fun _ _ => False) ⟨N, argT args, [], rows.map some⟩) : PM P G f args rows Q := by
  refine ⟨hc, ?_⟩
  subst hN; subst hrs
  intro ρ w vs obs hG hW hr
  have hn := Nat.le_of_ble_eq_true hn
  have hl := hr.len
  have hol : obs.length = rows.length := by simpa using hW.ol
  refine calls_of_wp hf hb ?_
  have hi : Inv ⟨G, ⟨ρ, [], obs⟩, w, hG⟩ ⟨ρ, [], obs⟩ ⟨fn.ntmps, argT args, [], rows.map some⟩ { tmps := vs.toArray ++ Array.replicate (fn.ntmps - vs.toArray.size) undef, defers := [] } w := by
    refine ⟨hW, rfl, by simp; omega, fun t => ?_, Kp.refl _ _ _, fun _ _ h => h, fun _ _ h => .inl h, fun _ _ h => h, fun i x hl hx => ?_, fun g hg => by simp at hg⟩
    · show Rep _ (argT args t) _
      rw [argT_get]
      rcases Nat.lt_or_ge t args.length with ht | ht
      · have h1 := List.getElem?_eq_getElem ht
        obtain ⟨u, hu, hr'⟩ := hr.get h1
        have h2 : (vs.toArray ++ Array.replicate (fn.ntmps - vs.toArray.size) undef).getD t undef = u := by
          rw [Array.getD_eq_getD_getElem?, Array.getElem?_append_left (by simp; omega)]
          simp [hu]
        rw [h2, List.getD_eq_getElem?_getD, h1]
        exact hr'
      · have h2 : (vs.toArray ++ Array.replicate (fn.ntmps - vs.toArray.size) undef).getD t undef = undef := by
          rw [Array.getD_eq_getD_getElem?, Array.getElem?_append_right (by simp; omega)]
          simp only [Array.getElem?_replicate]
          split <;> rfl
        rw [h2, List.getD_eq_getElem?_getD, List.getElem?_eq_none ht]
        exact .val _
    · have h1 : obs.length ≤ i := hl
      have := (List.getElem?_eq_some_iff.1 (show obs[i]? = some x from hx)).1
      omega
  refine wp_mono (vC_ok hTT (h _ rfl hol) _ _ _ hi) ?_
  rintro e a' w' ⟨cx', s', hi', hq⟩
  have fin : vEndM TT rows.length fn.results.toList Q s' → a'.defers = [] ∧ ∃ v, (results fn a'.tmps).run P w' = .ok v w' ∧
      ∃ v_1 r_1 ρ' obs' rows', Ending.returned v = .returned v_1 ∧ Q r_1 rows' ∧ (∀ ad u, ρ ad = some u → ρ' ad = some u) ∧ SimW ⟨ρ', [], obs'⟩ [] rows' w' ∧ Rep ⟨ρ', [], obs'⟩ r_1 v_1 ∧ Kp (obs.map (·.g)) w.heap.size w w' ∧
      (∀ ad u, ρ' ad = some u → ρ ad = some u ∨ w.heap.size ≤ ad.block) ∧ (∀ (i : Nat) (x : Ob), obs[i]? = some x → obs'[i]? = some x) ∧ (∀ (i : Nat) (x : Ob), obs.length ≤ i → obs'[i]? = some x → w.heap.size ≤ x.g) := by
    intro hv
    obtain ⟨l, h1, h2⟩ := vRes_ok hTT hv
    obtain ⟨r, hr1, hr2⟩ := resPV_of h1 h2
    obtain ⟨v, hrep, hrun⟩ := results_ok hi' hr1
    split at hr2
    · rename_i hnb
      obtain ⟨σ, r1, r2, rs, g1, g2, g3, g4, g5, g6, g7⟩ := hr2.h
      obtain ⟨obs', s1, s2, s3⟩ := hi'.W.sel g5 g3
      subst g1
      have hrep0 := Rep.unren (c := cx') (d := ⟨cx'.ρ, [], obs'⟩) rfl (fun i x hl hx => by
        have := renI_lt (m := 0) hl
        show obs'[i]? = some x
        rw [s2 _ _ this]; exact hx) g2 hrep
      refine ⟨hi'.nd, v, hrun, v, r2, cx'.ρ, obs', rs, rfl, g7, hi'.rho, s3, g6.rep hrep0, hi'.kp, hi'.new, fun i x hx => ?_, fun i x hl hx => ?_⟩
      · have hil : i < rows.length := by rw [← hol]; exact (List.getElem?_eq_some_iff.1 hx).1
        rw [s2 _ _ (g4 i hil)]
        exact hi'.obp i x hx
      · have hsl : i < σ.length := by rw [← s1]; exact (List.getElem?_eq_some_iff.1 hx).1
        have h5 := List.getElem?_eq_getElem hsl
        rw [s2 _ _ h5] at hx
        refine hi'.obB _ x ?_ hx
        show obs.length ≤ _
        rcases Nat.lt_or_ge σ[i] obs.length with h6 | h6
        · have h7 := g4 σ[i] (by omega)
          have := nodup_idx g3 h5 h7
          omega
        · exact h6
    · cases hr2
  cases e with
  | normal => exact fin hq
  | ret => exact fin hq
  | _ => exact (show False from hq).elim
/-- Rows that are answered may be taken as frozen. -/
theorem FC.of_pm {G : List (Nat × List Value)} {f : FuncId} {args : List PV} {Q : PV → List (Option Row) → Prop} {Q' : PV → Prop} (h : PM P G f args [] Q) (k : ∀ r rs, Q r rs → fzG rs r fun r => RetE Q' r) : FC P G f args Q' := by
  refine ⟨h.c, fun ρ w vs hG hm hr => ?_⟩
  have hW : SimW ⟨ρ, [], []⟩ [] (([] : List Row).map some) w := ⟨hm, rfl, rfl, fun i l hi => by simp at hi, fun i r hi => by simp at hi, fun i j g hi => by simp at hi, fun i j x y l m hi => by simp at hi, fun i x l hi => by simp at hi, fun ad u _ => by simp, fun ad u i x l _ hi => by simp at hi⟩
  refine (h.h ρ w vs [] hG hW hr).mono ?_
  rintro e w' ⟨v, r, ρ', obs', rows', rfl, hQ, hρ, hW', hrep, hkp, hnew, hext, hfresh⟩
  have hi : Inv ⟨G, ⟨ρ, [], []⟩, w, hG⟩ ⟨ρ', [], obs'⟩ ⟨0, fun _ => .any, [], rows'⟩ { tmps := #[], defers := [] } w' :=
    ⟨hW', rfl, rfl, fun _ => .any _, hkp, hρ, hnew, hext, fun i x _ hx => hfresh i x (Nat.zero_le _) hx, fun g hg => by simp at hg⟩
  obtain ⟨ρ'', e1, e2, e3, e4⟩ := hi.fz rfl
  obtain ⟨r', g1, g2⟩ := fzG_ok hi e1 e4 hrep (k r rows' hQ)
  obtain ⟨r'', g3, g4⟩ := g2.h
  exact ⟨v, r'', ρ'', rfl, g4, fun ad u hu => e1 _ _ (hρ ad u hu), e2, g3.rep g1, hkp.below, e3⟩
/-- A row of words is answered, to be written by whoever asked. -/
def Own (T : TypeId) (k : IntKind) (l : List Int) (r : PV) (rs : List (Option Row)) : Prop := r = .arr 0 0 l.length ∧ rs = [some ⟨1, T, .w k l⟩]
theorem Own.fc {G : List (Nat × List Value)} {f : FuncId} {args : List PV} {T : TypeId} {k : IntKind} {l : List Int} (h : PM P G f args [] (Own T k l)) : FC P G f args (· = .ws k l) :=
  FC.of_pm h (by rintro r rs ⟨rfl, rfl⟩; exact (fz_all rfl (ret_e rfl) : FzG l 0 l.length fun B => RetE (· = .ws k l) (.ws k B)))
theorem ret_own {q lo : Nat} {T : TypeId} {k : IntKind} {l : List Int} {ob : List (Option Row)} (hr : lo = l.length) (ho : ob[q]? = some (some ⟨1, T, .w k l⟩)) : RetM 0 (Own T k l) (.arr q 0 lo) ob :=
  ret_m [q] (.arr 0 0 lo) [some ⟨1, T, .w k l⟩] rfl rfl (by simp) (fun i h => by omega) (by simp [ho]) ⟨by rw [hr], rfl⟩
/-- A call that answers a row. -/
theorem call_own {N : Nat} {t : Nat → PV} {bx : List (List PV)} {ob : List (Option Row)} {f : FuncId} {args : List PV} {T : TypeId} {k : IntKind} {l : List Int} {K : St → PV → Prop} {m : Nat} (h : PM P F.G f args [] (Own T k l)) (hok : okAL 0 args = true) (hre : renL [] ob.length args = args) (hm : ob.length = m) (hK : K ⟨N, t, bx, ob ++ [some ⟨1, T, .w k l⟩]⟩ (.arr m 0 l.length)) : CallF P F false f args ⟨N, t, bx, ob⟩ K :=
  call_pm [] h hre hok rfl List.nodup_nil (by rintro r rs ⟨rfl, rfl⟩; subst hm; simpa [putR, ren, renI] using hK)
end
end Go.Proofs.YtlbnlalkimnhdaaDoor.Sim
