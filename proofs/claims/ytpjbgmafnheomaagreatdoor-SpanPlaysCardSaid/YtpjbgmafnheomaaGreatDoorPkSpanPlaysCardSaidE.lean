/-
  Lemmas of SpanPlaysCardSaid, part 5.
-/
import Derived.Test.YtpjbgmafnheomaaGreatDoorPkSpanPlaysCardSaidD
import Derived.Laws.Append
import Derived.Maps.AppendAt
namespace Go.Proofs.YtpjbgmafnheomaaGreatDoor.Sim
open Go.RowKit
set_option linter.unusedVariables false
set_option linter.unusedSimpArgs false
section
variable {P : Program} {F : Fr} {s : St}
theorem SimW.addrow {c : Cx} {bx : List (List PV)} {ob : List (Option Row)} {w : World} (h : SimW c bx ob w) {x : Ob} {r : Row} {us : List Value} (hg : w.heap[x.g]? = some (.cells us.toArray x.T (0, 0))) (h1 : x.sz = r.sz) (h2 : x.T = r.T) (h3 : us.length = x.size) (h4 : r.cs.length ≤ x.size) (h5 : RepL c.strip r.cs (us.take r.cs.length))
    (f1 : x.g ∉ c.bb) (f2 : ∀ (i : Nat) (r : Row) (y : Ob), ob[i]? = some (some r) → c.ob[i]? = some y → y.g ≠ x.g) (f3 : ∀ ad u, c.ρ ad = some u → ad.block ≠ x.g) : SimW { c with ob := c.ob ++ [x] } bx (ob ++ [some r]) w := by
  have k : c.le { c with ob := c.ob ++ [x] } := ⟨fun _ _ h => h, fun _ _ h => h, fun _ _ h => idx_old h⟩
  have old : ∀ (i : Nat) (r' : Row) (y : Ob), ob[i]? = some (some r') → (c.ob ++ [x])[i]? = some y → c.ob[i]? = some y := by
    intro i r' y hr hy
    rcases idx_snoc hy with hy | ⟨hi, _⟩
    · exact hy
    · have := (List.getElem?_eq_some_iff.1 hr).1
      rw [hi, h.ol] at this; omega
  refine ⟨h.mem, h.bl, by simp [h.ol], fun i l hi => ?_, fun i r' hr => ?_, h.nb, fun i j y z l m hl hm hy hz e => ?_, fun i y l hl hy => ?_, h.sb, fun ad u i y l hr hl hy => ?_⟩
  · obtain ⟨g, us', T, a, b, d⟩ := h.box i l hi
    exact ⟨g, us', T, a, b, d.up k⟩
  · rcases idx_snoc hr with hr | ⟨rfl, hr2⟩
    · obtain ⟨y, us', a, b⟩ := h.obj i r' hr
      exact ⟨y, us', idx_old a, b⟩
    · obtain rfl : r' = r := by injection hr2
      exact ⟨x, us, by rw [← h.ol]; exact idx_new _ _, h1, h2, h3, hg, h4, h5⟩
  · rcases idx_snoc hl with kl | ⟨e1, kl⟩
    · have ky := old i l y kl hy
      rcases idx_snoc hm with km | ⟨e2, km⟩
      · exact h.no i j y z l m kl km ky (old j m z km hz) e
      · rw [e2, ← h.ol, idx_new] at hz; cases hz
        exact absurd e (f2 i l y kl ky)
    · rw [e1, ← h.ol, idx_new] at hy; cases hy
      rcases idx_snoc hm with km | ⟨e2, km⟩
      · exact absurd e.symm (f2 j m z km (old j m z km hz))
      · rw [e1, e2]
  · rcases idx_snoc hl with kl | ⟨e1, kl⟩
    · exact h.nbo i y l kl (old i l y kl hy)
    · rw [e1, ← h.ol, idx_new] at hy; cases hy; exact f1
  · rcases idx_snoc hl with kl | ⟨e1, kl⟩
    · exact h.so ad u i y l hr kl (old i l y kl hy)
    · rw [e1, ← h.ol, idx_new] at hy; cases hy; exact f3 ad u hr
theorem Inv.newrow {c : Cx} {a : Act} {w : World} (hi : Inv F c s a w) {r : Row} {us : List Value} (h4 : r.cs.length ≤ us.length) (h5 : RepL c.strip r.cs (us.take r.cs.length)) :
    Inv F { c with ob := c.ob ++ [⟨w.heap.size, us.length, r.sz, r.T⟩] } { s with ob := s.ob ++ [some r] } a (w.alloc (.cells us.toArray r.T)) := by
  have k : c.le { c with ob := c.ob ++ [⟨w.heap.size, us.length, r.sz, r.T⟩] } := ⟨fun _ _ h => h, fun _ _ h => h, fun _ _ h => idx_old h⟩
  have hW : SimW c s.bx s.ob (w.alloc (.cells us.toArray r.T)) := hi.W.grow fun i h => heap_alloc_old w _ _ h
  refine ⟨hW.addrow (x := ⟨w.heap.size, us.length, r.sz, r.T⟩) (heap_alloc_new w _) rfl rfl rfl h4 h5 (fun hm => ?_) (fun i r x hr hx he => ?_) (fun ad u hr he => ?_), hi.nd, hi.sz, fun t => (hi.tm t).up k, hi.kp.alloc hi.kp.size _, hi.rho, hi.new, fun i x h => idx_old (hi.obp i x h), fun i x hl hx => ?_, hi.bbB⟩
  · obtain ⟨i, h⟩ := List.getElem?_of_mem hm
    exact Nat.lt_irrefl _ (hi.W.bb_lt h)
  · exact Nat.lt_irrefl _ (he ▸ hi.W.ob_lt hr hx)
  · exact Nat.lt_irrefl _ (he ▸ hi.W.ρ_lt hr)
  · rcases idx_snoc hx with hx | ⟨_, rfl⟩
    · exact hi.obB i x hl hx
    · exact hi.kp.size
theorem SimW.setrow {c : Cx} {bx : List (List PV)} {ob : List (Option Row)} {w : World} (h : SimW c bx ob w) {o : Nat} {x : Ob} {r r' : Row} {us : List Value} (hr : ob[o]? = some (some r)) (hx : c.ob[o]? = some x) (e1 : r'.sz = r.sz) (e2 : r'.T = r.T) (h3 : us.length = x.size) (h4 : r'.cs.length ≤ x.size) (h5 : RepL c.strip r'.cs (us.take r'.cs.length)) :
    SimW c bx (ob.set o (some r')) (w.setRow x.g us.toArray) := by
  have hne : ∀ k, k ≠ x.g → (w.setRow x.g us.toArray).heap[k]? = w.heap[k]? := fun k hk => setRow_other w x.g k _ hk
  obtain ⟨x', us0, a1, a2, a3, a4, a5, a6, a7⟩ := h.obj o r hr
  rw [hx] at a1; cases a1
  have live : ∀ (i : Nat) (l : Row), (ob.set o (some r'))[i]? = some (some l) → ∃ l', ob[i]? = some (some l') := by
    intro i l hl
    rcases set_get hl with ⟨rfl, _, _⟩ | ⟨_, hl⟩
    · exact ⟨r, hr⟩
    · exact ⟨l, hl⟩
  refine ⟨fun ad u hu => ?_, h.bl, by simp [h.ol], fun i l hi => ?_, fun i l hl => ?_, h.nb, fun i j y z l m hl hm hy hz e => ?_, fun i y l hl hy => ?_, h.sb, fun ad u i y l hu hl hy => ?_⟩
  · rw [World.cell?_of_block (w := w) (hne _ (h.so ad u o x r hu hr hx))]; exact h.mem ad u hu
  · obtain ⟨g, us', T, b1, b2, b3⟩ := h.box i l hi
    exact ⟨g, us', T, b1, by rw [hne g (fun e => h.nbo o x r hr hx (e ▸ List.mem_of_getElem? b1))]; exact b2, b3⟩
  · rcases set_get hl with ⟨rfl, e, _⟩ | ⟨hne', hl⟩
    · cases e
      exact ⟨x, us, hx, by rw [e1, a2], by rw [e2, a3], h3, setRow_heap w x.g _ _ _ _ a5, h4, h5⟩
    · obtain ⟨y, us', b1, b2, b3, b4, b5, b6, b7⟩ := h.obj i l hl
      exact ⟨y, us', b1, b2, b3, b4, by rw [hne y.g (fun e => hne' (h.no i o y x l r hl hr b1 hx e))]; exact b5, b6, b7⟩
  · obtain ⟨l', hl'⟩ := live i l hl
    obtain ⟨m', hm'⟩ := live j m hm
    exact h.no i j y z l' m' hl' hm' hy hz e
  · obtain ⟨l', hl'⟩ := live i l hl
    exact h.nbo i y l' hl' hy
  · obtain ⟨l', hl'⟩ := live i l hl
    exact h.so ad u i y l' hu hl' hy
theorem Inv.row_own {c : Cx} {a : Act} {w : World} (hi : Inv F c s a w) {o : Nat} {x : Ob} (hx : c.ob[o]? = some x) : F.w0.heap.size ≤ x.g ∨ x.g ∈ F.c0.ob.map (·.g) := by
  rcases Nat.lt_or_ge o F.c0.ob.length with h | h
  · refine .inr ?_
    have h1 := List.getElem?_eq_getElem h
    have h2 := hi.obp o _ h1
    rw [hx] at h2; cases h2
    exact List.mem_map.2 ⟨_, List.getElem_mem h, rfl⟩
  · exact .inl (hi.obB o x h hx)
theorem Inv.setrow {c : Cx} {a : Act} {w : World} (hi : Inv F c s a w) {o : Nat} {x : Ob} {r r' : Row} {us : List Value} (hr : s.ob[o]? = some (some r)) (hx : c.ob[o]? = some x) (e1 : r'.sz = r.sz) (e2 : r'.T = r.T) (h3 : us.length = x.size) (h4 : r'.cs.length ≤ x.size) (h5 : RepL c.strip r'.cs (us.take r'.cs.length)) :
    Inv F c { s with ob := s.ob.set o (some r') } a (w.setRow x.g us.toArray) := by
  refine ⟨hi.W.setrow hr hx e1 e2 h3 h4 h5, hi.nd, hi.sz, hi.tm, ?_, hi.rho, hi.new, hi.obp, hi.obB, hi.bbB⟩
  refine hi.kp.trans ⟨rfl, rfl, rfl, by simp, fun j hj hS => setRow_other w x.g j _ (fun e => ?_)⟩
  subst e
  rcases hi.row_own hx with h | h
  · omega
  · exact hS h
def rw_ (k : IntKind) (T : TypeId) (a : List Int) : Row := ⟨1, T, .w k a⟩
theorem cs_w {z : Nat} {T : TypeId} {k : IntKind} {a : List Int} : (Row.mk z T (.w k a)).cs = a.map (wv k) := rfl
theorem wv_repL (c : Cx) (k : IntKind) : ∀ a : List Int, RepL c (a.map (wv k)) (a.map (Value.int k))
  | [] => .nil
  | _ :: a => .cons (.val _) (wv_repL c k a)
theorem wv_repL_eq {c : Cx} {k : IntKind} : ∀ {a : List Int} {us : List Value}, RepL c (a.map (wv k)) us → us = a.map (Value.int k)
  | [], _, .nil => rfl
  | x :: a, _, .cons h t => by cases h; rw [wv_repL_eq t]; rfl
def byT (P : Program) (t : TypeId) : Option Nat := (P.info? t).map (·.bytes)
variable {ops : Rg} {o : Oper} {rest : List Oper} {K : St → Prop} {p : PV} {N d : Nat} {t : Nat → PV} {bx : List (List PV)} {ob : List (Option Row)}
theorem Does.make {ty e : TypeId} {x y : Operand} {k k1 k2 : IntKind} {n m : Int} {nb : Nat} (ho : o.op = .makeSlice ty x y) (hx : pev ⟨N, t, bx, ob⟩ x = .val (.int k1 n)) (hy : pev ⟨N, t, bx, ob⟩ y = .val (.int k2 m)) (ht : elT P ty = some (e, 1)) (hz : zeroT P e = some [.val (.int k 0)]) (hb : byT P e = some nb) (h0 : 0 ≤ n ∧ n ≤ m ∧ (nb : Int) * m ≤ 281474976710656 ∧ m ≤ 9223372036854775807)
    (hd : o.dst = some d) (hn : Nat.blt d N = true) (h : ∀ q c, q = ob.length → c = ob ++ [some (rw_ k e (List.replicate n.toNat 0))] → K ⟨N, upd t d (.arr q 0 n.toNat), bx, c⟩) : Does P F o true ⟨N, t, bx, ob⟩ K := by
  intro R c a w hi
  obtain ⟨hu, hs⟩ := elT_ok ht
  cases hq : P.info? e with
  | none => simp [szT, hq] at hs
  | some i =>
    have hs1 : i.size = 1 := by simpa [szT, hq] using hs
    have hb1 : i.bytes = nb := by simpa [byT, hq] using hb
    cases hv : i.zero with
    | none => simp [zeroT, hq, hv] at hz
    | some v =>
      have hvc : v.cells = #[.int k 0] := by
        simp only [zeroT, hq, hv, Option.bind_some, Option.map_some, Option.some.injEq] at hz
        have h1 : v.cells.toList.length = 1 := by have := congrArg List.length hz; simpa using this
        obtain ⟨u, hu'⟩ := List.length_eq_one_iff.1 h1
        rw [hu'] at hz
        simp only [List.map_cons, List.map_nil, List.cons.injEq, and_true] at hz
        have hu2 : u = .int k 0 := by
          unfold pcon at hz
          split at hz
          · cases hz
          · cases hz; rfl
        rw [← Array.toArray_toList (xs := v.cells), hu', hu2]
      unfold Oper.wp
      have hrun : (execOp a.eval o).run P w = .ok (.value (.slice (some ⟨w.heap.size, 0, none⟩) n.toNat m.toNat)) (w.alloc (.cells (List.replicate m.toNat (Value.int k 0)).toArray e)) := by
        have h1 := run_make (P := P) w ty e i v hu hq hv k1 k2 n m h0.1 h0.2.1 (by rw [hb1]; exact h0.2.2.1) h0.2.2.2
        have h2 : madeCells v.cells (m.toNat * i.size) = (List.replicate m.toNat (Value.int k 0)).toArray := by
          rw [hs1, hvc, Nat.mul_one]
          apply Array.ext'
          apply List.ext_getElem
          · simp [madeCells]
          · intro j h1 h2
            simp [madeCells, Nat.mod_one]
        rw [h2] at h1
        simp [execOp, ho, pev_val hi hx, pev_val hi hy, h1]
      rw [hrun]
      have hc : RepL c.strip (rw_ k e (List.replicate n.toNat 0)).cs ((List.replicate m.toNat (Value.int k 0)).take (rw_ k e (List.replicate n.toNat 0)).cs.length) := by
        have : (List.replicate m.toNat (Value.int k 0)).take (rw_ k e (List.replicate n.toNat 0)).cs.length = (List.replicate n.toNat (0 : Int)).map (Value.int k) := by
          have : min n.toNat m.toNat = n.toNat := by omega
          simp [rw_, cs_w, List.take_replicate, this]
        rw [this]
        exact wv_repL _ k _
      have hn' := hi.newrow (r := rw_ k e (List.replicate n.toNat 0)) (us := List.replicate m.toNat (Value.int k 0)) (by simp [rw_, cs_w]; omega) hc
      refine ⟨_, _, hn'.put (d := o.dst) (p := .arr ob.length 0 n.toNat) (by simpa [St.fits, hd] using hn) ?_, by simpa [St.put, hd] using h _ _ rfl rfl, fun _ => cell_grow fun j h => heap_alloc_old w _ _ h⟩
      have hol : c.ob.length = ob.length := hi.W.ol
      exact .arr (x := ⟨w.heap.size, m.toNat, 1, e⟩) (by have := idx_new c.ob (⟨w.heap.size, m.toNat, 1, e⟩ : Ob); rw [hol] at this; simpa [rw_] using this) Nat.one_pos (by omega) (fun _ => by simp) (fun _ => by simp)
theorem Does.storeR {ty : TypeId} {x y : Operand} {q i : Nat} {T : TypeId} {a : List Int} {k : IntKind} {v : Int} (ho : o.op = .store ty x y) (hx : pev ⟨N, t, bx, ob⟩ x = .ead q i) (hy : pev ⟨N, t, bx, ob⟩ y = .val (.int k v)) (hr : ob[q]? = some (some (rw_ k T a))) (hs : szT P ty = some 1) (h : i < a.length)
    (hd : o.dst = none) (hk : ∀ c, c = ob.set q (some (rw_ k T (a.set i v))) → K ⟨N, t, bx, c⟩) : Does P F o false ⟨N, t, bx, ob⟩ K := by
  intro R c A w hi
  have hrx := pev_rep hi x
  rw [hx] at hrx
  generalize hq : A.eval x = z at hrx
  cases hrx with
  | @ead _ _ _ X hX =>
  obtain ⟨X', us, b1, b2, b3, b4, b5, b6, b7⟩ := hi.W.obj q _ hr
  rw [hX] at b1; cases b1
  have hal : (rw_ k T a).cs.length = a.length := by simp [rw_, cs_w]
  rw [hal] at b6 b7
  have hrun : (execOp A.eval o).run P w = .ok .skip (w.setRow X.g (us.set i (.int k v)).toArray) := by
    have h1 := run_storeVar hs b5 (v := .int k v) (i := i) (by simp [Value.cells]) (by simp; omega) (by simp [Value.cells, Value.oneCell'])
    have h2 : us.take i ++ [Value.int k v] ++ us.drop (i + 1) = us.set i (.int k v) := by
      rw [List.set_eq_take_append_cons_drop, if_pos (by omega)]; simp
    simp only [Value.cells, List.length_singleton] at h1
    rw [h2] at h1
    simp [execOp, ho, hq, pev_val hi hy, Instr.storeAt, Instr.sureAddr, h1]
  unfold Oper.wp
  rw [hrun]
  have hI := hi.setrow (r' := rw_ k T (a.set i v)) (us := us.set i (.int k v)) hr hX rfl rfl (by simpa using b4) (by simpa [rw_, cs_w] using b6) (by
    have e1 : (us.set i (Value.int k v)).take (rw_ k T (a.set i v)).cs.length = (us.take a.length).set i (.int k v) := by
      simp only [rw_, cs_w, List.length_map, List.length_set]
      rw [List.take_set]
    have e2 : (rw_ k T (a.set i v)).cs = (a.map (wv k)).set i (.val (.int k v)) := by simp [rw_, cs_w, List.map_set, wv]
    rw [e1, e2]
    exact b7.set i (.val _))
  exact ⟨c, _, hI.put (d := o.dst) (by simp [St.fits, hd]) (.val undef), by simpa [St.put, hd] using hk _ rfl, fun h => by cases h⟩
end
section
variable {P : Program} {F : Fr} {s : St} {o : Oper}
theorem addr_add (g o j : Nat) : (⟨g, o, none⟩ : Addr).add j = ⟨g, o + j, none⟩ := by unfold Addr.add; split <;> simp_all
def evI (s : St) (x : Option Operand) (z : Int) : Option Int := match x with
  | none => some z
  | some x => match pev s x with
    | .val (.int _ i) => some i
    | _ => none
theorem evI_some {c : Cx} {a : Act} {w : World} (hi : Inv F c s a w) {x : Operand} {z i : Int} (h : evI s (some x) z = some i) : ∃ k, a.eval x = .int k i := by
  simp only [evI] at h
  split at h
  · rename_i k j hj
    cases h
    exact ⟨k, pev_val hi hj⟩
  · cases h
theorem elem_of {t e : TypeId} (h : P.underlying t = some (.slice e)) : P.elem t = e := by simp [Program.elem, h]
theorem run_cut {c : Cx} {A : Act} {w : World} (hi : Inv F c s A w) {ty e : TypeId} {sz : Nat} (ht : elT P ty = some (e, sz)) {x : Operand} {lo hi' mx : Option Operand} {B : Option Addr} {n cap : Nat} (ho : o.op = .slice ty x lo hi' mx) (hx : A.eval x = .slice B n cap) (hnc : n ≤ cap)
    {l h m : Int} (h1 : evI s lo 0 = some l) (h2 : evI s hi' n = some h) (h3 : evI s mx cap = some m) (hmx : mx.isSome = true → hi'.isSome = true) (hb : 0 ≤ l ∧ l ≤ h ∧ h ≤ n ∧ h ≤ m ∧ m ≤ cap) (w' : World) :
    (execOp A.eval o).run P w' = .ok (.value (sliced B l.toNat h.toNat m.toNat sz)) w' := by
  obtain ⟨hu, hz⟩ := elT_ok ht
  have hel := elem_of hu
  have hu' : P.underlying ty = some (.slice (P.elem ty)) := by rw [hel]; exact hu
  obtain ⟨b1, b2, b3, b4, b5⟩ := hb
  have hcap : (cap : Int).toNat = cap := Int.toNat_natCast cap
  have hlen : (n : Int).toNat = n := Int.toNat_natCast n
  cases mx with
  | none =>
    simp only [evI, Option.some.injEq] at h3; subst h3
    rw [hcap]
    cases hi' with
    | none =>
      simp only [evI, Option.some.injEq] at h2; subst h2
      rw [hlen]
      cases lo with
      | none =>
        simp only [evI, Option.some.injEq] at h1; subst h1
        simp [execOp, ho, hx, run_sliceAt_slice w' ty _ _ _ _ hu', run_slice_all w' ty B n cap hu', hel, run_szT hz, Result.andThen]
      | some lo =>
        obtain ⟨k1, e1⟩ := evI_some hi h1
        simp [execOp, ho, hx, e1, run_sliceAt_slice w' ty _ _ _ _ hu', run_slice_l w' ty B n cap hu' k1 l b1 (by omega), hel, run_szT hz, Result.andThen]
    | some hi' =>
      obtain ⟨k2, e2⟩ := evI_some hi h2
      cases lo with
      | none =>
        simp only [evI, Option.some.injEq] at h1; subst h1
        simp [execOp, ho, hx, e2, run_sliceAt_slice w' ty _ _ _ _ hu', run_slice_h w' ty B n cap hu' k2 h (by omega) (by omega), hel, run_szT hz, Result.andThen]
      | some lo =>
        obtain ⟨k1, e1⟩ := evI_some hi h1
        simp [execOp, ho, hx, e1, e2, run_sliceAt_slice w' ty _ _ _ _ hu', run_slice_lh w' ty B n cap hu' k1 k2 l h b1 b2 (by omega), hel, run_szT hz, Result.andThen]
  | some mx =>
    obtain ⟨k3, e3⟩ := evI_some hi h3
    cases hi' with
    | none => simp at hmx
    | some hi' =>
      obtain ⟨k2, e2⟩ := evI_some hi h2
      cases lo with
      | none =>
        simp only [evI, Option.some.injEq] at h1; subst h1
        simp [execOp, ho, hx, e2, e3, run_sliceAt_slice w' ty _ _ _ _ hu', run_slice_hm w' ty B n cap hu' k2 k3 h m (by omega) b4 b5, hel, run_szT hz, Result.andThen]
      | some lo =>
        obtain ⟨k1, e1⟩ := evI_some hi h1
        simp [execOp, ho, hx, e1, e2, e3, run_sliceAt_slice w' ty _ _ _ _ hu', run_slice_lhm w' ty B n cap hu' k1 k2 k3 l h m b1 b2 b4 b5, hel, run_szT hz, Result.andThen]
theorem rep_cut {c : Cx} {sz n cap l h m : Nat} {L : List PV} {B : Option Addr} (hr : Rep c (.sl sz L) (.slice B n cap)) (h1 : l ≤ h) (h2 : h ≤ n) (h3 : h ≤ m) (h4 : m ≤ cap) : Rep c (.sl sz ((L.take (h * sz)).drop (l * sz))) (sliced B l h m sz) := by
  cases hr with
  | sl k0 k1 k2 k3 k4 =>
  rename_i us
  unfold sliced
  refine .sl (us := (us.take (h * sz)).drop (l * sz)) k0 ?_ (by omega) ((k3.take _).drop _) fun j u hu => ?_
  · have : h * sz ≤ n * sz := Nat.mul_le_mul_right _ h2
    simp only [List.length_drop, List.length_take, Nat.sub_mul]; omega
  · rw [List.getElem?_drop, List.getElem?_take] at hu
    split at hu
    · rename_i hlt
      obtain ⟨ad, rfl, hρ⟩ := k4 _ _ hu
      have hne : m ≠ l := by
        intro e
        have : h = l := by omega
        rw [this] at hlt; omega
      rw [if_neg hne]
      exact ⟨_, rfl, by rw [add_zero_off]; exact hρ⟩
    · cases hu
theorem still_cutW {ty e : TypeId} {x : Operand} {lo hi' mx : Option Operand} {k : IntKind} {a : List Int} {l h : Int} (ho : o.op = .slice ty x lo hi' mx) (hx : pev s x = ws k a) (ht : elT P ty = some (e, 1)) (h1 : evI s lo 0 = some l) (h2 : evI s hi' a.length = some h)
    (h3 : evI s mx h = some h) (hmx : mx.isSome = true → hi'.isSome = true) (hb : 0 ≤ l ∧ l ≤ h ∧ h ≤ a.length) : Still P F o s (ws k ((a.take h.toNat).drop l.toNat)) := by
  intro c A w hi
  have hr := pev_rep hi x
  rw [hx] at hr
  generalize hq : A.eval x = z at hr
  replace hr := rep_ws.1 hr
  have hr0 := hr
  cases hr with
  | @sl _ _ n cap B _ us k0 k1 k2 k3 k4 =>
    have hn : n = a.length := by simpa using k1
    subst hn
    have hm : ∃ m : Int, evI s mx cap = some m ∧ h ≤ m ∧ m ≤ cap := by
      cases mx with
      | none => exact ⟨cap, rfl, by omega, by omega⟩
      | some mx => exact ⟨h, h3, by omega, by omega⟩
    obtain ⟨m, h3', hm1, hm2⟩ := hm
    have hrep := rep_cut (l := l.toNat) (h := h.toNat) (m := m.toNat) hr0 (by omega) (by omega) (by omega) (by omega)
    have he : ((a.map (wv k)).take (h.toNat * 1)).drop (l.toNat * 1) = ((a.take h.toNat).drop l.toNat).map (wv k) := by simp [List.map_take, List.map_drop]
    rw [he] at hrep
    exact ⟨_, rep_ws.2 hrep, fun w' _ => run_cut hi ht ho hq k2 h1 h2 h3' hmx ⟨hb.1, hb.2.1, by omega, hm1, hm2⟩ w'⟩
theorem still_cutR {ty e : TypeId} {x : Operand} {lo hi' mx : Option Operand} {q b n sz : Nat} {r : Row} {l h : Int} (ho : o.op = .slice ty x lo hi' mx) (hx : pev s x = .arr q b n) (hr0 : s.ob[q]? = some (some r)) (hsz : r.sz = sz) (ht : elT P ty = some (e, sz)) (h1 : evI s lo 0 = some l) (h2 : evI s hi' n = some h)
    (h3 : evI s mx h = some h) (hmx : mx.isSome = true → hi'.isSome = true) (hb : 0 ≤ l ∧ l ≤ h ∧ h ≤ n) : Still P F o s (.arr q (b + l.toNat) (h.toNat - l.toNat)) := by
  intro c A w hi
  have hr := pev_rep hi x
  rw [hx] at hr
  generalize hq : A.eval x = z at hr
  cases hr with
  | @arr _ _ _ _ cap X ad k1 k2 k3 k4 k5 =>
    have hX : X.sz = sz := by
      obtain ⟨x', us, a1, a2, _⟩ := hi.W.obj q r hr0
      rw [k1] at a1; cases a1; rw [a2, hsz]
    have hm : ∃ m : Int, evI s mx cap = some m ∧ h ≤ m ∧ m ≤ cap := by
      cases mx with
      | none => exact ⟨cap, rfl, by omega, by omega⟩
      | some mx => exact ⟨h, h3, by omega, by omega⟩
    obtain ⟨m, h3', hm1, hm2⟩ := hm
    refine ⟨_, ?_, fun w' _ => run_cut hi ht ho hq k3 h1 h2 h3' hmx ⟨hb.1, hb.2.1, hb.2.2, hm1, hm2⟩ w'⟩
    unfold sliced
    have e1 : (if m.toNat = l.toNat then some ad else Option.map (fun x => x.add (l.toNat * sz)) (some ad)) = some (if m.toNat = l.toNat then ad else ad.add (l.toNat * sz)) := by split <;> rfl
    rw [e1]
    refine .arr k1 k2 (by omega) (fun hc => ?_) (fun hc => ?_)
    · rw [if_neg (by omega), k4 (by omega), hX]
      unfold Addr.add
      split
      · rename_i h0; rw [Nat.add_mul, h0, Nat.add_zero]
      · simp [Nat.add_mul]
    · have := k5 (by omega)
      have h5 : (b + l.toNat + (m.toNat - l.toNat)) * X.sz ≤ (b + cap) * X.sz := Nat.mul_le_mul_right _ (by omega)
      omega
variable {ops : Rg} {rest : List Oper} {K : St → Prop} {p : PV} {N d : Nat} {t : Nat → PV} {bx : List (List PV)} {ob : List (Option Row)}
theorem SimW.freeze {c : Cx} {bx : List (List PV)} {ob : List (Option Row)} {w : World} (h : SimW c bx ob w) {q : Nat} {x : Ob} {r : Row} {us : List Value} (hr : ob[q]? = some (some r)) (hx : c.ob[q]? = some x) (hus : w.heap[x.g]? = some (.cells us.toArray x.T (0, 0))) (hc : RepL c.strip r.cs (us.take r.cs.length)) (ρ' : Addr → Option Value)
    (hρ : ∀ ad, ρ' ad = if ad.block = x.g ∧ ad.spot = none ∧ ad.off < r.cs.length then us[ad.off]? else c.ρ ad) : c.le { c with ρ := ρ' } ∧ SimW { c with ρ := ρ' } bx (ob.set q none) w := by
  have hnew : ∀ ad u, ρ' ad = some u → c.ρ ad = some u ∨ ad.block = x.g := by
    intro ad u hu
    rw [hρ] at hu
    split at hu
    · rename_i hh; exact .inr hh.1
    · exact .inl hu
  have k : c.le { c with ρ := ρ' } := by
    refine ⟨fun ad u hu => ?_, fun _ _ h => h, fun _ _ h => h⟩
    show ρ' ad = some u
    rw [hρ, if_neg (fun hh => h.so ad u q x r hu hr hx hh.1)]
    exact hu
  have live : ∀ (i : Nat) (l : Row), (ob.set q none)[i]? = some (some l) → i ≠ q ∧ ob[i]? = some (some l) := by
    intro i l hl
    rcases set_get hl with ⟨_, e, _⟩ | ⟨hne, hl⟩
    · cases e
    · exact ⟨hne, hl⟩
  refine ⟨k, ⟨fun ad u hu => ?_, h.bl, by simp [h.ol], fun i l hi => ?_, fun i l hl => ?_, h.nb, fun i j y z l m hl hm hy hz e => h.no i j y z l m (live i l hl).2 (live j m hm).2 hy hz e, fun i y l hl hy => h.nbo i y l (live i l hl).2 hy, fun ad u hu => ?_, fun ad u i y l hu hl hy => ?_⟩⟩
  · have hu' : ρ' ad = some u := hu
    rw [hρ] at hu'
    split at hu'
    · rename_i hh
      simpa [World.cell?, hh.1, hus, hh.2.1] using hu'
    · exact h.mem ad u hu'
  · obtain ⟨g, us', T, a1, a2, a3⟩ := h.box i l hi
    exact ⟨g, us', T, a1, a2, a3.up k⟩
  · obtain ⟨y, us', a1, a2, a3, a4, a5, a6, a7⟩ := h.obj i l (live i l hl).2
    exact ⟨y, us', a1, a2, a3, a4, a5, a6, a7.up k.strip⟩
  · rcases hnew ad u hu with hu | hu
    · exact h.sb ad u hu
    · rw [hu]; exact h.nbo q x r hr hx
  · obtain ⟨hne, hl'⟩ := live i l hl
    rcases hnew ad u hu with hu | hu
    · exact h.so ad u i y l hu hl' hy
    · rw [hu]
      exact fun e => hne (h.no i q y x l r hl' hr hy hx e.symm)
theorem freeze_inv {c : Cx} {a : Act} {w : World} (hi : Inv F c ⟨N, t, bx, ob⟩ a w) {q b n : Nat} {k : IntKind} {T : TypeId} {A : List Int} (hd : t d = .arr q b n) (hr : ob[q]? = some (some (rw_ k T A))) (hle : b + n ≤ A.length) (hown : F.c0.ob.length ≤ q) :
    ∃ c', Inv F c' ⟨N, upd t d (ws k ((A.drop b).take n)), bx, ob.set q none⟩ a w := by
  obtain ⟨x, us, a1, a2, a3, a4, a5, a6, a7⟩ := hi.W.obj q _ hr
  obtain ⟨ρ', hρ⟩ : ∃ ρ' : Addr → Option Value, ∀ ad, ρ' ad = if ad.block = x.g ∧ ad.spot = none ∧ ad.off < (rw_ k T A).cs.length then us[ad.off]? else c.ρ ad := ⟨_, fun _ => rfl⟩
  obtain ⟨kle, hW⟩ := hi.W.freeze hr a1 a5 a7 ρ' hρ
  refine ⟨{ c with ρ := ρ' }, ⟨hW, hi.nd, hi.sz, fun y => ?_, hi.kp, fun ad u hu => kle.ρ _ _ (hi.rho ad u hu), fun ad u hu => ?_, hi.obp, hi.obB, hi.bbB⟩⟩
  · show Rep _ (upd t d (ws k ((A.drop b).take n)) y) _
    by_cases hy : y = d
    · subst hy
      rw [upd_same]
      have htm := hi.tm y
      change Rep c (t y) _ at htm
      rw [hd] at htm
      generalize a.tmps.getD y undef = z at htm ⊢
      cases htm with
      | @arr _ _ _ _ cap X ad k1 k2 k3 k4 k5 =>
        rw [a1] at k1; cases k1
        have hsz : x.sz = 1 := a2
        have hcs : (rw_ k T A).cs.length = A.length := by simp [rw_, cs_w]
        refine rep_ws.2 (.sl (us := ((us.take A.length).drop b).take n) Nat.one_pos (by simp; omega) k3 ?_ fun j u hu => ?_)
        · have h7 := a7.up kle.strip
          rw [hcs] at h7
          have := (h7.drop b).take n
          simpa [rw_, cs_w, List.map_take, List.map_drop] using this
        · rw [List.getElem?_take] at hu
          split at hu
          · rename_i hj
            rw [List.getElem?_drop, List.getElem?_take] at hu
            split at hu
            · rename_i hj2
              refine ⟨ad, rfl, ?_⟩
              have had : ad.add j = ⟨x.g, b + j, none⟩ := by rw [k4 (by omega), hsz, Nat.mul_one, addr_add]
              show ρ' (ad.add j) = some u
              rw [had, hρ, if_pos ⟨rfl, rfl, by simp only [hcs]; exact hj2⟩]
              exact hu
            · cases hu
          · cases hu
    · rw [upd_ne _ _ _ hy]; exact (hi.tm y).up kle
  · have hu' : ρ' ad = some u := hu
    rw [hρ] at hu'
    split at hu'
    · rename_i hh
      exact .inr (by rw [hh.1]; exact hi.obB q x hown a1)
    · exact hi.new ad u hu'
theorem Ops.freeze {l : List Oper} (d : Nat) {q b n : Nat} {k : IntKind} {T : TypeId} {A B : List Int} (hd : t d = .arr q b n) (hr : ob[q]? = some (some (rw_ k T A))) (hle : b + n ≤ A.length) (hB : (A.drop b).take n = B) (hown : F.c0.ob.length ≤ q) (h : ∀ c, c = ob.set q none → Ops P F ops l ⟨N, upd t d (ws k B), bx, c⟩ K) : Ops P F ops l ⟨N, t, bx, ob⟩ K := by
  subst hB
  exact Ops.lift (fun c a w hi => freeze_inv hi hd hr hle hown) (h _ rfl)
theorem Cd.freeze {cd : Code} {Q : Exit → St → Prop} (d : Nat) {q b n : Nat} {k : IntKind} {T : TypeId} {A B : List Int} (hd : t d = .arr q b n) (hr : ob[q]? = some (some (rw_ k T A))) (hle : b + n ≤ A.length) (hB : (A.drop b).take n = B) (hown : F.c0.ob.length ≤ q) (h : ∀ c, c = ob.set q none → Cd P F cd ⟨N, upd t d (ws k B), bx, c⟩ Q) : Cd P F cd ⟨N, t, bx, ob⟩ Q := by
  subst hB
  intro c a w hi
  obtain ⟨c', hi'⟩ := freeze_inv hi hd hr hle hown
  exact h _ rfl c' a w hi'
def ExtOk (P : Program) (f : FuncId) (vs : List Value) (r : PV) : Prop := ∃ v, (∀ c, Rep c r v) ∧ ∀ w, (callFunc f vs.toArray).run P w = .ok (.value v) w
theorem vals_eq {c : Cx} : ∀ {vs us : List Value}, RepL c (vs.map .val) us → us = vs
  | [], _, .nil => rfl
  | _ :: _, _, .cons h t => by cases h; rw [vals_eq t]
theorem still_ext {f : FuncId} {x : Operand} {as : List Operand} {ts : Array TypeId} {vs : List Value} (ho : o.op = .call { callee := .value x, args := as.toArray, argTypes := ts }) (hx : pev s x = .val (.func (.func f) #[] #[])) (ha : as.map (pev s) = vs.map .val) (h : ExtOk P f vs p) : Still P F o s p := by
  obtain ⟨v, hr, hrun⟩ := h
  intro c a w hi
  refine ⟨v, hr c, fun w' _ => ?_⟩
  have h1 := evalL hi as
  rw [ha] at h1
  have hargs := vals_eq h1
  have he : as.toArray.map a.eval = vs.toArray := by simp [hargs]
  simp only [execOp, ho, resolve, pev_val hi hx, Deferred.ofValue, Sem.run_bind, Sem.run_pure, Result.andThen_ok, invoke, Array.empty_append, Array.append_empty, he, hrun]
end
end Go.Proofs.YtpjbgmafnheomaaGreatDoor.Sim
