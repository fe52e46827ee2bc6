/-
  Lemmas of SpanPlaysCardSaid, part 7.
-/
import Derived.Test.YtpjbgmafnheomaaGreatDoorPkSpanPlaysCardSaidF
import Derived.Laws.AppendOwn
import Derived.Maps.AppendAt
namespace Go.Proofs.YtpjbgmafnheomaaGreatDoor.Sim
open Go.RowKit
set_option linter.unusedVariables false
set_option linter.unusedSimpArgs false
mutual
def forg (q : Nat) : PV → PV
  | .arr o l n => match Nat.beq o q with
    | true => .any
    | false => .arr o l n
  | .ead o i => match Nat.beq o q with
    | true => .any
    | false => .ead o i
  | .agg l => .agg (forgL q l)
  | .tup l => .tup (forgL q l)
  | .val v => .val v
  | .nil => .nil
  | .ws k a => .ws k a
  | .sl z l => .sl z l
  | .fs z n f => .fs z n f
  | .cw k a i => .cw k a i
  | .cf f i m => .cf f i m
  | .emp => .emp
  | .ptr b o => .ptr b o
  | .cel l => .cel l
  | .any => .any
def forgL (q : Nat) : List PV → List PV
  | [] => []
  | p :: l => forg q p :: forgL q l
end
theorem beq_ne {a b : Nat} (h : Nat.beq a b = false) : a ≠ b := fun e => by subst e; simp at h
mutual
theorem Rep.forg {c c' : Cx} {q : Nat} (hρ : c'.ρ = c.ρ) (hb : c'.bb = c.bb) (ho : ∀ i, i ≠ q → c'.ob[i]? = c.ob[i]?) : ∀ {p : PV} {v : Value}, Rep c p v → Rep c' (forg q p) v
  | _, _, .val v => .val v
  | _, _, .nil => .nil
  | _, _, .sl h0 h1 h2 h3 h4 => by
    have e : c'.strip = c.strip := by simp [Cx.strip, hρ]
    exact .sl h0 h1 h2 (e ▸ h3) (by rw [hρ]; exact h4)
  | _, _, .ws h1 h2 h4 => .ws h1 h2 (by rw [hρ]; exact h4)
  | _, _, .fs h0 h1 h2 h3 h4 => by
    have e : c'.strip = c.strip := by simp [Cx.strip, hρ]
    exact .fs h0 h1 h2 (e ▸ h3) (by rw [hρ]; exact h4)
  | _, _, .cw h0 h4 => .cw h0 (by rw [hρ]; exact h4)
  | _, _, .cf h1 h3 h4 => by
    have e : c'.strip = c.strip := by simp [Cx.strip, hρ]
    exact .cf h1 (e ▸ h3) (by rw [hρ]; exact h4)
  | _, _, .emp => .emp
  | _, _, .agg h => .agg (RepL.forg hρ hb ho h)
  | _, _, .tup h => .tup (RepL.forg hρ hb ho h)
  | _, _, .ptr h => .ptr (by rw [hb]; exact h)
  | _, _, .cel h3 h4 => by
    have e : c'.strip = c.strip := by simp [Cx.strip, hρ]
    exact .cel (e ▸ h3) (by rw [hρ]; exact h4)
  | _, _, .arr (o := o) h h0 h2 h3 h4 => by
    simp only [Sim.forg]
    split
    · exact .any _
    · rename_i hq; exact .arr (by rw [ho _ (beq_ne hq)]; exact h) h0 h2 h3 h4
  | _, _, .ead (o := o) h => by
    simp only [Sim.forg]
    split
    · exact .any _
    · rename_i hq; exact .ead (by rw [ho _ (beq_ne hq)]; exact h)
  | _, _, .any v => .any v
theorem RepL.forg {c c' : Cx} {q : Nat} (hρ : c'.ρ = c.ρ) (hb : c'.bb = c.bb) (ho : ∀ i, i ≠ q → c'.ob[i]? = c.ob[i]?) : ∀ {l : List PV} {us : List Value}, RepL c l us → RepL c' (forgL q l) us
  | _, _, .nil => .nil
  | _, _, .cons h t => .cons (Rep.forg hρ hb ho h) (RepL.forg hρ hb ho t)
end
section
variable {P : Program} {F : Fr} {s : St} {o : Oper}
theorem run_appendI {t ty e : TypeId} {i : TypeInfo} {z : Value} (ht : P.underlying t = some (.slice e)) (hi : P.info? e = some i) (hz : i.zero = some z) (hs : i.size = 1) (hzs : z.cells.size = 1) {w : World} {g : Nat} {us olds : List Value} {T : TypeId} (hT : T = e) (hg : w.heap[g]? = some (.cells us.toArray T (0, 0)))
    {n cap m c2 : Nat} {ad a2 : Addr} {news : List Value} (ho : us.take n = olds) (hol : olds.length = n) (hn : n ≤ cap) (had : 0 < cap → ad = ⟨g, 0, none⟩ ∧ cap ≤ us.length) (hnl : news.length = m) (hnews : ∀ j v, news[j]? = some v → w.cell? (a2.add j) = some v) (h1 : ∀ u ∈ news, u.oneCell' = true)
    (hb : ((n + m : Nat) : Int) ≤ 9223372036854775807) (hby : (n + m) * i.bytes ≤ 140737488355328) :
    ∃ (w' : World) (g' cap' : Nat) (us' : List Value) (ad' : Addr), (Builtin.append_ #[t, t] ty #[.slice (some ad) n cap, .slice (some a2) m c2]).run P w = .ok (.slice (some ad') (n + m) cap') w' ∧ (g' = g ∨ g' = w.heap.size) ∧ w'.heap[g']? = some (.cells us'.toArray T (0, 0)) ∧
      us'.take (n + m) = olds ++ news ∧ n + m ≤ cap' ∧ (0 < cap' → ad' = ⟨g', 0, none⟩ ∧ cap' ≤ us'.length) ∧ n + m ≤ us'.length ∧ w.grownBy w' (some g) := by
  subst hT
  have hnu : n ≤ us.length := by rw [← hol, ← ho, List.length_take]; omega
  by_cases hroom : n + m ≤ cap
  · by_cases hm : m = 0
    · subst hm
      have hnil : news = [] := List.length_eq_zero_iff.1 hnl
      subst hnil
      refine ⟨w, g, cap, us, ad, ?_, .inl rfl, hg, by simpa using ho, by omega, had, by omega, ⟨rfl, rfl, rfl, Nat.le_refl _, fun _ _ _ => rfl⟩⟩
      simp [Builtin.append_, run_underlying ht, sizeOf, typeInfo, hi, Builtin.lenOf, hn, Builtin.firstCells, loadCells, loadCellsFrom, storeCells]
    · have hcap : 0 < cap := by omega
      obtain ⟨rfl, hcu⟩ := had hcap
      have hrun := run_append_room (P := P) w t ty T i ht hi g n cap us.toArray hg a2 m c2 news (by rw [hs]; omega) hnews h1 hroom (by rw [hs]; simp; omega)
      rw [hs, Nat.mul_one] at hrun
      refine ⟨_, g, cap, us.take n ++ news ++ us.drop (n + news.length), ⟨g, 0, none⟩, hrun, .inl rfl, by simpa using setRow_heap w g us.toArray (us.take n ++ news ++ us.drop (n + news.length)).toArray _ _ hg, ?_, hroom, fun _ => ⟨rfl, ?_⟩, ?_, ⟨rfl, rfl, rfl, by simp, fun k hk hne => setRow_other w g k _ (fun e => hne (by rw [e]))⟩⟩
      · have e1 : (olds ++ news).length = n + m := by simp [hol, hnl]
        rw [ho, ← e1]; exact List.take_left
      · simp; omega
      · simp; omega
  · have hfit := growslice_fits (need := n + m) (old := cap) (bytes := i.bytes) (by omega) hby
    have hge := grownCap_ge w (n + m) cap T
    have hrun := run_append_grow (P := P) (w := w) t ty T i z ht hi hz ad n cap olds (by rw [hs]; omega) (fun j v hj => by
      have hjn : j < n := by rw [← hol]; exact (List.getElem?_eq_some_iff.1 hj).1
      obtain ⟨rfl, _⟩ := had (by omega)
      rw [addr_add, Nat.zero_add]
      rw [← ho, List.getElem?_take, if_pos hjn] at hj
      simpa [World.cell?, hg] using hj) a2 m c2 news (by rw [hs]; omega) hnews (by omega) hb hfit
    have hzc : z.cells.size = 1 := hzs
    refine ⟨_, w.heap.size, _, olds ++ news ++ (Builtin.zeroCells z.cells (grownCap w (n + m) cap T - (n + m))).toList, _, hrun, .inr rfl, ?_, ?_, hge, fun _ => ⟨rfl, ?_⟩, ?_, ⟨rfl, rfl, rfl, by simp, fun k hk _ => heap_alloc_old w.drew _ k hk⟩⟩
    · have := heap_alloc_new w.drew (.cells (olds.toArray ++ news.toArray ++ Builtin.zeroCells z.cells (grownCap w (n + m) cap T - (n + m))) T)
      have e : (olds ++ news ++ (Builtin.zeroCells z.cells (grownCap w (n + m) cap T - (n + m))).toList).toArray = olds.toArray ++ news.toArray ++ Builtin.zeroCells z.cells (grownCap w (n + m) cap T - (n + m)) := by
        apply Array.ext'; simp
      rw [e]
      exact this
    · have e1 : (olds ++ news).length = n + m := by simp [hol, hnl]
      rw [← e1]; exact List.take_left
    · simp [size_zeroCells, hzc, hol, hnl]; omega
    · simp [hol, hnl]
def reob (s : St) (q : Nat) (r : Row) : St := ⟨s.n, fun x => forg q (s.t x), s.bx.map (forgL q), s.ob.set q (some r)⟩
theorem Inv.regrow {c : Cx} {a : Act} {w w' : World} (hi : Inv F c s a w) {q : Nat} {x : Ob} {r r' : Row} {us' : List Value} {g' : Nat} (hr : s.ob[q]? = some (some r)) (hx : c.ob[q]? = some x) (hown : F.c0.ob.length ≤ q) (hgb : w.grownBy w' (some x.g)) (hg' : g' = x.g ∨ g' = w.heap.size)
    (hsz : r'.sz = x.sz) (hT : r'.T = x.T) (hw' : w'.heap[g']? = some (.cells us'.toArray x.T (0, 0))) (h4 : r'.cs.length ≤ us'.length) (h5 : RepL c.strip r'.cs (us'.take r'.cs.length)) :
    Inv F { c with ob := c.ob.set q ⟨g', us'.length, x.sz, x.T⟩ } (reob s q r') a w' := by
  have hq : q < c.ob.length := (List.getElem?_eq_some_iff.1 hx).1
  have hqo : q < s.ob.length := (List.getElem?_eq_some_iff.1 hr).1
  have hne : ∀ i, i ≠ q → (c.ob.set q ⟨g', us'.length, x.sz, x.T⟩)[i]? = c.ob[i]? := fun i h => List.getElem?_set_ne (Ne.symm h)
  have hself : (c.ob.set q ⟨g', us'.length, x.sz, x.T⟩)[q]? = some ⟨g', us'.length, x.sz, x.T⟩ := by simp [hq]
  have hxg := hi.W.ob_lt hr hx
  have old : ∀ k, k < w.heap.size → k ≠ x.g → w'.heap[k]? = w.heap[k]? := fun k hk h => hgb.block k hk (by simpa using h)
  have live : ∀ (i : Nat) (l : Row), i ≠ q → (s.ob.set q (some r'))[i]? = some (some l) → s.ob[i]? = some (some l) := fun i l h hl => by rwa [List.getElem?_set_ne (Ne.symm h)] at hl
  have hstrip : ({ c with ob := c.ob.set q ⟨g', us'.length, x.sz, x.T⟩ } : Cx).strip = c.strip := rfl
  have gout : ∀ b, b < w.heap.size → b ≠ x.g → b ≠ g' := by
    intro b hb hbx e
    rcases hg' with h | h
    · exact hbx (e.trans h)
    · omega
  refine ⟨⟨fun ad u hu => ?_, by simp [reob, hi.W.bl], by simp [reob, hi.W.ol], fun i l hl => ?_, fun i l hl => ?_, hi.W.nb, fun i j y z l m hl hm hy hz e => ?_, fun i y l hl hy => ?_, hi.W.sb, fun ad u i y l hu hl hy => ?_⟩, hi.nd, hi.sz, fun t => Rep.forg (c := c) (c' := { c with ob := c.ob.set q ⟨g', us'.length, x.sz, x.T⟩ }) rfl rfl hne (hi.tm t), ?_, hi.rho, hi.new, fun i y hy => ?_, fun i y hl hy => ?_, hi.bbB⟩
  · have h1 := hi.W.mem ad u hu
    have h2 := hi.W.so ad u q x r hu hr hx
    rw [World.cell?_of_block (w := w) (old _ (World.block_lt_of_cell? w ad h1) h2)]
    exact h1
  · simp only [reob, List.getElem?_map, Option.map_eq_some_iff] at hl
    obtain ⟨l0, hl0, rfl⟩ := hl
    obtain ⟨g, us, T, h1, h2, h3⟩ := hi.W.box i l0 hl0
    exact ⟨g, us, T, h1, by rw [old g (hi.W.bb_lt h1) (fun e => hi.W.nbo q x r hr hx (e ▸ List.mem_of_getElem? h1))]; exact h2, RepL.forg (c := c) (c' := { c with ob := c.ob.set q ⟨g', us'.length, x.sz, x.T⟩ }) rfl rfl hne h3⟩
  · by_cases hiq : i = q
    · subst hiq
      have : l = r' := by simpa [reob, hqo] using hl.symm
      subst this
      exact ⟨_, us', hself, hsz.symm, hT.symm, rfl, hw', h4, h5⟩
    · obtain ⟨y, us, b1, b2, b3, b4, b5, b6, b7⟩ := hi.W.obj i l (live i l hiq hl)
      refine ⟨y, us, by rw [hne i hiq]; exact b1, b2, b3, b4, ?_, b6, b7⟩
      rw [old y.g (hi.W.ob_lt (live i l hiq hl) b1) (fun e => hiq (hi.W.no i q y x l r (live i l hiq hl) hr b1 hx e))]
      exact b5
  · by_cases hiq : i = q
    · by_cases hjq : j = q
      · rw [hiq, hjq]
      · exfalso
        subst hiq
        rw [hself] at hy; cases hy
        rw [hne j hjq] at hz
        have h1 := live j m hjq hm
        exact gout z.g (hi.W.ob_lt h1 hz) (fun e2 => hjq (hi.W.no j i z x m r h1 hr hz hx e2)) e.symm
    · by_cases hjq : j = q
      · exfalso
        subst hjq
        rw [hself] at hz; cases hz
        rw [hne i hiq] at hy
        have h1 := live i l hiq hl
        exact gout y.g (hi.W.ob_lt h1 hy) (fun e2 => hiq (hi.W.no i j y x l r h1 hr hy hx e2)) e
      · rw [hne i hiq] at hy; rw [hne j hjq] at hz
        exact hi.W.no i j y z l m (live i l hiq hl) (live j m hjq hm) hy hz e
  · by_cases hiq : i = q
    · subst hiq
      rw [hself] at hy; cases hy
      intro hm
      obtain ⟨k, hk⟩ := List.getElem?_of_mem hm
      exact gout g' (hi.W.bb_lt hk) (fun e => hi.W.nbo i x r hr hx (e ▸ hm)) rfl
    · rw [hne i hiq] at hy
      exact hi.W.nbo i y l (live i l hiq hl) hy
  · by_cases hiq : i = q
    · subst hiq
      rw [hself] at hy; cases hy
      exact gout _ (hi.W.ρ_lt hu) (hi.W.so ad u i x r hu hr hx)
    · rw [hne i hiq] at hy
      exact hi.W.so ad u i y l hu (live i l hiq hl) hy
  · have hxg0 := hi.obB q x hown hx
    refine hi.kp.trans ⟨hgb.os, hgb.tape, hgb.output, hgb.size, fun k hk _ => old k (Nat.lt_of_lt_of_le hk hi.kp.size) (fun e => by omega)⟩
  · have hil : i < F.c0.ob.length := (List.getElem?_eq_some_iff.1 hy).1
    rw [hne i (by omega)]
    exact hi.obp i y hy
  · by_cases hiq : i = q
    · subst hiq
      rw [hself] at hy; cases hy
      have hxg0 := hi.obB i x hown hx
      rcases hg' with h | h
      · rw [h]; exact hxg0
      · rw [h]; exact hi.kp.size
    · rw [hne i hiq] at hy
      exact hi.obB i y hl hy
variable {ops : Rg} {rest : List Oper} {K : St → Prop} {N d : Nat} {t : Nat → PV} {bx : List (List PV)} {ob : List (Option Row)}
theorem Does.append {ty e : TypeId} {x y : Operand} {q n : Nat} {k : IntKind} {T : TypeId} {a b : List Int} {nb : Nat} (ho : o.op = .call { callee := .builtin .append, args := #[x, y], argTypes := #[ty, ty] }) (hx : pev ⟨N, t, bx, ob⟩ x = .arr q 0 n) (hr : ob[q]? = some (some (rw_ k T a)))
    (hy : pev ⟨N, t, bx, ob⟩ y = ws k b) (ht : elT P ty = some (e, 1)) (he : T = e) (hz : zeroT P e = some [.val (.int k 0)]) (hb : byT P e = some nb) (hn : n = a.length) (hfit : (n + b.length) * nb ≤ 140737488355328 ∧ n + b.length ≤ 9223372036854775807) (hown : F.c0.ob.length ≤ q)
    (hd : o.dst = some d) (hdn : Nat.blt d N = true)
    (h : K ⟨N, upd (fun x => forg q (t x)) d (.arr q 0 (n + b.length)), bx.map (forgL q), ob.set q (some (rw_ k T (a ++ b)))⟩) : Does P F o false ⟨N, t, bx, ob⟩ K := by
  subst he
  intro R c A w hi
  obtain ⟨hu, hs⟩ := elT_ok ht
  cases hq : P.info? T with
  | none => simp [szT, hq] at hs
  | some i =>
  have hs1 : i.size = 1 := by simpa [szT, hq] using hs
  have hb1 : i.bytes = nb := by simpa [byT, hq] using hb
  cases hv : i.zero with
  | none => simp [zeroT, hq, hv] at hz
  | some v =>
  have hvc : v.cells.size = 1 := by
    simp only [zeroT, hq, hv, Option.bind_some, Option.map_some, Option.some.injEq] at hz
    have := congrArg List.length hz
    simpa using this
  have hrx := pev_rep hi x
  rw [hx] at hrx
  have hry := pev_rep hi y
  rw [hy] at hry
  replace hry := rep_ws.1 hry
  generalize hX : A.eval x = vx at hrx
  generalize hY : A.eval y = vy at hry
  cases hrx with
  | @arr _ _ _ _ cap X ad k1 k2 k3 k4 k5 =>
  obtain ⟨X', us, b1, b2, b3, b4, b5, b6, b7⟩ := hi.W.obj q _ hr
  rw [k1] at b1; cases b1
  have hXs : X.sz = 1 := b2
  have hXT : X.T = T := b3
  have hcl : (rw_ k T a).cs.length = a.length := by simp [rw_, cs_w]
  rw [hcl] at b6 b7
  have hus : us.take n = a.map (Value.int k) := by rw [hn]; exact wv_repL_eq b7
  cases hry with
  | @sl _ _ m c2 B _ vs j0 j1 j2 j3 j4 =>
  have hm1 : m = b.length := by simpa using j1
  subst hm1
  have hvs : vs = b.map (Value.int k) := wv_repL_eq j3
  have main : ∃ (w' : World) (g' cap' : Nat) (us' : List Value) (ad' : Addr), (Builtin.append_ #[ty, ty] (o.type) #[.slice (some ad) n cap, .slice B b.length c2]).run P w = .ok (.slice (some ad') (n + b.length) cap') w' ∧ (g' = X.g ∨ g' = w.heap.size) ∧ w'.heap[g']? = some (.cells us'.toArray X.T (0, 0)) ∧
      us'.take (n + b.length) = a.map (Value.int k) ++ b.map (Value.int k) ∧ n + b.length ≤ cap' ∧ (0 < cap' → ad' = ⟨g', 0, none⟩ ∧ cap' ≤ us'.length) ∧ n + b.length ≤ us'.length ∧ w.grownBy w' (some X.g) := by
    have hhad : 0 < cap → ad = ⟨X.g, 0, none⟩ ∧ cap ≤ us.length := fun hc => ⟨by simpa using k4 hc, by have := k5 hc; rw [hXs] at this; omega⟩
    cases hbl : b with
    | nil =>
      subst hbl
      refine ⟨w, X.g, cap, us, ad, ?_, .inl rfl, b5, by simpa using hus, by simpa using k3, hhad, by simp; omega, ⟨rfl, rfl, rfl, Nat.le_refl _, fun _ _ _ => rfl⟩⟩
      cases B <;> simp [Builtin.append_, run_underlying hu, sizeOf, typeInfo, hq, Builtin.lenOf, k3, Builtin.firstCells, loadCells, loadCellsFrom, storeCells]
    | cons b0 bs =>
      rw [← hbl]
      have h0 : vs[0]? = some (.int k b0) := by rw [hvs, hbl]; rfl
      obtain ⟨a2, rfl, _⟩ := j4 0 _ h0
      exact run_appendI hu hq hv hs1 hvc hXT b5 hus (by simp [hn]) k3 hhad (by simp) (fun j u hj => by
        obtain ⟨ad3, e3, hρ⟩ := j4 j u (by rw [hvs]; exact hj)
        cases e3
        exact hi.W.mem _ _ hρ) (fun u hu' => by
        obtain ⟨z, _, rfl⟩ := List.mem_map.1 hu'
        rfl) (by omega) (by rw [hb1]; exact hfit.1)
  obtain ⟨w', g', cap', us', ad', hrun, hg', hw', htk, hcap, had', hlen, hgb⟩ := main
  have hI := hi.regrow (r' := rw_ k T (a ++ b)) (us' := us') (g' := g') hr k1 hown hgb hg' (by simp [rw_, hXs]) (by simp [rw_, hXT]) hw' (by simp [rw_, cs_w]; omega) (by
    have e1 : (rw_ k T (a ++ b)).cs.length = n + b.length := by simp [rw_, cs_w, hn]
    rw [e1, htk]
    have e2 : (rw_ k T (a ++ b)).cs = (a ++ b).map (wv k) := rfl
    rw [e2, ← List.map_append]
    exact wv_repL _ k _)
  unfold Oper.wp
  have hrun' : (execOp A.eval o).run P w = .ok (.value (.slice (some ad') (n + b.length) cap')) w' := by
    simp [execOp, ho, resolve, invoke, builtin, hX, hY, hrun]
  rw [hrun']
  refine ⟨_, _, hI.put (d := o.dst) (p := .arr q 0 (n + b.length)) (by simpa [St.fits, hd, reob] using hdn) ?_, by simpa [St.put, hd, reob] using h, fun h => by cases h⟩
  have hqc : q < c.ob.length := (List.getElem?_eq_some_iff.1 k1).1
  exact .arr (x := ⟨g', us'.length, X.sz, X.T⟩) (by simp [hqc]) (by simp [hXs]) hcap (fun hc => by simpa using (had' hc).1) (fun hc => by simpa [hXs] using (had' hc).2)
theorem Does.copy {ty e : TypeId} {x y : Operand} {q lo n : Nat} {k : IntKind} {T : TypeId} {a b : List Int} (ho : o.op = .call { callee := .builtin .copy, args := #[x, y], argTypes := #[ty, ty] }) (hx : pev ⟨N, t, bx, ob⟩ x = .arr q lo n) (hr : ob[q]? = some (some (rw_ k T a)))
    (hy : pev ⟨N, t, bx, ob⟩ y = ws k b) (ht : elT P ty = some (e, 1)) (hn : lo + n ≤ a.length)
    (hd : o.dst = some d) (hdn : Nat.blt d N = true)
    (h : ∀ c, c = ob.set q (some (rw_ k T (a.take lo ++ b.take n ++ a.drop (lo + min n b.length)))) → K ⟨N, upd t d (.val (.int .i64 (min n b.length : Nat))), bx, c⟩) : Does P F o false ⟨N, t, bx, ob⟩ K := by
  intro R c A w hi
  obtain ⟨hu, hs⟩ := elT_ok ht
  have hrx := pev_rep hi x
  rw [hx] at hrx
  have hry := pev_rep hi y
  rw [hy] at hry
  replace hry := rep_ws.1 hry
  generalize hX : A.eval x = vx at hrx
  generalize hY : A.eval y = vy at hry
  cases hrx with
  | @arr _ _ _ _ cap X ad k1 k2 k3 k4 k5 =>
  obtain ⟨X', us, b1, b2, b3, b4, b5, b6, b7⟩ := hi.W.obj q _ hr
  rw [k1] at b1; cases b1
  have hXs : X.sz = 1 := b2
  have hcl : (rw_ k T a).cs.length = a.length := by simp [rw_, cs_w]
  rw [hcl] at b6 b7
  have hus : us.take a.length = a.map (Value.int k) := wv_repL_eq b7
  cases hry with
  | @sl _ _ m c2 B _ vs j0 j1 j2 j3 j4 =>
  have hm1 : m = b.length := by simpa using j1
  subst hm1
  have hvs : vs = b.map (Value.int k) := wv_repL_eq j3
  have hnew : ∃ us' : List Value, (Builtin.copy_ #[ty, ty] o.type #[.slice (some ad) n cap, .slice B b.length c2]).run P w = .ok (goInt ((min n b.length : Nat) : Int)) (w.setRow X.g us'.toArray) ∧ us'.length = us.length ∧ us'.take a.length = (a.take lo ++ b.take n ++ a.drop (lo + min n b.length)).map (Value.int k) := by
    by_cases h0 : min n b.length = 0
    · refine ⟨us, ?_, rfl, ?_⟩
      · rw [setRow_self w X.g us.toArray X.T (0, 0) b5]
        have hmm : Nat.min b.length n = 0 := by rw [Nat.min_comm] at h0; exact h0
        cases B <;> simp [Builtin.copy_, run_underlying hu, Builtin.lenOf, Builtin.firstCells, run_szT hs, hmm, h0, loadCells, loadCellsFrom, storeCells]
      · rw [hus, h0]
        have : b.take n = [] := by
          rcases Nat.min_eq_zero_iff.1 h0 with h | h
          · rw [h]; rfl
          · rw [List.length_eq_zero_iff.1 h]; simp
        rw [this]; simp
    · have hc : 0 < cap := by omega
      have had := k4 hc
      rw [hXs, Nat.mul_one] at had
      subst had
      have hbl : b ≠ [] := by intro e; subst e; simp at h0
      have h00 : ∃ a2, B = some a2 := by
        cases hb0 : b with
        | nil => exact absurd hb0 hbl
        | cons b0 bs =>
          have hz : vs[0]? = some (.int k b0) := by rw [hvs, hb0]; rfl
          obtain ⟨a2, e, _⟩ := j4 0 _ hz
          exact ⟨a2, e⟩
      obtain ⟨a2, rfl⟩ := h00
      have hcs : (b.take n).length = min n b.length := by simp
      have hcl2 : ((b.take n).map (Value.int k)).length = min n b.length := by simp
      have hrun := run_copy_row (P := P) w ty ty o.type e X.g lo n cap a2 b.length c2 us.toArray X.T ((b.take n).map (Value.int k)) hu (by simpa [szT] using hs) b5 (by rw [hcl2, Nat.min_comm]) (fun j u hj => by
        have : vs[j]? = some u := by
          rw [hvs, List.getElem?_map]
          rw [List.getElem?_map, List.getElem?_take] at hj
          split at hj
          · exact hj
          · simp at hj
        obtain ⟨ad3, e3, hρ⟩ := j4 j u this
        cases e3
        exact hi.W.mem _ _ hρ) (by rw [hcl2]; simp; omega) (fun u hu' => by
        obtain ⟨z, _, rfl⟩ := List.mem_map.1 hu'
        rfl)
      rw [hcl2] at hrun
      refine ⟨_, hrun, by simp <;> omega, ?_⟩
      have e1 : us = a.map (Value.int k) ++ us.drop a.length := by rw [← hus]; simp
      have hl : ((a.take lo ++ b.take n ++ a.drop (lo + min n b.length)).map (Value.int k)).length = a.length := by simp; omega
      rw [← hl]
      have e2 : us.toArray.toList.take lo ++ (b.take n).map (Value.int k) ++ us.toArray.toList.drop (lo + min n b.length) = (a.take lo ++ b.take n ++ a.drop (lo + min n b.length)).map (Value.int k) ++ us.drop a.length := by
        simp only [List.map_append, List.map_take, List.map_drop]
        have t1 : us.take lo = (a.map (Value.int k)).take lo := by rw [← hus, List.take_take]; congr 1; omega
        have t2 : us.drop (lo + min n b.length) = (a.map (Value.int k)).drop (lo + min n b.length) ++ us.drop a.length := by
          conv => lhs; rw [e1]
          rw [List.drop_append]
          congr 1
          simp
          have : lo + min n b.length - a.length = 0 := by omega
          rw [this]; simp
        rw [t1, t2]
        simp [List.append_assoc]
      rw [e2]
      exact List.take_left
  obtain ⟨us', hrun, hl', htk⟩ := hnew
  have hI := hi.setrow (r' := rw_ k T (a.take lo ++ b.take n ++ a.drop (lo + min n b.length))) (us := us') hr k1 rfl rfl (by rw [hl']; exact b4) (by simp [rw_, cs_w] <;> omega) (by
    have e1 : (rw_ k T (a.take lo ++ b.take n ++ a.drop (lo + min n b.length))).cs.length = a.length := by simp [rw_, cs_w] <;> omega
    rw [e1, htk]
    exact wv_repL _ k _)
  unfold Oper.wp
  have hrun' : (execOp A.eval o).run P w = .ok (.value (goInt ((min n b.length : Nat) : Int))) (w.setRow X.g us'.toArray) := by
    simp [execOp, ho, resolve, invoke, builtin, hX, hY, hrun]
  rw [hrun']
  exact ⟨_, _, hI.put (d := o.dst) (p := .val (.int .i64 (min n b.length : Nat))) (by simpa [St.fits, hd] using hdn) (.val _), by simpa [St.put, hd] using h _ rfl, fun h => by cases h⟩
theorem Inv.asWs {c : Cx} {a : Act} {w : World} {l : List Int} {k : IntKind} (hi : Inv F c ⟨N, upd t d (.sl 1 (l.map (wv k))), bx, ob⟩ a w) : Inv F c ⟨N, upd t d (ws k l), bx, ob⟩ a w := by
  refine ⟨hi.W, hi.nd, hi.sz, fun y => ?_, hi.kp, hi.rho, hi.new, hi.obp, hi.obB, hi.bbB⟩
  have h1 := hi.tm y
  by_cases hy : y = d
  · subst hy
    simp only [upd_same] at h1 ⊢
    exact rep_ws.2 h1
  · simp only [upd_ne _ _ _ hy] at h1 ⊢
    exact h1
theorem Does.litW {ty e : TypeId} {n : Nat} {parts : List (Nat × Operand)} {zs : List PV} {k : IntKind} {l : List Int} (ho : o.op = .buildSlice ty n parts.toArray) (ht : elT P ty = some (e, 1)) (hz : zeroT P e = some zs) (hzl : zs.length = 1) (hle : Nat.ble (n * 1) 16777216 = true)
    (hv : (parts.map fun x => (x.1, pev ⟨N, t, bx, ob⟩ x.2)).all (fun x => okv x.2) = true) (hf : pfill (fun i => some (i * 1, 1)) (zrow zs (n * 1)) (parts.map fun x => (x.1, pev ⟨N, t, bx, ob⟩ x.2)) = some (l.map (wv k))) (hl : l.length = n)
    (hd : o.dst = some d) (hdn : Nat.blt d N = true) (h : K ⟨N, upd t d (ws k l), bx, ob⟩) : Does P F o true ⟨N, t, bx, ob⟩ K := by
  have h0 := Does.lit (P := P) (F := F) (s := ⟨N, t, bx, ob⟩) (K := fun s => s = ⟨N, upd t d (.sl 1 (l.map (wv k))), bx, ob⟩) ho ht Nat.one_pos hz hzl (Nat.le_of_ble_eq_true hle) (fun i v hmem => by
    have := List.all_eq_true.1 hv _ hmem
    cases v <;> first | rfl | simp [okv] at this) hf (by
    have : ∀ l : List Int, noHL (l.map (wv k)) = true := fun l => by
      induction l with
      | nil => rfl
      | cons x l ih => simp [noHL, noH, wv, ih]
    exact this l) (by simp [hl]) (by simpa [St.fits, hd] using hdn) (by simp [St.put, hd])
  intro Q c a w hi
  refine Oper.wp_mono ?_ (h0 Q c a w hi)
  rintro a' w' ⟨c', s', h1, rfl, h2⟩
  exact ⟨c', _, h1.asWs, h, h2⟩
end
inductive TK where
  | int (k : IntKind)
  | bool
  | flt (k : FloatKind)
  | slice (e : TypeId) (z : Nat)
  | arr (n : Nat) (e : TypeId) (z : Nat)
  | str (fs : List (TypeId × Nat × Nat))
  | oth
structure TI where
  t : TypeId
  k : TK
  sz : Nat
  byt : Nat
  zero : List PV
def TK.agg : TK → Bool
  | .arr _ _ _ => true
  | .str _ => true
  | _ => false
def strT (P : Program) (t : TypeId) : Option (List (TypeId × Nat × Nat)) := match P.underlying t with
  | some (.struct fs) => fs.toList.mapM fun (f : Field) => (P.info? f.type).map fun i => (f.type, f.offset, i.size)
  | _ => none
def undT (P : Program) (t : TypeId) : Bool := (P.underlying t).isSome
def TK.ok (P : Program) (t : TypeId) : TK → Prop
  | .int k => P.underlying t = some (.int k)
  | .bool => P.underlying t = some .bool
  | .flt k => P.underlying t = some (.float k)
  | .slice e z => elT P t = some (e, z)
  | .arr n e z => arT P t = some (n, e, z)
  | .str fs => strT P t = some fs
  | .oth => undT P t = true
structure TI.ok (P : Program) (i : TI) : Prop where
  sz : szT P i.t = some i.sz
  byt : byT P i.t = some i.byt
  zero : zeroT P i.t = some i.zero
  agg : aggT P i.t = some i.k.agg
  k : i.k.ok P i.t
def tlook : List TI → TypeId → Option TI
  | [], _ => none
  | i :: l, t => match Nat.beq i.t t with
    | true => some i
    | false => tlook l t
def TOk (P : Program) : List TI → Prop
  | [] => True
  | i :: l => i.ok P ∧ TOk P l
theorem tlook_ok {P : Program} : ∀ {l : List TI} {t : TypeId} {i : TI}, TOk P l → tlook l t = some i → i.ok P ∧ i.t = t
  | [], _, _, _, h => by simp [tlook] at h
  | j :: l, t, i, hk, h => by
    simp only [tlook] at h
    split at h
    · rename_i hb; cases h; exact ⟨hk.1, Nat.eq_of_beq_eq_true hb⟩
    · exact tlook_ok hk.2 h
theorem strT_ok {P : Program} {t : TypeId} {fs : List (TypeId × Nat × Nat)} (h : strT P t = some fs) {i : Nat} {ty off z : Nat} (hi : fs[i]? = some (ty, off, z)) :
    fldP P t i = some (ty, off) ∧ szT P ty = some z ∧ (z ≠ 0 → fldT P t i = some off) := by
  unfold strT at h
  split at h
  · rename_i a hu
    have key : ∀ (l : List Field) (fs : List (TypeId × Nat × Nat)), l.mapM (fun (f : Field) => (P.info? f.type).map fun i => (f.type, f.offset, i.size)) = some fs → ∀ (i : Nat), fs[i]? = some (ty, off, z) → ∃ (f : Field) (j : TypeInfo), l[i]? = some f ∧ f.type = ty ∧ f.offset = off ∧ P.info? f.type = some j ∧ j.size = z := by
      intro l
      induction l with
      | nil => intro fs h i hi; simp at h; subst h; simp at hi
      | cons f l ih =>
        intro fs h i hi
        rw [List.mapM_cons] at h
        cases hf : P.info? f.type with
        | none => simp [hf] at h
        | some j =>
          cases hl : l.mapM (fun (f : Field) => (P.info? f.type).map fun i => (f.type, f.offset, i.size)) with
          | none => simp [hf, hl] at h
          | some l' =>
            simp [hf, hl] at h
            subst h
            cases i with
            | zero =>
              simp at hi
              exact ⟨f, j, rfl, hi.1, hi.2.1, hf, hi.2.2⟩
            | succ i => simpa using ih l' hl i (by simpa using hi)
    obtain ⟨f, j, h1, h2, h3, h4, h5⟩ := key _ _ h i hi
    have h1' : a[i]? = some f := by simpa using h1
    subst h2 h3
    refine ⟨by simp [fldP, hu, h1'], by simp [szT, h4, h5], fun hz => ?_⟩
    subst h5
    simp [fldT, hu, h1', h4, hz]
  · cases h
theorem strT_bld {P : Program} {t : TypeId} {fs : List (TypeId × Nat × Nat)} {zs : List PV} (h : strT P t = some fs) (hz : zeroT P t = some zs) : bldT P t = some (zs, fs.map fun f => (f.2.1, f.2.2)) := by
  unfold strT at h
  split at h
  · rename_i a hu
    have key : ∀ (l : List Field) (fs : List (TypeId × Nat × Nat)), l.mapM (fun (f : Field) => (P.info? f.type).map fun i => (f.type, f.offset, i.size)) = some fs → l.mapM (fun (f : Field) => (P.info? f.type).map fun i => (f.offset, i.size)) = some (fs.map fun f => (f.2.1, f.2.2)) := by
      intro l
      induction l with
      | nil => intro fs h; simp at h; subst h; rfl
      | cons f l ih =>
        intro fs h
        rw [List.mapM_cons] at h ⊢
        cases hf : P.info? f.type with
        | none => simp [hf] at h
        | some j =>
          cases hl : l.mapM (fun (f : Field) => (P.info? f.type).map fun i => (f.type, f.offset, i.size)) with
          | none => simp [hf, hl] at h
          | some l' =>
            simp [hf, hl] at h
            subst h
            simp [hf, ih l' hl]
    simp only [bldT, hz, hu, key _ _ h, Option.map_some]
  · cases h
theorem arT_bld {P : Program} {t e : TypeId} {n z : Nat} {zs : List PV} (h : arT P t = some (n, e, z)) (hz : zeroT P t = some zs) : bldT P t = some (zs, (List.range n).map fun i => (i * z, z)) := by
  obtain ⟨hu, hs⟩ := arT_ok h
  simp only [bldT, hz, hu, hs, Option.map_some]
def lget {α : Type} : List α → Nat → Option α
  | [], _ => none
  | x :: _, 0 => some x
  | _ :: l, n + 1 => lget l n
theorem lget_eq {α : Type} : ∀ (l : List α) (n : Nat), lget l n = l[n]?
  | [], n => by simp [lget]
  | x :: _, 0 => rfl
  | _ :: l, n + 1 => by simpa [lget] using lget_eq l n
def fo (p : PV) (k : PV → Prop) : Prop := match p with
  | .val v => k (.val v)
  | .nil => k .nil
  | .ws a b => k (.ws a b)
  | .sl a b => k (.sl a b)
  | .fs a b c => k (.fs a b c)
  | .agg l => k (.agg l)
  | .tup l => k (.tup l)
  | .ptr a b => k (.ptr a b)
  | .cel l => k (.cel l)
  | .cw a b c => k (.cw a b c)
  | .cf a b c => k (.cf a b c)
  | .arr a b c => k (.arr a b c)
  | .ead a b => k (.ead a b)
  | .emp => k .emp
  | .any => k .any
theorem fo_eq {p : PV} {k : PV → Prop} (h : fo p k) : k p := by cases p <;> exact h
def foL (l : List PV) (k : List PV → Prop) : Prop := match l with
  | [] => k []
  | p :: l => fo p fun p => foL l fun l => k (p :: l)
theorem foL_eq : ∀ {l : List PV} {k : List PV → Prop}, foL l k → k l
  | [], _, h => (by simpa [foL] using h)
  | p :: l, k, h => foL_eq (l := l) (k := fun l => k (p :: l)) (fo_eq (by simpa only [foL] using h))
def takeG (n : Nat) (l : List PV) (k : List PV → Prop) : Prop := match n with
  | 0 => k []
  | n + 1 => match l with
    | [] => False
    | p :: l => fo p fun p => takeG n l fun l => k (p :: l)
theorem takeG_eq : ∀ {n : Nat} {l : List PV} {k : List PV → Prop}, takeG n l k → n ≤ l.length ∧ k (l.take n)
  | 0, l, k, h => ⟨Nat.zero_le _, by simpa [takeG] using h⟩
  | n + 1, [], k, h => (by simp [takeG] at h)
  | n + 1, p :: l, k, h => by
    simp only [takeG] at h
    obtain ⟨h1, h2⟩ := takeG_eq (n := n) (l := l) (k := fun l => k (p :: l)) (fo_eq h)
    exact ⟨by simpa using h1, by simpa using h2⟩
def setG {α : Type} (l : List α) (n : Nat) (p : α) (k : List α → Prop) : Prop := match l with
  | [] => False
  | q :: l => match n with
    | 0 => k (p :: l)
    | n + 1 => setG l n p fun l => k (q :: l)
theorem setG_eq {α : Type} : ∀ {l : List α} {n : Nat} {p : α} {k : List α → Prop}, setG l n p k → n < l.length ∧ k (l.set n p)
  | [], n, p, k, h => (by simp [setG] at h)
  | q :: l, 0, p, k, h => ⟨by simp, (by simpa [setG] using h)⟩
  | q :: l, n + 1, p, k, h => by
    simp only [setG] at h
    obtain ⟨h1, h2⟩ := setG_eq (l := l) (n := n) (k := fun l => k (q :: l)) h
    exact ⟨by simpa using h1, h2⟩
def overH (l m : List PV) (k : List PV → Prop) : Prop := match m with
  | [] => k l
  | p :: m => match l with
    | [] => False
    | _ :: l => overH l m fun l => k (p :: l)
def overG (l : List PV) (n : Nat) (m : List PV) (k : List PV → Prop) : Prop := match n with
  | 0 => overH l m k
  | n + 1 => match l with
    | [] => False
    | q :: l => overG l n m fun l => k (q :: l)
theorem overH_eq : ∀ {m l : List PV} {k : List PV → Prop}, overH l m k → m.length ≤ l.length ∧ k (m ++ l.drop m.length)
  | [], l, k, h => ⟨by simp, by simpa [overH] using h⟩
  | p :: m, [], k, h => (by simp [overH] at h)
  | p :: m, _ :: l, k, h => by
    simp only [overH] at h
    obtain ⟨h1, h2⟩ := overH_eq (m := m) (l := l) (k := fun l => k (p :: l)) h
    exact ⟨by simpa using h1, by simpa using h2⟩
theorem overG_eq : ∀ {n : Nat} {l m : List PV} {k : List PV → Prop}, overG l n m k → n + m.length ≤ l.length ∧ k (over l n m)
  | 0, l, m, k, h => by
    simp only [overG] at h
    obtain ⟨h1, h2⟩ := overH_eq h
    exact ⟨by simpa using h1, by simpa [over] using h2⟩
  | n + 1, [], m, k, h => (by simp [overG] at h)
  | n + 1, q :: l, m, k, h => by
    simp only [overG] at h
    obtain ⟨h1, h2⟩ := overG_eq (n := n) (l := l) (m := m) (k := fun l => k (q :: l)) h
    refine ⟨by simp; omega, ?_⟩
    have : over (q :: l) (n + 1) m = q :: over l n m := by simp [over, Nat.add_right_comm n 1 m.length]
    rw [this]; exact h2
def snocG {α : Type} (l : List α) (p : α) (k : List α → Prop) : Prop := match l with
  | [] => k [p]
  | q :: l => snocG l p fun l => k (q :: l)
theorem snocG_eq {α : Type} : ∀ {l : List α} {p : α} {k : List α → Prop}, snocG l p k → k (l ++ [p])
  | [], _, _, h => (by simpa [snocG] using h)
  | q :: l, p, k, h => snocG_eq (l := l) (k := fun l => k (q :: l)) (by simpa only [snocG] using h)
def lits : List Nat := [0, 1, 2, 3, 4, 5, 6, 7, 8, 9, 10, 11, 12, 13, 14, 15, 16, 17, 18, 19, 20, 21, 22, 23, 24, 25, 26, 27, 28, 29, 30, 31, 32, 33, 34, 35, 36, 37, 38, 39, 40, 41, 42, 43, 44, 45, 46, 47, 48]
def lenH {α : Type} (l : List α) (ds : List Nat) (k : Nat → Prop) : Prop := match ds with
  | [] => False
  | d :: ds => match l with
    | [] => k d
    | _ :: l => lenH l ds k
theorem lenH_eq {α : Type} : ∀ {l : List α} {ds : List Nat} {j : Nat} {k : Nat → Prop}, (∀ i d, ds[i]? = some d → d = j + i) → lenH l ds k → k (j + l.length)
  | l, [], j, k, _, h => by cases l <;> simp [lenH] at h
  | [], d :: ds, j, k, hd, h => by
    simp only [lenH] at h
    have := hd 0 d rfl
    subst this; exact h
  | _ :: l, d :: ds, j, k, hd, h => by
    simp only [lenH] at h
    have := lenH_eq (l := l) (ds := ds) (j := j + 1) (k := k) (fun i d hi => by have := hd (i + 1) d (by simpa using hi); omega) h
    simpa [Nat.add_assoc, Nat.add_comm 1] using this
def lenG {α : Type} (l : List α) (k : Nat → Prop) : Prop := lenH l lits k
theorem lits_ok : ∀ i d, lits[i]? = some d → d = 0 + i := by
  intro i d h
  have hl : lits = List.range 49 := by decide
  rw [hl] at h
  have hi := (List.getElem?_eq_some_iff.1 h).1
  simp at hi
  rw [List.getElem?_range hi] at h
  cases h; omega
theorem lenG_eq {α : Type} {l : List α} {k : Nat → Prop} (h : lenG l k) : k l.length := by simpa using lenH_eq lits_ok h
def ikEq : IntKind → IntKind → Bool
  | .i8, .i8 => true
  | .i16, .i16 => true
  | .i32, .i32 => true
  | .i64, .i64 => true
  | .u8, .u8 => true
  | .u16, .u16 => true
  | .u32, .u32 => true
  | .u64, .u64 => true
  | _, _ => false
theorem ikEq_ok {a b : IntKind} (h : ikEq a b = true) : a = b := by cases a <;> cases b <;> first | rfl | cases h
def fkEq : FloatKind → FloatKind → Bool
  | .f32, .f32 => true
  | .f64, .f64 => true
  | _, _ => false
theorem fkEq_ok {a b : FloatKind} (h : fkEq a b = true) : a = b := by cases a <;> cases b <;> first | rfl | cases h
structure Cond (c : Prop) : Prop where
  h : c
structure Chk (c K : Prop) : Prop where
  c : Cond c
  k : K
structure WrapG (k : IntKind) (n : Int) (K : Int → Prop) : Prop where
  h : K (k.wrap n)
structure DivG (k : IntKind) (a b : Int) (K : Int → Prop) : Prop where
  b0 : b ≠ 0
  h : K (k.wrap (a.tdiv b))
structure ModG (a b : Int) (K : Int → Prop) : Prop where
  b0 : b ≠ 0
  h : K (a.tmod b)
structure ShlG (k : IntKind) (a b : Int) (K : Int → Prop) : Prop where
  b0 : 0 ≤ b
  h : K (k.wrap (a * 2 ^ min b.toNat k.bits))
structure ShrG (k : IntKind) (a b : Int) (K : Int → Prop) : Prop where
  b0 : 0 ≤ b
  h : K (a.fdiv (2 ^ min b.toNat k.bits))
def bitI (op : BinOp) (k : IntKind) (a b : Int) : Int := match op with
  | .and => k.wrap (BitVec.ofInt k.bits a &&& BitVec.ofInt k.bits b).toNat
  | .or => k.wrap (BitVec.ofInt k.bits a ||| BitVec.ofInt k.bits b).toNat
  | .xor => k.wrap (BitVec.ofInt k.bits a ^^^ BitVec.ofInt k.bits b).toNat
  | .andNot => k.wrap (BitVec.ofInt k.bits a &&& ~~~BitVec.ofInt k.bits b).toNat
  | _ => 0
structure BitG (op : BinOp) (k : IntKind) (a b : Int) (K : Int → Prop) : Prop where
  h : K (bitI op k a b)
structure FltG (op : BinOp) (k : FloatKind) (a b : Nat) (K : Value → Prop) : Prop where
  h : ∃ v, fbin op k a b = some v ∧ K v
structure I2fG (k : FloatKind) (n : Int) (K : Nat → Prop) : Prop where
  h : K (k.nearest n)
structure F2iG (f : FloatKind) (k : IntKind) (b : Nat) (K : Int → Prop) : Prop where
  h : ∃ n, (f.decode b).toInt .zero = some n ∧ (k.min ≤ n ∧ n ≤ k.max) ∧ K n
structure FnegG (k : FloatKind) (b : Nat) (K : Nat → Prop) : Prop where
  h : K (Op.negFloat k b)
structure ForkG (b : Bool) (A B : Prop) : Prop where
  t : b = true → A
  f : b = false → B
structure IdxG (i n : Int) (K : Int → Prop) : Prop where
  c : 0 ≤ i ∧ i < n
  h : K i
structure IdxL (i : Int) (n : Nat) (K : Nat → Prop) : Prop where
  c : 0 ≤ i ∧ i < n
  h : K i.toNat
structure SlcG (l h m n : Int) (K : Prop) : Prop where
  c : 0 ≤ l ∧ l ≤ h ∧ h ≤ n ∧ m = h
  h : K
structure TabG (F : Fr) (g n : Nat) (i : Int) (K : PV → Prop) : Prop where
  h : ∃ k a, (g, a.map (Value.int k)) ∈ F.G ∧ a.length = n ∧ (0 ≤ i ∧ i < n) ∧ K (.cw k a i)
structure CallG (P : Program) (F : Fr) (e : Bool) (f : FuncId) (args : List PV) (s : St) (K : St → PV → Prop) : Prop where
  h : ∀ c a w (vs : List Value), Inv F c s a w → RepL c args vs → Calls P f vs.toArray w fun en w' => ∃ v r c' s', en = .returned v ∧ s'.n = s.n ∧ Inv F c' s' a w' ∧ Rep c' r v ∧ K s' r ∧ (e = true → Ext w w')
structure ExtG (P : Program) (f : FuncId) (vs : List Value) (K : PV → Prop) : Prop where
  h : ∃ r, ExtOk P f vs r ∧ K r
structure RawG (A : Prop) : Prop where
  h : A
structure Stuck (A : Prop) : Prop where
  h : A
theorem Chk.mk' {c K : Prop} (h : c) (k : K) : Chk c K := ⟨⟨h⟩, k⟩
section
variable {k : IntKind} {a b n : Int} {K : Int → Prop}
theorem wrap_g (h : inR k n) (x : K n) : WrapG k n K := ⟨by rw [wrap_in h]; exact x⟩
theorem wrap_r (x : K (k.wrap n)) : WrapG k n K := ⟨x⟩
theorem wrap_e {m : Int} (h : k.wrap n = m) (x : K m) : WrapG k n K := ⟨by rw [h]; exact x⟩
theorem inR_div {k : IntKind} {a b : Int} (h : inR k a) (h0 : 0 ≤ a) (hb : 0 < b) : inR k (a / b) := by
  have h1 := Int.ediv_nonneg h0 (Int.le_of_lt hb)
  have h2 := Int.ediv_le_self b h0
  cases k <;> simp only [inR] at h ⊢ <;> omega
theorem div_g (h : 0 ≤ a) (hb : 0 < b) (hr : inR k a) (x : K (a / b)) : DivG k a b K := ⟨by omega, by rw [Int.tdiv_eq_ediv_of_nonneg h, wrap_in (inR_div hr h hb)]; exact x⟩
theorem mod_g (h : 0 ≤ a) (hb : 0 < b) (x : K (a % b)) : ModG a b K := ⟨by omega, by rw [Int.tmod_eq_emod_of_nonneg h]; exact x⟩
theorem idx_g {i : Int} (c : 0 ≤ i ∧ i < n) (h : K i) : IdxG i n K := ⟨c, h⟩
theorem idx_l {i : Int} {n : Nat} {K : Nat → Prop} (m : Nat) (e : i = (m : Int)) (c : m < n) (h : K m) : IdxL i n K := ⟨by omega, by subst e; simpa using h⟩
theorem fork_d {p : Prop} [Decidable p] {A B : Prop} (t : p → A) (f : ¬ p → B) : ForkG (decide p) A B := ⟨fun h => t (of_decide_eq_true h), fun h => f (of_decide_eq_false h)⟩
theorem fork_t {p : Prop} [Decidable p] {A B : Prop} (h : p) (t : A) : ForkG (decide p) A B := ⟨fun _ => t, fun e => absurd h (of_decide_eq_false e)⟩
theorem fork_f {p : Prop} [Decidable p] {A B : Prop} (h : ¬ p) (f : B) : ForkG (decide p) A B := ⟨fun e => absurd (of_decide_eq_true e) h, fun _ => f⟩
theorem fork_tt {A B : Prop} (t : A) : ForkG true A B := ⟨fun _ => t, fun e => by cases e⟩
theorem fork_ff {A B : Prop} (f : B) : ForkG false A B := ⟨fun e => (by cases e), fun _ => f⟩
theorem fork_n {b : Bool} {A B : Prop} (h : ForkG b B A) : ForkG (!b) A B := ⟨fun e => h.f (by simpa using e), fun e => h.t (by simpa using e)⟩
theorem fork_b {b : Bool} {A B : Prop} (t : b = true → A) (f : b = false → B) : ForkG b A B := ⟨t, f⟩
theorem fork_e {b c : Bool} {A B : Prop} (e : b = c) (h : ForkG c A B) : ForkG b A B := e ▸ h
theorem mask_g {b m : Int} (j : Nat) (hm : (2 : Int) ^ j = m) (e : b = m - 1) (hj : j ≤ 64) (h : 0 ≤ a ∧ a < 18446744073709551616) (x : K (a % m)) : BitG .and .u64 a b K := by
  subst hm
  subst e
  refine ⟨?_⟩
  have e2 : bitI .and .u64 a (2 ^ j - 1) = a % 2 ^ j := by
    obtain ⟨n, rfl⟩ : ∃ n : Nat, a = n := ⟨a.toNat, by omega⟩
    have hpos : 0 < 2 ^ j := Nat.pow_pos (by decide)
    have hp : (2 : Int) ^ j - 1 = ((2 ^ j - 1 : Nat) : Int) := by
      rw [Int.natCast_sub hpos]; simp
    have hle : 2 ^ j ≤ 2 ^ 64 := Nat.pow_le_pow_right (by decide) hj
    have e0 : bitI .and .u64 (n : Int) (2 ^ j - 1) = IntKind.u64.wrap (BitVec.ofInt 64 n &&& BitVec.ofInt 64 (2 ^ j - 1)).toNat := rfl
    rw [e0, hp, BitVec.toNat_and, BitVec.ofInt_natCast, BitVec.ofInt_natCast, BitVec.toNat_ofNat, BitVec.toNat_ofNat, Nat.mod_eq_of_lt (a := n) (by omega), Nat.mod_eq_of_lt (a := 2 ^ j - 1) (by omega), Nat.and_two_pow_sub_one_eq_mod]
    have hlt : n % 2 ^ j < 2 ^ j := Nat.mod_lt _ hpos
    rw [wrap_in (by simp only [inR]; omega)]
    simp
  rw [e2]; exact x
theorem mask32_g {b m : Int} (j : Nat) (hm : (2 : Int) ^ j = m) (e : b = m - 1) (hj : j ≤ 32) (h : 0 ≤ a ∧ a < 4294967296) (x : K (a % m)) : BitG .and .u32 a b K := by
  subst hm
  subst e
  refine ⟨?_⟩
  have e2 : bitI .and .u32 a (2 ^ j - 1) = a % 2 ^ j := by
    obtain ⟨n, rfl⟩ : ∃ n : Nat, a = n := ⟨a.toNat, by omega⟩
    have hpos : 0 < 2 ^ j := Nat.pow_pos (by decide)
    have hp : (2 : Int) ^ j - 1 = ((2 ^ j - 1 : Nat) : Int) := by
      rw [Int.natCast_sub hpos]; simp
    have hle : 2 ^ j ≤ 2 ^ 32 := Nat.pow_le_pow_right (by decide) hj
    have e0 : bitI .and .u32 (n : Int) (2 ^ j - 1) = IntKind.u32.wrap (BitVec.ofInt 32 n &&& BitVec.ofInt 32 (2 ^ j - 1)).toNat := rfl
    rw [e0, hp, BitVec.toNat_and, BitVec.ofInt_natCast, BitVec.ofInt_natCast, BitVec.toNat_ofNat, BitVec.toNat_ofNat, Nat.mod_eq_of_lt (a := n) (by omega), Nat.mod_eq_of_lt (a := 2 ^ j - 1) (by omega), Nat.and_two_pow_sub_one_eq_mod]
    have hlt : n % 2 ^ j < 2 ^ j := Nat.mod_lt _ hpos
    rw [wrap_in (by simp only [inR]; omega)]
    simp
  rw [e2]; exact x
theorem shl1_g {k : IntKind} (hk : k = .u32 ∨ k = .u64) (hb : 0 ≤ b ∧ b < k.bits) (x : K (2 ^ b.toNat)) : ShlG k 1 b K := by
  refine ⟨hb.1, ?_⟩
  have h1 : min b.toNat k.bits = b.toNat := by omega
  have h2 : (2 : Nat) ^ b.toNat < 2 ^ k.bits := Nat.pow_lt_pow_right (by decide) (by omega)
  have h3 : ((2 : Int) ^ b.toNat) = ((2 ^ b.toNat : Nat) : Int) := by simp
  have h4 : inR k (2 ^ b.toNat) := by
    rw [h3]
    obtain ⟨m, hm⟩ : ∃ m : Nat, m = 2 ^ b.toNat := ⟨_, rfl⟩
    rw [← hm] at h2 ⊢
    rcases hk with rfl | rfl
    · have : m < 4294967296 := h2
      simp only [inR]; omega
    · have : m < 18446744073709551616 := h2
      simp only [inR]; omega
  rw [h1, Int.one_mul, wrap_in h4]; exact x
theorem shr_p {k : IntKind} (h : 0 ≤ a) (hb : 0 ≤ b ∧ b ≤ k.bits) (x : K (a / 2 ^ b.toNat)) : ShrG k a b K := by
  refine ⟨hb.1, ?_⟩
  rw [show min b.toNat k.bits = b.toNat by omega, Int.fdiv_eq_ediv_of_nonneg _ (by exact_mod_cast Nat.zero_le _)]
  exact x
theorem shr_g {m : Int} (j : Nat) (e : b = j) (hj : j ≤ k.bits) (h : 0 ≤ a) (hm : (2 : Int) ^ j = m) (x : K (a / m)) : ShrG k a b K := by
  subst e hm
  refine ⟨by omega, ?_⟩
  rw [show min (j : Int).toNat k.bits = j by simp; omega, Int.fdiv_eq_ediv_of_nonneg _ (by exact_mod_cast Nat.zero_le _)]
  exact x
theorem shl_g {m : Int} (j : Nat) (e : b = j) (hj : j ≤ k.bits) (hm : (2 : Int) ^ j = m) (h : inR k (a * m)) (x : K (a * m)) : ShlG k a b K := by
  subst e hm
  refine ⟨by omega, ?_⟩
  rw [show min (j : Int).toNat k.bits = j by simp; omega, wrap_in h]
  exact x
end
inductive Md where
  | S
  | E
  | L
def Md.mem : Md → Bool
  | .S => false
  | _ => true
def Md.wr : Md → Bool
  | .L => true
  | _ => false
def Sem (P : Program) (F : Fr) (m : Md) (o : Oper) (s : St) (K : St → Prop) : Prop := match m with
  | .S => ∃ p, Still P F o s p ∧ s.fits o.dst = true ∧ K (s.put o.dst p)
  | .E => Does P F o true s K
  | .L => Does P F o false s K
section
variable {P : Program} {F : Fr} {TT : List TI} {m : Md} {o : Oper} {s : St} {K : St → Prop} {p q : PV}
theorem Does.weak (h : Does P F o true s K) : Does P F o false s K :=
  fun Q c a w hi => Oper.wp_mono (fun a' w' ⟨c', s', h1, h2, _⟩ => ⟨c', s', h1, h2, fun h => by cases h⟩) (h Q c a w hi)
theorem Sem.still (h : Still P F o s p) (hd : s.fits o.dst = true) (k : K (s.put o.dst p)) : Sem P F m o s K := by
  cases m with
  | S => exact ⟨p, h, hd, k⟩
  | E => exact h.does hd k
  | L => exact (h.does hd k).weak
theorem Sem.does (hm : m.mem = true) (h : Does P F o true s K) : Sem P F m o s K := by
  cases m with
  | S => cases hm
  | E => exact h
  | L => exact h.weak
theorem Sem.wr (hm : m.wr = true) (h : Does P F o false s K) : Sem P F m o s K := by
  cases m with
  | S => cases hm
  | E => cases hm
  | L => exact h
def vPut (d : Option Tmp) (s : St) (p : PV) (K : St → Prop) : Prop := match s with
  | ⟨N, t, bx, ob⟩ => match d with
    | none => K ⟨N, t, bx, ob⟩
    | some d => match Nat.blt d N with
      | true => K ⟨N, upd t d p, bx, ob⟩
      | false => False
theorem vPut_ok {d : Option Tmp} (h : vPut d s p K) : s.fits d = true ∧ K (s.put d p) := by
  unfold vPut at h
  split at h
  rename_i N t bx ob
  cases d with
  | none => exact ⟨rfl, h⟩
  | some d =>
    simp only at h
    split at h
    · rename_i hb; exact ⟨by simpa [St.fits] using hb, by simpa [St.put] using h⟩
    · cases h
theorem vPut_still (h : Still P F o s p) (k : vPut o.dst s p K) : Sem P F m o s K := Sem.still h (vPut_ok k).1 (vPut_ok k).2
def Sv (P : Program) (F : Fr) (o : Oper) (s : St) (k : PV → Prop) : Prop := ∃ p, Still P F o s p ∧ k p
theorem Sv.sem (h : Sv P F o s fun p => vPut o.dst s p K) : Sem P F m o s K := let ⟨_, h1, h2⟩ := h; vPut_still h1 h2
def vBin (isB : Bool) (op : BinOp) (x y : PV) (k : PV → Prop) (raw : Prop) : Prop := match x with
  | .val (.int ka a) => match y with
    | .val (.int kb b) => match op with
      | .shl => ShlG ka a b fun n => k (.val (.int ka n))
      | .shr => ShrG ka a b fun n => k (.val (.int ka n))
      | op => match ikEq ka kb with
        | false => raw
        | true => match op with
          | .add => WrapG ka (a + b) fun n => k (.val (.int ka n))
          | .sub => WrapG ka (a - b) fun n => k (.val (.int ka n))
          | .mul => WrapG ka (a * b) fun n => k (.val (.int ka n))
          | .quo => DivG ka a b fun n => k (.val (.int ka n))
          | .rem => ModG a b fun n => k (.val (.int ka n))
          | .and => BitG .and ka a b fun n => k (.val (.int ka n))
          | .or => BitG .or ka a b fun n => k (.val (.int ka n))
          | .xor => BitG .xor ka a b fun n => k (.val (.int ka n))
          | .andNot => BitG .andNot ka a b fun n => k (.val (.int ka n))
          | .eql => k (.val (.bool (decide (a = b))))
          | .neq => k (.val (.bool (decide (a ≠ b))))
          | .lss => k (.val (.bool (decide (a < b))))
          | .leq => k (.val (.bool (decide (a ≤ b))))
          | .gtr => k (.val (.bool (decide (b < a))))
          | .geq => k (.val (.bool (decide (b ≤ a))))
          | _ => raw
    | _ => raw
  | .val (.bool a) => match y with
    | .val (.bool b) => match isB with
      | true => match op with
        | .eql => k (.val (.bool (a == b)))
        | .neq => k (.val (.bool (a != b)))
        | _ => raw
      | false => raw
    | _ => raw
  | .val (.float ka a) => match y with
    | .val (.float kb b) => match fkEq ka kb with
      | true => FltG op ka a b fun v => k (.val v)
      | false => raw
    | _ => raw
  | _ => raw
theorem vBin_ok {op : BinOp} {t t' : TypeId} {x y : Operand} {isB : Bool} {k : PV → Prop} {raw : Prop} (ho : o.op = .binOp op t x y t') (hB : isB = true → P.underlying t = some .bool) (h : vBin isB op (pev s x) (pev s y) k raw) : Sv P F o s k ∨ raw := by
  generalize hX : pev s x = X at h
  generalize hY : pev s y = Y at h
  unfold vBin at h
  split at h
  · rename_i ka a
    split at h
    · rename_i kb b
      split at h
      · exact .inl ⟨_, still_shl ho hX hY h.b0, h.h⟩
      · exact .inl ⟨_, still_shr ho hX hY h.b0, h.h⟩
      · split at h
        · exact .inr h
        · rename_i hk
          have hk := ikEq_ok hk
          subst hk
          have bit : ∀ {v : Value}, pbin op ka a b = some v → k (.val v) → Sv P F o s k ∨ raw := fun hv hk => .inl ⟨_, still_bin ho hX hY hv, hk⟩
          split at h
          · exact bit rfl h.h
          · exact bit rfl h.h
          · exact bit rfl h.h
          · exact .inl ⟨_, still_quo ho hX hY h.b0, h.h⟩
          · exact .inl ⟨_, still_rem ho hX hY h.b0, h.h⟩
          · exact bit rfl h.h
          · exact bit rfl h.h
          · exact bit rfl h.h
          · exact bit rfl h.h
          · exact bit rfl h
          · exact bit rfl h
          · exact bit rfl h
          · exact bit rfl h
          · exact bit rfl h
          · exact bit rfl h
          · exact .inr h
    · exact .inr h
  · rename_i a
    split at h
    · rename_i b
      split at h
      · split at h
        · exact .inl ⟨_, still_eqb ho hX hY (hB rfl), h⟩
        · exact .inl ⟨_, still_neb ho hX hY (hB rfl), h⟩
        · exact .inr h
      · exact .inr h
    · exact .inr h
  · rename_i ka a
    split at h
    · rename_i kb b
      split at h
      · rename_i hk
        have hk := fkEq_ok hk
        subst hk
        obtain ⟨v, hv, hk⟩ := h.h
        exact .inl ⟨_, still_fbin ho hX hY hv, hk⟩
      · exact .inr h
    · exact .inr h
  · exact .inr h
def vUn (op : UnOp) (x : PV) (k : PV → Prop) (raw : Prop) : Prop := match op with
  | .not => match x with
    | .val (.bool b) => k (.val (.bool (!b)))
    | _ => raw
  | .neg => match x with
    | .val (.int kk n) => WrapG kk (0 - n) fun n => k (.val (.int kk n))
    | .val (.float kk b) => FnegG kk b fun b => k (.val (.float kk b))
    | _ => raw
  | _ => raw
theorem vUn_ok {op : UnOp} {t : TypeId} {x : Operand} {k : PV → Prop} {raw : Prop} (ho : o.op = .unOp op t x) (h : vUn op (pev s x) k raw) : Sv P F o s k ∨ raw := by
  generalize hX : pev s x = X at h
  unfold vUn at h
  split at h
  · split at h
    · exact .inl ⟨_, still_not ho hX, h⟩
    · exact .inr h
  · split at h
    · exact .inl ⟨_, still_neg ho hX, h.h⟩
    · exact .inl ⟨_, still_fneg ho hX, h.h⟩
    · exact .inr h
  · exact .inr h
def vCon (a b : TI) (x : PV) (k : PV → Prop) (raw : Prop) : Prop := match x with
  | .val (.int _ n) => match b.k with
    | .int kk => WrapG kk n fun n => k (.val (.int kk n))
    | .flt kk => I2fG kk n fun n => k (.val (.float kk n))
    | _ => raw
  | .val (.float kf n) => match b.k with
    | .int kk => F2iG kf kk n fun n => k (.val (.int kk n))
    | .flt kk => match fkEq kf kk with
      | true => k (.val (.float kf n))
      | false => raw
    | _ => raw
  | _ => raw
theorem TI.und {i : TI} (h : i.ok P) : ∃ d, P.underlying i.t = some d := by
  have h2 := h.k
  unfold TK.ok at h2
  split at h2
  · exact ⟨_, h2⟩
  · exact ⟨_, h2⟩
  · exact ⟨_, h2⟩
  · exact ⟨_, (elT_ok h2).1⟩
  · exact ⟨_, (arT_ok h2).1⟩
  · unfold strT at h2
    split at h2
    · rename_i hu; exact ⟨_, hu⟩
    · cases h2
  · unfold undT at h2
    exact Option.isSome_iff_exists.1 h2
theorem vCon_ok {a b : TI} {x : Operand} {k : PV → Prop} {raw : Prop} (ha : a.ok P) (hb : b.ok P) (ho : o.op = .convert a.t b.t x) (h : vCon a b (pev s x) k raw) : Sv P F o s k ∨ raw := by
  obtain ⟨d, hd⟩ := TI.und ha
  have hb2 := hb.k
  generalize hX : pev s x = X at h
  unfold vCon at h
  split at h
  · split at h
    · rename_i hk; rw [hk] at hb2; exact .inl ⟨_, still_conv ho hX hd hb2, h.h⟩
    · rename_i hk; rw [hk] at hb2; exact .inl ⟨_, still_i2f ho hX hd hb2, h.h⟩
    · exact .inr h
  · split at h
    · rename_i hk; rw [hk] at hb2
      obtain ⟨n, h1, h2, h3⟩ := h.h
      exact .inl ⟨_, still_f2i ho hX hd hb2 h1 h2, h3⟩
    · rename_i hk; rw [hk] at hb2
      split at h
      · rename_i he
        have he := fkEq_ok he
        subst he
        exact .inl ⟨_, still_f2f ho hX hd hb2, h⟩
      · exact .inr h
    · exact .inr h
  · exact .inr h
def vCells (ti : TI) (l : List PV) (n : Nat) (k : PV → Prop) : Prop := match ti.k.agg with
  | false => match lget l n with
    | some p => fo p k
    | none => False
  | true => takeG ti.sz (l.drop n) fun l => k (.agg l)
def cfG (f : Nat → PV) (i n : Nat) (k : List PV → Prop) : Prop := match n with
  | 0 => k []
  | n + 1 => fo (f i) fun p => cfG f (i + 1) n fun l => k (p :: l)
theorem cfG_eq : ∀ {n : Nat} {f : Nat → PV} {i : Nat} {k : List PV → Prop}, cfG f i n k → k ((List.range n).map fun j => f (i + j))
  | 0, f, i, k, h => by simpa [cfG] using h
  | n + 1, f, i, k, h => by
    simp only [cfG] at h
    have := cfG_eq (n := n) (f := f) (i := i + 1) (k := fun l => k (f i :: l)) (fo_eq h)
    have e : (List.range (n + 1)).map (fun j => f (i + j)) = f i :: (List.range n).map fun j => f (i + 1 + j) := by
      rw [List.range_succ_eq_map]
      simp [Function.comp_def, Nat.add_assoc, Nat.add_comm 1]
    rw [e]; exact this
def vLoad (ti : TI) (s : St) (p : PV) (k : PV → Prop) : Prop := match p with
  | .ptr b n => match lget s.bx b with
    | some l => vCells ti l n k
    | none => False
  | .cel l => vCells ti l 0 k
  | .cw kk a i => match ti.k.agg with
    | false => k (.val (.int kk (rd a i)))
    | true => False
  | .cf f i n => match Nat.ble ti.sz n with
    | true => match ti.k.agg with
      | false => match Nat.blt 0 n with
        | true => fo (f i) k
        | false => False
      | true => cfG f i ti.sz fun l => k (.agg l)
    | false => False
  | .ead q i => match lget s.ob q with
    | some (some ⟨z, T, c⟩) => match c with
      | .w kk a => match ti.k.agg with
        | false => Chk (i < a.length) (k (.val (.int kk (a.getD i 0))))
        | true => False
      | .g l => vCells ti l i k
    | _ => False
  | _ => False
theorem still_loadF {t : TypeId} {x : Operand} {f : Nat → PV} {i n : Nat} (ho : o.op = .load t x) (hx : pev s x = .cf f i n) (ha : aggT P t = some false) (hn : 0 < n) : Still P F o s (f i) := by
  intro c A w hi
  have hr := pev_rep hi x
  rw [hx] at hr
  generalize hq : A.eval x = z at hr
  cases hr with
  | @cf _ _ _ _ ad us h1 h3 h4 =>
    have hlt : 0 < us.length := by omega
    have hu := List.getElem?_eq_getElem hlt
    have h0 := hi.W.mem _ _ (h4 0 _ hu)
    refine ⟨us[0], by simpa using (h3 0 _ hu).up c.strip_le, fun w' he => ?_⟩
    replace he : Ext w w' := he.resolve_right (by simp [pureO, ho])
    have h5 := he _ _ h0
    simp only [Addr.add, if_pos] at h5
    simp [execOp, ho, hq, Instr.loadAt, Instr.sureAddr, loadVar, run_isAgg ha, run_load, h5]
theorem still_loadFA {t : TypeId} {x : Operand} {f : Nat → PV} {i n z : Nat} (ho : o.op = .load t x) (hx : pev s x = .cf f i n) (ha : aggT P t = some true) (hz : szT P t = some z) (hn : z ≤ n) : Still P F o s (.agg ((List.range z).map fun j => f (i + j))) := by
  intro c A w hi
  have hr := pev_rep hi x
  rw [hx] at hr
  generalize hq : A.eval x = y at hr
  cases hr with
  | @cf _ _ _ _ ad us h1 h3 h4 =>
    have hlen : (us.take z).length = z := by rw [List.length_take]; omega
    refine ⟨.agg (us.take z).toArray, .agg (.of (by simp [hlen]) fun j p u hp hu => ?_), fun w' he => ?_⟩
    · have hj : j < z := by have := (List.getElem?_eq_some_iff.1 hu).1; omega
      rw [List.getElem?_take, if_pos hj] at hu
      rw [List.getElem?_map, List.getElem?_range hj] at hp
      cases hp
      exact (h3 j u hu).up c.strip_le
    · replace he : Ext w w' := he.resolve_right (by simp [pureO, ho])
      have := run_loadCells_list (P := P) w' ad (us.take z) (fun j v hj => he _ _ (hi.W.mem _ _ (h4 j v (by rw [List.getElem?_take] at hj; split at hj; exact hj; cases hj))))
      rw [hlen] at this
      simp [execOp, ho, hq, Instr.loadAt, Instr.sureAddr, loadVar, run_isAgg ha, run_szT hz, this]
theorem vCells_ok {ti : TI} {x : Operand} {l l' : List PV} {n : Nat} {k : PV → Prop} (hT : ti.ok P) (ho : o.op = .load ti.t x) (hx : cells s (pev s x) = some l') (hl : l' = l.drop n) (h : vCells ti l n k) : Sv P F o s k := by
  subst hl
  unfold vCells at h
  split at h
  · rename_i ha
    split at h
    · rename_i p hp
      rw [lget_eq] at hp
      exact ⟨p, still_load1 ho hx (by rw [hT.agg, ha]) (by rw [List.getElem?_drop]; simpa using hp), fo_eq h⟩
    · cases h
  · rename_i ha
    obtain ⟨h1, h2⟩ := takeG_eq h
    exact ⟨_, still_loadA ho hx (by rw [hT.agg, ha]) hT.sz h1, h2⟩
theorem vLoad_ok {ti : TI} {x : Operand} {k : PV → Prop} (hT : ti.ok P) (ho : o.op = .load ti.t x) (h : vLoad ti s (pev s x) k) : Sv P F o s k := by
  generalize hX : pev s x = X at h
  unfold vLoad at h
  split at h
  · split at h
    · rename_i b n _ l hl
      rw [lget_eq] at hl
      exact vCells_ok hT ho (by rw [hX]; simp [cells, hl]) rfl h
    · cases h
  · exact vCells_ok hT ho (by rw [hX]; rfl) rfl h
  · split at h
    · rename_i ha; exact ⟨_, still_loadW ho hX (by rw [hT.agg, ha]), h⟩
    · cases h
  · split at h
    · rename_i hle
      have hle := Nat.le_of_ble_eq_true hle
      split at h
      · rename_i ha
        split at h
        · rename_i hn
          exact ⟨_, still_loadF ho hX (by rw [hT.agg, ha]) (by simpa using hn), fo_eq h⟩
        · cases h
      · rename_i ha
        exact ⟨_, still_loadFA ho hX (by rw [hT.agg, ha]) hT.sz hle, cfG_eq h⟩
    · cases h
  · split at h
    · rename_i q i xx z T c hl
      rw [lget_eq] at hl
      have hc : cells s (pev s x) = some ((Row.mk z T c).cs.drop i) := by rw [hX]; simp [cells, hl]
      cases c with
      | w kk a =>
        simp only at h
        split at h
        · rename_i ha
          have hlt := h.c.h
          refine ⟨_, still_load1 ho hc (by rw [hT.agg, ha]) ?_, h.k⟩
          rw [cs_w, List.getElem?_drop, List.getElem?_map]
          simp [wv, List.getD_eq_getElem?_getD, hlt]
        · cases h
      | g l => exact vCells_ok (l := l) (n := i) hT ho hc rfl h
    · cases h
  · cases h
def vFa (fs : List (TypeId × Nat × Nat)) (i : Nat) (p : PV) (k : PV → Prop) : Prop := match lget fs i with
  | some (_, off, z) => match Nat.beq z 0 with
    | false => match p with
      | .ptr b n => k (.ptr b (n + off))
      | .cel l => k (.cel (l.drop off))
      | .ead q n => k (.ead q (n + off))
      | .cf f n m => match Nat.ble off m with
        | true => k (.cf f (n + off) (m - off))
        | false => False
      | _ => False
    | true => False
  | none => False
theorem run_fa {t : TypeId} {i n : Nat} (hn : fldT P t i = some n) (ad : Addr) (w : World) : (Instr.fieldAt t (.pointer (some ad)) i).run P w = .ok (.pointer (some (ad.add n))) w := by
  unfold fldT at hn
  split at hn
  · rename_i fs hu
    split at hn
    · rename_i f hf
      split at hn
      · rename_i j hj
        split at hn
        · cases hn
        · rename_i h0
          cases hn
          simp [Instr.fieldAt, run_underlying hu, hf, Instr.sureAddr, fieldPlace, sizeOf, typeInfo, hj, h0]
      · cases hn
    · cases hn
  · cases hn
theorem vFa_ok {t : TypeId} {fs : List (TypeId × Nat × Nat)} {x : Operand} {i : Nat} {k : PV → Prop} (hS : strT P t = some fs) (ho : o.op = .fieldAddr t x i) (h : vFa fs i (pev s x) k) : Sv P F o s k := by
  generalize hX : pev s x = X at h
  unfold vFa at h
  split at h
  · rename_i ty off z hl
    rw [lget_eq] at hl
    split at h
    · rename_i hz
      have hf := (strT_ok hS hl).2.2 (fun e => by subst e; simp at hz)
      split at h
      · exact ⟨_, still_fieldAddr ho hf (by rw [hX]; rfl), h⟩
      · exact ⟨_, still_fieldAddr ho hf (by rw [hX]; rfl), h⟩
      · exact ⟨_, still_fieldAddr ho hf (by rw [hX]; rfl), h⟩
      · rename_i f n m
        split at h
        · rename_i hle
          have hle := Nat.le_of_ble_eq_true hle
          refine ⟨_, fun c A w hi => ?_, h⟩
          have hr := pev_rep hi x
          rw [hX] at hr
          generalize hq : A.eval x = y at hr
          cases hr with
          | @cf _ _ _ _ ad us h1 h3 h4 =>
            refine ⟨_, .cf (ad := ad.add off) (us := us.drop off) (by simp [h1]) (fun j u hu => ?_) (fun j u hu => ?_), fun w' _ => by simp [execOp, ho, hq, run_fa hf]⟩
            · rw [List.getElem?_drop] at hu
              have := h3 _ _ hu
              rwa [← Nat.add_assoc] at this
            · rw [List.getElem?_drop] at hu
              rw [add_zero_off]; exact h4 _ _ hu
        · cases h
      · cases h
    · cases h
  · cases h
def vIdx (F : Fr) (ti : TI) (s : St) (p : PV) (i : Int) (k : PV → Prop) : Prop := match ti.k with
  | .slice _ z => match p with
    | .ws kk a => match Nat.beq z 1 with
      | true => IdxG i a.length fun i => k (.cw kk a i)
      | false => False
    | .arr q lo n => match lget s.ob q with
      | some (some ⟨z', _, _⟩) => match Nat.beq z' z with
        | true => IdxG i n fun i => match Nat.beq z 1 with
          | true => k (.ead q (lo + i.toNat))
          | false => k (.ead q ((lo + i.toNat) * z))
        | false => False
      | _ => False
    | .sl sz l => match Nat.beq z sz with
      | true => IdxL i (l.length / sz) fun m => k (.cel (l.drop (m * sz)))
      | false => False
    | .fs sz n f => match Nat.beq z sz with
      | true => IdxG i n fun i => k (.cf f (i.toNat * sz) sz)
      | false => False
    | _ => False
  | .arr n _ z => match p with
    | .ptr b d => IdxL i n fun m => k (.ptr b (d + m * z))
    | .cel l => IdxL i n fun m => k (.cel (l.drop (m * z)))
    | .ead q d => IdxL i n fun m => k (.ead q (d + m * z))
    | .val (.pointer (some ⟨g, 0, none⟩)) => match Nat.beq z 1 with
      | true => TabG F g n i k
      | false => False
    | _ => False
  | _ => False
theorem still_idxF {t e : TypeId} {x y : Operand} {sz n : Nat} {f : Nat → PV} {k : IntKind} {i : Int} (ho : o.op = .indexAddr t x y) (hx : pev s x = .fs sz n f) (hy : pev s y = .val (.int k i)) (ht : elT P t = some (e, sz)) (h : 0 ≤ i ∧ i < n) : Still P F o s (.cf f (i.toNat * sz) sz) := by
  intro c A w hi
  obtain ⟨hu, hz⟩ := elT_ok ht
  have hr := pev_rep hi x
  rw [hx] at hr
  generalize hq : A.eval x = z at hr
  cases hr with
  | @fs _ _ _ cap B _ us h0 h1 h2 h3 h4 =>
    have hfit : i.toNat * sz + sz ≤ us.length := by
      rw [h1]
      have : (i.toNat + 1) * sz ≤ n * sz := Nat.mul_le_mul_right _ (by omega)
      rw [Nat.add_mul] at this
      omega
    obtain ⟨ad, rfl, _⟩ := h4 (i.toNat * sz) _ (List.getElem?_eq_getElem (by omega))
    have hsub : ∀ j u, ((us.drop (i.toNat * sz)).take sz)[j]? = some u → us[i.toNat * sz + j]? = some u := by
      intro j u hj
      rw [List.getElem?_take] at hj
      split at hj
      · rwa [List.getElem?_drop] at hj
      · cases hj
    refine ⟨_, .cf (ad := ad.add (i.toNat * sz)) (us := (us.drop (i.toNat * sz)).take sz) (by simp; omega) (fun j u hj => h3 _ _ (hsub j u hj)) (fun j u hj => ?_), fun w' _ => ?_⟩
    · obtain ⟨ad', e', hρ⟩ := h4 _ _ (hsub j u hj)
      cases e'
      rw [add_zero_off]; exact hρ
    · simp [execOp, ho, hq, pev_val hi hy, Instr.indexAt, asIntOf, run_underlying hu, h.1, h.2, run_szT hz]
theorem still_idxTG {t e : TypeId} {n : Nat} {x y : Operand} {k kk : IntKind} {i : Int} {g : Nat} {a : List Int} (ho : o.op = .indexAddr t x y) (hx : pev s x = .val (.pointer (some ⟨g, 0, none⟩))) (hG : (g, a.map (Value.int k)) ∈ F.G) (hy : pev s y = .val (.int kk i)) (ht : arT P t = some (n, e, 1)) (hn : a.length = n) (h : 0 ≤ i ∧ i < n) : Still P F o s (.cw k a i) := by
  intro c A w hi
  refine ⟨_, .cw (ad := (⟨g, 0, none⟩ : Addr).add (i.toNat * 1)) ⟨h.1, by omega⟩ fun j x hj => ?_, fun w' _ => by simp only [execOp, ho, pev_val hi hx, pev_val hi hy, Sem.run_bind, run_arr ht h, Result.andThen_ok, Sem.run_pure]⟩
  rw [addr_add, addr_add]
  refine hi.rho _ _ (F.hG g _ hG _ _ ?_)
  simp [hj]
theorem vIdx_ok {ti : TI} {x y : Operand} {kk : IntKind} {i : Int} {k : PV → Prop} (hT : ti.ok P) (ho : o.op = .indexAddr ti.t x y) (hy : pev s y = .val (.int kk i)) (h : vIdx F ti s (pev s x) i k) : Sv P F o s k := by
  have hk := hT.k
  generalize hX : pev s x = X at h
  unfold vIdx at h
  split at h
  · rename_i e z hz
    rw [hz] at hk
    split at h
    · split at h
      · rename_i hb
        obtain rfl := Nat.eq_of_beq_eq_true hb
        exact ⟨_, still_idxW ho hX hy hk h.c, h.h⟩
      · cases h
    · rename_i q lo n
      split at h
      · rename_i z' T cc hl
        rw [lget_eq] at hl
        split at h
        · rename_i hb
          obtain rfl := Nat.eq_of_beq_eq_true hb
          refine ⟨_, still_idxO ho hX hy hk hl rfl h.c.1 h.c.2, ?_⟩
          have h2 := h.h
          split at h2
          · rename_i h1
            have h1 := Nat.eq_of_beq_eq_true h1
            subst h1
            simpa using h2
          · exact h2
        · cases h
      · cases h
    · rename_i sz l
      split at h
      · rename_i hb
        obtain rfl := Nat.eq_of_beq_eq_true hb
        refine ⟨_, still_idx ho hX hy hk h.c.1 ?_, h.h⟩
        have h2 : i.toNat + 1 ≤ l.length / z := by have := h.c; omega
        exact Nat.le_trans (Nat.mul_le_mul_right _ h2) (Nat.div_mul_le_self _ _)
      · cases h
    · rename_i sz n f
      split at h
      · rename_i hb
        obtain rfl := Nat.eq_of_beq_eq_true hb
        exact ⟨_, still_idxF ho hX hy hk h.c, h.h⟩
      · cases h
    · cases h
  · rename_i n e z hz
    rw [hz] at hk
    split at h
    · exact ⟨_, still_idxA ho hy hk h.c (by rw [hX]; rfl), h.h⟩
    · exact ⟨_, still_idxA ho hy hk h.c (by rw [hX]; rfl), h.h⟩
    · exact ⟨_, still_idxA ho hy hk h.c (by rw [hX]; rfl), h.h⟩
    · rename_i g
      split at h
      · rename_i hb
        obtain rfl := Nat.eq_of_beq_eq_true hb
        obtain ⟨k', a, h1, h2, h3, h4⟩ := h.h
        exact ⟨_, still_idxTG ho hX h1 hy hk h2 h3, h4⟩
      · cases h
    · cases h
  · cases h
def vPart (ti : TI) (l : List PV) (off : Nat) (k : PV → Prop) : Prop := match ti.k.agg with
  | false => match lget l off with
    | some p => fo p k
    | none => False
  | true => match Nat.ble (off + ti.sz) l.length with
    | true => takeG ti.sz (l.drop off) fun l => k (.agg l)
    | false => False
theorem vPart_ok {ti : TI} {l : List PV} {off : Nat} {k : PV → Prop} (hT : ti.ok P) (h : vPart ti l off k) : ∃ p, ppart P ti.t l off = some p ∧ k p := by
  unfold vPart at h
  unfold ppart
  rw [hT.agg, hT.sz]
  split at h
  · rename_i ha
    rw [ha]
    split at h
    · rename_i p hp
      rw [lget_eq] at hp
      exact ⟨p, hp, fo_eq h⟩
    · cases h
  · rename_i ha
    rw [ha]
    split at h
    · rename_i hle
      obtain ⟨h1, h2⟩ := takeG_eq h
      exact ⟨_, by simp only [hle], h2⟩
    · cases h
def vField (TT : List TI) (fs : List (TypeId × Nat × Nat)) (i : Nat) (p : PV) (k : PV → Prop) : Prop := match p with
  | .agg l => match lget fs i with
    | some (ty, off, _) => match tlook TT ty with
      | some ti => vPart ti l off k
      | none => False
    | none => False
  | _ => False
theorem vField_ok {t : TypeId} {fs : List (TypeId × Nat × Nat)} {x : Operand} {i : Nat} {k : PV → Prop} (hTT : TOk P TT) (hS : strT P t = some fs) (ho : o.op = .field t x i) (h : vField TT fs i (pev s x) k) : Sv P F o s k := by
  generalize hX : pev s x = X at h
  unfold vField at h
  split at h
  · split at h
    · rename_i l xx ty off z hl
      rw [lget_eq] at hl
      split at h
      · rename_i ti ht
        obtain ⟨h1, h2⟩ := tlook_ok hTT ht
        obtain ⟨p, hp, hk⟩ := vPart_ok h1 h
        rw [h2] at hp
        exact ⟨_, still_field ho hX (strT_ok hS hl).1 hp, hk⟩
      · cases h
    · cases h
  · cases h
def vIndex (TT : List TI) (ti : TI) (p : PV) (i : Int) (k : PV → Prop) (raw : Prop) : Prop := match ti.k with
  | .arr n e z => match p with
    | .agg l => match tlook TT e with
      | some te => IdxL i n fun m => vPart te l (m * z) k
      | none => False
    | _ => False
  | _ => raw
theorem still_indexA {t e : TypeId} {x y : Operand} {n z : Nat} {l : List PV} {kk : IntKind} {i : Int} (ho : o.op = .index t x y) (hx : pev s x = .agg l) (hy : pev s y = .val (.int kk i)) (ht : arT P t = some (n, e, z)) (hi' : 0 ≤ i ∧ i < n) (h : ppart P e l (i.toNat * z) = some p) : Still P F o s p := by
  intro c A w hi
  obtain ⟨hu, hz⟩ := arT_ok ht
  have hr := pev_rep hi x
  rw [hx] at hr
  generalize hq : A.eval x = y' at hr
  cases hr with
  | agg hl =>
    obtain ⟨v, hv, hrun⟩ := part_ok hl h
    refine ⟨v, hv, fun w' _ => ?_⟩
    simp [execOp, ho, hq, pev_val hi hy, Instr.index, run_underlying hu, asIntOf, hi'.1, hi'.2, asAgg, run_szT hz, hrun]
theorem vIndex_ok {ti : TI} {x y : Operand} {kk : IntKind} {i : Int} {k : PV → Prop} {raw : Prop} (hTT : TOk P TT) (hT : ti.ok P) (ho : o.op = .index ti.t x y) (hy : pev s y = .val (.int kk i)) (h : vIndex TT ti (pev s x) i k raw) : Sv P F o s k ∨ raw := by
  have hk := hT.k
  generalize hX : pev s x = X at h
  unfold vIndex at h
  split at h
  · rename_i n e z hz
    rw [hz] at hk
    split at h
    · split at h
      · rename_i te ht
        obtain ⟨h1, h2⟩ := tlook_ok hTT ht
        obtain ⟨p, hp, hkp⟩ := vPart_ok h1 h.h
        rw [h2] at hp
        exact .inl ⟨_, still_indexA ho hX hy hk h.c hp, hkp⟩
      · cases h
    · cases h
  · exact .inr h
theorem setsP_over : ∀ (m l : List PV) (n : Nat), n + m.length ≤ l.length → setsP l n m = over l n m
  | [], l, n, h => by simp [setsP, over]
  | p :: m, l, n, h => by
    simp only [setsP]
    rw [setsP_over m (l.set n p) (n + 1) (by simp at h ⊢; omega)]
    simp only [over, List.length_cons]
    have hlt : n < l.length := by simp at h; omega
    have e1 : (l.set n p).take (n + 1) = l.take n ++ [p] := by
      rw [List.take_succ_eq_append_getElem (by simpa using hlt), List.take_set, List.set_eq_of_length_le (by simp; omega)]
      simp
    have e2 : (l.set n p).drop (n + 1 + m.length) = l.drop (n + (m.length + 1)) := by
      rw [List.drop_set_of_lt (by omega)]
      congr 1; omega
    rw [e1, e2]; simp
def vFill (place : Nat → Option (Nat × Nat)) (s : St) (cs : List PV) (ps : List (Nat × Operand)) (k : List PV → Prop) : Prop := match ps with
  | [] => k cs
  | (i, x) :: ps => match place i with
    | some (off, z) => fo (pev s x) fun p => match okBox p && okv p && Nat.beq (pcells p).length z with
      | true => overG cs off (pcells p) fun cs => vFill place s cs ps k
      | false => False
    | none => False
theorem vFill_ok {place : Nat → Option (Nat × Nat)} : ∀ {ps : List (Nat × Operand)} {cs : List PV} {k : List PV → Prop}, vFill place s cs ps k →
    ∃ out, pfill place cs (ps.map fun x => (x.1, pev s x.2)) = some out ∧ k out ∧ (ps.map fun x => (x.1, pev s x.2)).all (fun x => okv x.2) = true
  | [], cs, k, h => ⟨cs, rfl, h, rfl⟩
  | (i, x) :: ps, cs, k, h => by
    simp only [vFill] at h
    split at h
    · rename_i off z hp
      have h := fo_eq h
      split at h
      · rename_i hb
        simp only [Bool.and_eq_true] at hb
        obtain ⟨⟨b1, b2⟩, b3⟩ := hb
        obtain ⟨hle, h⟩ := overG_eq h
        obtain ⟨out, h1, h2, h3⟩ := vFill_ok h
        refine ⟨out, ?_, h2, ?_⟩
        · simp only [List.map_cons, pfill, hp]
          rw [setsP_over _ _ _ hle, b1, b3, Nat.ble_eq.mpr hle]
          exact h1
        · simp only [List.map_cons, List.all_cons, b2, h3, Bool.and_self]
      · cases h
    · cases h
def vBuild (ti : TI) (s : St) (ps : List (Nat × Operand)) (k : PV → Prop) : Prop := match ti.k with
  | .str fs => vFill (fun i => match lget fs i with
      | some (_, off, z) => some (off, z)
      | none => none) s ti.zero ps fun l => k (.agg l)
  | .arr n _ z => vFill (fun i => match Nat.blt i n with
      | true => some (i * z, z)
      | false => none) s ti.zero ps fun l => k (.agg l)
  | _ => False
theorem vBuild_ok {ti : TI} {ps : Array (Nat × Operand)} {k : PV → Prop} (hT : ti.ok P) (ho : o.op = .build ti.t ps) (h : vBuild ti s ps.toList k) : Sv P F o s k := by
  have hk := hT.k
  have ho' : o.op = .build ti.t ps.toList.toArray := by simpa using ho
  unfold vBuild at h
  split at h
  · rename_i fs hz
    rw [hz] at hk
    obtain ⟨out, h1, h2, h3⟩ := vFill_ok h
    refine ⟨_, still_bld ho' (strT_bld hk hT.zero) h3 (pfill_mono (fun i x hx => ?_) h1), h2⟩
    simp only [lget_eq] at hx
    rw [List.getElem?_map]
    split at hx
    · rename_i hl; rw [hl]; exact hx
    · cases hx
  · rename_i n e z hz
    rw [hz] at hk
    obtain ⟨out, h1, h2, h3⟩ := vFill_ok h
    refine ⟨_, still_bld ho' (arT_bld hk hT.zero) h3 (pfill_mono (fun i x hx => ?_) h1), h2⟩
    split at hx
    · rename_i hb
      rw [List.getElem?_map, List.getElem?_range (by simpa using hb)]
      exact hx
    · cases hx
  · cases h
end
section
variable {P : Program} {F : Fr} {TT : List TI} {m : Md} {o : Oper} {s : St} {K : St → Prop} {p q : PV}
def iv (s : St) (x : Operand) (k : Int → Prop) (raw : Prop) : Prop := match pev s x with
  | .val (.int _ i) => k i
  | _ => raw
def mv (s : St) (x : Option Operand) (h : Int) (k : Int → Prop) (raw : Prop) : Prop := match x with
  | none => k h
  | some x => iv s x k raw
theorem iv_ok {x : Operand} {k : Int → Prop} {raw : Prop} (h : iv s x k raw) : (∃ i, evI s (some x) 0 = some i ∧ k i) ∨ raw := by
  unfold iv at h
  split at h
  · rename_i kk i hx; exact .inl ⟨i, by simp [evI, hx], h⟩
  · exact .inr h
theorem evI_any {x : Operand} {i z z' : Int} (h : evI s (some x) z = some i) : evI s (some x) z' = some i := by simpa [evI] using h
theorem mv_ok {x : Option Operand} {h : Int} {k : Int → Prop} {raw : Prop} (hk : mv s x h k raw) : (∃ i, evI s x h = some i ∧ k i) ∨ raw := by
  cases x with
  | none => exact .inl ⟨h, rfl, hk⟩
  | some x =>
    rcases iv_ok hk with ⟨i, h1, h2⟩ | h
    · exact .inl ⟨i, evI_any h1, h2⟩
    · exact .inr h
def isZ : Option Operand → Bool
  | some (.const (.int _ (.ofNat 0))) => true
  | _ => false
theorem isZ_ok {x : Option Operand} (h : isZ x = true) (z : Int) : evI s x z = some 0 ∧ x.isSome = true := by
  unfold isZ at h
  split at h
  · exact ⟨rfl, rfl⟩
  · cases h
def vCut (s : St) (n : Int) (lo hi mx : Option Operand) (k : Option Int → Option Int → Prop) (raw : Prop) : Prop := match lo with
  | none => match hi with
    | none => match mx with
      | none => k none none
      | some _ => raw
    | some hi => iv s hi (fun h => mv s mx h (fun m => SlcG 0 h m n (k none (some h))) raw) raw
  | some lo => iv s lo (fun l => match hi with
    | none => match mx with
      | none => SlcG l n n n (k (some l) none)
      | some _ => raw
    | some hi => iv s hi (fun h => mv s mx h (fun m => SlcG l h m n (k (some l) (some h))) raw) raw) raw
theorem vCut_ok {n : Int} {lo hi mx : Option Operand} {k : Option Int → Option Int → Prop} {raw : Prop} (hn : 0 ≤ n) (hk : vCut s n lo hi mx k raw) :
    (∃ l h, evI s lo 0 = some (l.getD 0) ∧ evI s hi n = some (h.getD n) ∧ evI s mx (h.getD n) = some (h.getD n) ∧ (mx.isSome = true → hi.isSome = true) ∧ (0 ≤ l.getD 0 ∧ l.getD 0 ≤ h.getD n ∧ h.getD n ≤ n) ∧ k l h) ∨ raw := by
  unfold vCut at hk
  split at hk
  · split at hk
    · split at hk
      · exact .inl ⟨none, none, rfl, rfl, rfl, by simp, ⟨by simp, by simpa using hn, by simp⟩, hk⟩
      · exact .inr hk
    · rcases iv_ok hk with ⟨h, h1, hk⟩ | h
      · rcases mv_ok hk with ⟨m, h2, hk⟩ | h
        · have hc := hk.c
          refine .inl ⟨none, some h, rfl, evI_any h1, by simp; rw [h2, hc.2.2.2], by simp, ⟨by simp, by simp; omega, by simp; omega⟩, hk.h⟩
        · exact .inr h
      · exact .inr h
  · rcases iv_ok hk with ⟨l, h0, hk⟩ | h
    · split at hk
      · split at hk
        · have hc := hk.c
          exact .inl ⟨some l, none, h0, rfl, rfl, by simp, ⟨by simp; omega, by simp; omega, by simp⟩, hk.h⟩
        · exact .inr hk
      · rcases iv_ok hk with ⟨h, h1, hk⟩ | h
        · rcases mv_ok hk with ⟨m, h2, hk⟩ | h
          · have hc := hk.c
            exact .inl ⟨some l, some h, h0, evI_any h1, by simp; rw [h2, hc.2.2.2], by simp, ⟨by simp; omega, by simp; omega, by simp; omega⟩, hk.h⟩
          · exact .inr h
        · exact .inr h
    · exact .inr h
def vSlc (ti : TI) (s : St) (p : PV) (lo hi mx : Option Operand) (k : PV → Prop) (raw : Prop) : Prop := match ti.k with
  | .slice _ z => match isZ hi && isZ mx && lo.isNone with
    | true => match p with
      | .ws _ _ => k .emp
      | .nil => k .emp
      | .sl _ _ => k .emp
      | _ => raw
    | false => match p with
      | .ws kk a => match Nat.beq z 1 with
        | true => vCut s a.length lo hi mx (fun l h => match h with
          | none => match l with
            | none => k (.ws kk a)
            | some l => k (.ws kk (a.drop l.toNat))
          | some h => match l with
            | none => k (.ws kk (a.take h.toNat))
            | some l => k (.ws kk ((a.take h.toNat).drop l.toNat))) raw
        | false => raw
      | .arr q b n => match lget s.ob q with
        | some (some ⟨z', _, _⟩) => match Nat.beq z' z with
          | true => vCut s n lo hi mx (fun l h => match h with
            | none => match l with
              | none => k (.arr q b n)
              | some l => k (.arr q (b + l.toNat) (n - l.toNat))
            | some h => match l with
              | none => k (.arr q b h.toNat)
              | some l => k (.arr q (b + l.toNat) (h.toNat - l.toNat))) raw
          | false => raw
        | _ => raw
      | .sl sz l => match lo, hi, mx with
        | some lo, none, none => match Nat.beq z sz && Nat.blt 0 sz with
          | true => iv s lo (fun i => IdxL i (l.length / sz + 1) fun m => Chk (l.length / sz * sz = l.length) (k (.sl sz (l.drop (m * sz))))) raw
          | false => raw
        | _, _, _ => raw
      | _ => raw
  | _ => raw
theorem still_emp {ty e : TypeId} {z : Nat} {x : Operand} {lo hi mx : Option Operand} (ho : o.op = .slice ty x lo hi mx) (ht : elT P ty = some (e, z)) (h1 : isZ hi = true) (h2 : isZ mx = true) (h3 : lo.isNone = true) (hx : ∀ c v, Rep c (pev s x) v → ∃ B n cap, v = .slice B n cap ∧ n ≤ cap) : Still P F o s .emp := by
  intro c A w hi'
  obtain ⟨B, n, cap, hv, hle⟩ := hx c _ (pev_rep hi' x)
  have hlo : lo = none := by simpa using h3
  subst hlo
  refine ⟨_, .emp, fun w' _ => run_cut hi' ht ho hv hle (l := 0) (h := 0) (m := 0) rfl (isZ_ok h1 _).1 (isZ_ok h2 _).1 (fun _ => (isZ_ok (s := s) h1 0).2) ⟨by omega, by omega, by omega, by omega, by omega⟩ w'⟩
theorem still_cutS {ty e : TypeId} {z : Nat} {x lo : Operand} {l : List PV} {i : Int} (ho : o.op = .slice ty x (some lo) none none) (hx : pev s x = .sl z l) (ht : elT P ty = some (e, z)) (h1 : evI s (some lo) 0 = some i) (h0 : 0 ≤ i ∧ i < (l.length / z + 1 : Nat)) (hd : l.length / z * z = l.length) : Still P F o s (.sl z (l.drop (i.toNat * z))) := by
  intro c A w hi
  have hr := pev_rep hi x
  rw [hx] at hr
  generalize hq : A.eval x = v at hr
  have hr0 := hr
  cases hr with
  | @sl _ _ n cap B _ us k0 k1 k2 k3 k4 =>
    have hn : n = l.length / z := by rw [← k1, Nat.mul_div_cancel _ k0]
    have hrep := rep_cut (l := i.toNat) (h := n) (m := cap) hr0 (by omega) (Nat.le_refl _) k2 (Nat.le_refl _)
    rw [k1, List.take_length] at hrep
    refine ⟨_, hrep, fun w' _ => ?_⟩
    have := run_cut hi ht ho hq k2 (l := i) (h := n) (m := cap) h1 rfl rfl (by simp) ⟨h0.1, by omega, by omega, by omega, by omega⟩ w'
    simpa using this
theorem vSlc_ok {ti : TI} {x : Operand} {lo hi mx : Option Operand} {k : PV → Prop} {raw : Prop} (hT : ti.ok P) (ho : o.op = .slice ti.t x lo hi mx) (h : vSlc ti s (pev s x) lo hi mx k raw) : Sv P F o s k ∨ raw := by
  have hk := hT.k
  generalize hX : pev s x = X at h
  unfold vSlc at h
  split at h
  · rename_i e z hz
    rw [hz] at hk
    split at h
    · rename_i hb
      simp only [Bool.and_eq_true] at hb
      obtain ⟨⟨b1, b2⟩, b3⟩ := hb
      split at h
      · refine .inl ⟨_, still_emp ho hk b1 b2 b3 (fun c v hr => ?_), h⟩
        rw [hX] at hr; cases hr with | ws h1 h2 h4 => exact ⟨_, _, _, rfl, h2⟩
      · refine .inl ⟨_, still_emp ho hk b1 b2 b3 (fun c v hr => ?_), h⟩
        rw [hX] at hr; cases hr; exact ⟨_, _, _, rfl, Nat.le_refl _⟩
      · refine .inl ⟨_, still_emp ho hk b1 b2 b3 (fun c v hr => ?_), h⟩
        rw [hX] at hr; cases hr with | sl h0 h1 h2 h3 h4 => exact ⟨_, _, _, rfl, h2⟩
      · exact .inr h
    · split at h
      · split at h
        · rename_i kk a _ hb
          obtain rfl := Nat.eq_of_beq_eq_true hb
          rcases vCut_ok (by omega) h with ⟨l, u, h1, h2, h3, h4, h5, h6⟩ | h
          · refine .inl ⟨_, still_cutW ho hX hk h1 h2 h3 h4 h5, ?_⟩
            cases l <;> cases u <;> simpa using h6
          · exact .inr h
        · exact .inr h
      · split at h
        · rename_i q b n _ z' T cc hl
          rw [lget_eq] at hl
          split at h
          · rename_i hb
            obtain rfl := Nat.eq_of_beq_eq_true hb
            rcases vCut_ok (by omega) h with ⟨l, u, h1, h2, h3, h4, h5, h6⟩ | h
            · refine .inl ⟨_, still_cutR ho hX hl rfl hk h1 h2 h3 h4 h5, ?_⟩
              cases l <;> cases u <;> simpa using h6
            · exact .inr h
          · exact .inr h
        · exact .inr h
      · split at h
        · split at h
          · rename_i hb
            simp only [Bool.and_eq_true] at hb
            obtain ⟨b1, b2⟩ := hb
            obtain rfl := Nat.eq_of_beq_eq_true b1
            rcases iv_ok h with ⟨i, h1, h⟩ | h
            · exact .inl ⟨_, still_cutS ho hX hk h1 h.c h.h.c.h, h.h.k⟩
            · exact .inr h
          · exact .inr h
        · exact .inr h
      · exact .inr h
  · exact .inr h
structure MakG (n m : Int) (nb : Nat) (K : Prop) : Prop where
  c : 0 ≤ n ∧ n ≤ m ∧ (nb : Int) * m ≤ 281474976710656 ∧ m ≤ 9223372036854775807
  h : K
def zeroI (zs : List PV) : Option IntKind := match zs with
  | [.val (.int k (.ofNat 0))] => some k
  | _ => none
theorem zeroI_ok {zs : List PV} {k : IntKind} (h : zeroI zs = some k) : zs = [.val (.int k 0)] := by
  unfold zeroI at h
  split at h
  · cases h; rfl
  · cases h
def vMake (TT : List TI) (ti : TI) (md : Md) (d : Option Tmp) (s : St) (x y : PV) (K : St → Prop) (raw : Prop) : Prop := match ti.k with
  | .slice e z => match tlook TT e with
    | some te => match zeroI te.zero with
      | some kk => match Nat.beq z 1 && md.mem with
        | true => match x with
          | .val (.int _ n) => match y with
            | .val (.int _ c) => MakG n c te.byt (match s with
              | ⟨N, t, bx, ob⟩ => snocG ob (some ⟨1, e, .w kk (List.replicate n.toNat 0)⟩) fun ob' => lenG ob fun q => vPut d ⟨N, t, bx, ob'⟩ (.arr q 0 n.toNat) K)
            | _ => raw
          | _ => raw
        | false => raw
      | none => raw
    | none => raw
  | _ => raw
theorem vMake_ok {ti : TI} {x y : Operand} {raw : Prop} (hTT : TOk P TT) (hT : ti.ok P) (ho : o.op = .makeSlice ti.t x y) (hd : o.dst.isSome = true) (h : vMake TT ti m o.dst s (pev s x) (pev s y) K raw) : Sem P F m o s K ∨ raw := by
  have hk := hT.k
  generalize hX : pev s x = X at h
  generalize hY : pev s y = Y at h
  unfold vMake at h
  split at h
  · rename_i e z hz
    rw [hz] at hk
    split at h
    · rename_i te hte
      obtain ⟨t1, t2⟩ := tlook_ok hTT hte
      split at h
      · rename_i kk hzi
        have hzi := zeroI_ok hzi
        split at h
        · rename_i hb
          simp only [Bool.and_eq_true] at hb
          obtain ⟨b1, b2⟩ := hb
          obtain rfl := Nat.eq_of_beq_eq_true b1
          split at h
          · split at h
            · rename_i k1 n _ k2 c
              obtain ⟨N, t, bx, ob⟩ := s
              obtain ⟨d, hd⟩ := Option.isSome_iff_exists.1 hd
              have h2 := lenG_eq (snocG_eq h.h)
              subst t2
              rw [hd] at h2
              unfold vPut at h2
              simp only at h2
              split at h2
              · rename_i hbl
                refine .inl (Sem.does b2 (Does.make (n := n) (m := c) ho hX hY hk (by rw [t1.zero, hzi]) t1.byt h.c hd hbl ?_))
                intro q c hq hc
                subst hq hc
                exact h2
              · cases h2
            · exact .inr h
          · exact .inr h
        · exact .inr h
      · exact .inr h
    · exact .inr h
  · exact .inr h
def vAlloc (ti : TI) (d : Option Tmp) (s : St) (K : St → Prop) : Prop := match s with
  | ⟨N, t, bx, ob⟩ => snocG bx ti.zero fun bx' => lenG bx fun b => vPut d ⟨N, t, bx', ob⟩ (.ptr b 0) K
theorem vAlloc_ok {ti : TI} (hm : m.mem = true) (hT : ti.ok P) (ho : o.op = .alloc ti.t) (h : vAlloc ti o.dst s K) : Sem P F m o s K := by
  obtain ⟨N, t, bx, ob⟩ := s
  have h2 := vPut_ok (lenG_eq (snocG_eq h))
  exact Sem.does hm (Does.alloc ho hT.zero h2.1 h2.2)
def vBox (d : Option Tmp) (s : St) (p : PV) (K : St → Prop) (raw : Prop) : Prop := match s with
  | ⟨N, t, bx, ob⟩ => match p with
    | .agg l => snocG bx l fun bx' => lenG bx fun b => vPut d ⟨N, t, bx', ob⟩ (.ptr b 0) K
    | p => match okOne p with
      | true => fo p fun p => snocG bx [p] fun bx' => lenG bx fun b => vPut d ⟨N, t, bx', ob⟩ (.ptr b 0) K
      | false => raw
theorem vBox_ok {ty : TypeId} {x : Operand} {raw : Prop} (hm : m.mem = true) (ho : o.op = .box ty x) (h : vBox o.dst s (pev s x) K raw) : Sem P F m o s K ∨ raw := by
  generalize hX : pev s x = X at h
  obtain ⟨N, t, bx, ob⟩ := s
  unfold vBox at h
  simp only at h
  split at h
  · have h2 := vPut_ok (lenG_eq (snocG_eq h))
    exact .inl (Sem.does hm (Does.box ho hX.symm rfl (fun z hz => by cases hz) h2.1 h2.2))
  · split at h
    · rename_i hk
      obtain ⟨k1, k2, k3, k4, k5⟩ := okOne_ok hk
      have h2 := vPut_ok (lenG_eq (snocG_eq (fo_eq h)))
      refine .inl (Sem.does hm (Does.box ho hX.symm k1 k4 h2.1 ?_))
      rw [k2]; exact h2.2
    · exact .inr h
def vStore (ti : TI) (md : Md) (d : Option Tmp) (s : St) (p q : PV) (K : St → Prop) (raw : Prop) : Prop := match s with
  | ⟨N, t, bx, ob⟩ => match md.wr with
    | false => raw
    | true => match p with
      | .ptr b n => match lget bx b with
        | some l => match q with
          | .agg c => match c.all okOne && Nat.beq c.length ti.sz with
            | true => overG l n c fun l' => setG bx b l' fun bx' => vPut d ⟨N, t, bx', ob⟩ (.val undef) K
            | false => raw
          | q => match okOne q && Nat.beq ti.sz 1 with
            | true => fo q fun q => setG l n q fun l' => setG bx b l' fun bx' => vPut d ⟨N, t, bx', ob⟩ (.val undef) K
            | false => raw
        | none => raw
      | .ead r i => match lget ob r with
        | some (some ⟨z, T, .w kk a⟩) => match q with
          | .val (.int k2 v) => match ikEq kk k2 && Nat.beq ti.sz 1 && Nat.beq z 1 && d.isNone with
            | true => Chk (i < a.length) (setG ob r (some ⟨1, T, .w kk (a.set i v)⟩) fun ob' => K ⟨N, t, bx, ob'⟩)
            | false => raw
          | _ => raw
        | _ => raw
      | _ => raw
theorem vStore_ok {ti : TI} {x y : Operand} {raw : Prop} (hT : ti.ok P) (ho : o.op = .store ti.t x y) (h : vStore ti m o.dst s (pev s x) (pev s y) K raw) : Sem P F m o s K ∨ raw := by
  generalize hX : pev s x = X at h
  generalize hY : pev s y = Y at h
  obtain ⟨N, t, bx, ob⟩ := s
  unfold vStore at h
  simp only at h
  split at h
  · exact .inr h
  · rename_i hm
    split at h
    · split at h
      · rename_i b n _ l hl
        rw [lget_eq] at hl
        split at h
        · rename_i c
          split at h
          · rename_i hb
            simp only [Bool.and_eq_true] at hb
            obtain ⟨b1, b2⟩ := hb
            obtain ⟨h1, h⟩ := overG_eq h
            obtain ⟨h2, h⟩ := setG_eq h
            have h3 := vPut_ok h
            refine .inl (Sem.wr hm (Does.storeB ho hX hl (m := c) (by rw [hY]; rfl) (by rw [hY]; rfl) (by rw [hY]; intro z hz; cases hz) (fun p hp => ?_) hT.sz (Nat.eq_of_beq_eq_true b2) (by have := Nat.eq_of_beq_eq_true b2; omega) h3.1 h3.2))
            obtain ⟨k1, k2, k3, k4, k5⟩ := okOne_ok (List.all_eq_true.1 b1 p hp)
            exact ⟨k3, k5⟩
          · exact .inr h
        · split at h
          · rename_i hb
            simp only [Bool.and_eq_true] at hb
            obtain ⟨b1, b2⟩ := hb
            obtain ⟨k1, k2, k3, k4, k5⟩ := okOne_ok b1
            obtain ⟨h1, h⟩ := setG_eq (fo_eq h)
            obtain ⟨h2, h⟩ := setG_eq h
            have h3 := vPut_ok h
            have e1 := Nat.eq_of_beq_eq_true b2
            refine .inl (Sem.wr hm (Does.storeB ho hX hl rfl (by rw [hY]; exact k1) (by rw [hY]; exact k4) (by rw [hY, k2]; intro p hp; simp at hp; subst hp; exact ⟨k3, k5⟩) hT.sz (by rw [hY, k2, e1]; rfl) (by omega) h3.1 ?_))
            rw [hY, k2]
            have e2 : over l n [Y] = l.set n Y := by simp [over, List.set_eq_take_append_cons_drop, h1]
            rw [e2]; exact h3.2
          · exact .inr h
      · exact .inr h
    · split at h
      · rename_i r i _ z T kk a hl
        rw [lget_eq] at hl
        split at h
        · split at h
          · rename_i hb
            simp only [Bool.and_eq_true] at hb
            obtain ⟨⟨⟨b1, b2⟩, b3⟩, b4⟩ := hb
            have b1 := ikEq_ok b1
            subst b1
            obtain rfl := Nat.eq_of_beq_eq_true b3
            obtain ⟨h1, h2⟩ := setG_eq h.k
            refine .inl (Sem.wr hm (Does.storeR ho hX hY hl (by rw [hT.sz, Nat.eq_of_beq_eq_true b2]) h.c.h (by simpa using b4) fun c hc => ?_))
            subst hc
            exact h2
          · exact .inr h
        · exact .inr h
      · exact .inr h
    · exact .inr h
theorem pfill_len {place : Nat → Option (Nat × Nat)} : ∀ {ps : List (Nat × PV)} {cs out : List PV}, pfill place cs ps = some out → out.length = cs.length
  | [], cs, out, h => by simp only [pfill, Option.some.injEq] at h; rw [h]
  | (i, p) :: ps, cs, out, h => by
    simp only [pfill] at h
    cases hp : place i with
    | none => simp [hp] at h
    | some x =>
      simp only [hp] at h
      split at h
      · rw [pfill_len h, setsP_len]
      · cases h
def repZ (n : Nat) (zs : List PV) : List PV := match n with
  | 0 => []
  | n + 1 => zs ++ repZ n zs
theorem repZ_len (zs : List PV) : ∀ n, (repZ n zs).length = n * zs.length
  | 0 => by simp [repZ]
  | n + 1 => by simp [repZ, repZ_len zs n, Nat.add_mul, Nat.add_comm]
theorem repZ_get {zs : List PV} : ∀ {n j : Nat}, j < n * zs.length → (repZ n zs)[j]? = zs[j % zs.length]?
  | 0, j, h => by simp at h
  | n + 1, j, h => by
    simp only [repZ]
    by_cases hj : j < zs.length
    · rw [List.getElem?_append_left hj, Nat.mod_eq_of_lt hj]
    · rw [List.getElem?_append_right (by omega), repZ_get (by rw [Nat.add_mul] at h; omega)]
      congr 1
      exact (Nat.mod_eq_sub_mod (by omega)).symm
theorem zrow_eq {zs : List PV} {n : Nat} (h0 : 0 < zs.length) : zrow zs (n * zs.length) = repZ n zs := by
  apply List.ext_getElem?
  intro j
  by_cases hj : j < n * zs.length
  · rw [repZ_get hj]
    simp only [zrow, List.getElem?_map, List.getElem?_range hj, Option.map_some]
    have := Nat.mod_lt j h0
    rw [List.getD_eq_getElem?_getD, List.getElem?_eq_getElem this]; rfl
  · rw [List.getElem?_eq_none (by simp [zrow]; omega), List.getElem?_eq_none (by rw [repZ_len]; omega)]
def intsG (kk : IntKind) (l : List PV) (k : List Int → Prop) (raw : Prop) : Prop := match l with
  | [] => k []
  | p :: l => match p with
    | .val (.int k2 n) => match ikEq k2 kk with
      | true => intsG kk l (fun l => k (n :: l)) raw
      | false => raw
    | _ => raw
theorem intsG_ok {kk : IntKind} : ∀ {l : List PV} {k : List Int → Prop} {raw : Prop}, intsG kk l k raw → (∃ a, l = a.map (wv kk) ∧ k a) ∨ raw
  | [], k, raw, h => .inl ⟨[], rfl, h⟩
  | p :: l, k, raw, h => by
    simp only [intsG] at h
    split at h
    · split at h
      · rename_i hk
        have hk := ikEq_ok hk
        subst hk
        rcases intsG_ok h with ⟨a, rfl, h'⟩ | h'
        · exact .inl ⟨_ :: a, rfl, h'⟩
        · exact .inr h'
      · exact .inr h
    · exact .inr h
def vLit (TT : List TI) (ti : TI) (md : Md) (d : Option Tmp) (s : St) (n : Nat) (ps : List (Nat × Operand)) (K : St → Prop) (raw : Prop) : Prop := match ti.k with
  | .slice e z => match tlook TT e with
    | some te => match md.mem && Nat.blt 0 z && Nat.ble (n * z) 16777216 && Nat.beq te.zero.length z && d.isSome && Nat.blt 0 n with
      | true => vFill (fun i => some (i * z, z)) s (repZ n te.zero) ps fun out => match te.k with
        | .int kk => match Nat.beq z 1 with
          | true => intsG kk out (fun l => vPut d s (.ws kk l) K) raw
          | false => raw
        | _ => match noHL out with
          | true => vPut d s (.sl z out) K
          | false => raw
      | false => raw
    | none => raw
  | _ => raw
theorem vLit_ok {ti : TI} {n : Nat} {ps : Array (Nat × Operand)} {raw : Prop} (hTT : TOk P TT) (hT : ti.ok P) (ho : o.op = .buildSlice ti.t n ps) (h : vLit TT ti m o.dst s n ps.toList K raw) : Sem P F m o s K ∨ raw := by
  have hk := hT.k
  have ho' : o.op = .buildSlice ti.t n ps.toList.toArray := by simpa using ho
  unfold vLit at h
  split at h
  · rename_i e z hz
    rw [hz] at hk
    split at h
    · rename_i te hte
      obtain ⟨t1, t2⟩ := tlook_ok hTT hte
      subst t2
      split at h
      · rename_i hb
        simp only [Bool.and_eq_true] at hb
        obtain ⟨⟨⟨⟨⟨b1, b2⟩, b3⟩, b4⟩, b5⟩, _⟩ := hb
        have b2 : 0 < z := by simpa using b2
        have b4 := Nat.eq_of_beq_eq_true b4
        obtain ⟨out, h1, h2, h3⟩ := vFill_ok h
        rw [← zrow_eq (by omega), b4] at h1
        have hlen : out.length = n * z := by rw [pfill_len h1]; simp [zrow]
        split at h2
        · rename_i kk _
          split at h2
          · rename_i hb
            obtain rfl := Nat.eq_of_beq_eq_true hb
            rcases intsG_ok h2 with ⟨l, rfl, h3'⟩ | h2
            · clear h2
              obtain ⟨N, t, bx, ob⟩ := s
              obtain ⟨d, hd⟩ := Option.isSome_iff_exists.1 b5
              rw [hd] at h3'
              unfold vPut at h3'
              simp only at h3'
              split at h3'
              · rename_i hbl
                exact .inl (Sem.does b1 (Does.litW ho' hk t1.zero b4 b3 h3 h1 (by simpa using hlen) hd hbl h3'))
              · cases h3'
            · exact .inr h2
          · exact .inr h2
        · split at h2
          · rename_i hno
            have h5 := vPut_ok h2
            refine .inl (Sem.does b1 (Does.lit ho' hk b2 t1.zero b4 (Nat.le_of_ble_eq_true b3) (fun i v hm => ?_) h1 hno hlen h5.1 h5.2))
            have := List.all_eq_true.1 h3 _ hm
            cases v <;> first | rfl | simp [okv] at this
          · exact .inr h2
      · exact .inr h
    · exact .inr h
  · exact .inr h
structure AppG (F : Fr) (q n la lb nb : Nat) (K : Prop) : Prop where
  e : n = la
  c : (n + lb) * nb ≤ 140737488355328 ∧ n + lb ≤ 9223372036854775807
  own : F.c0.ob.length ≤ q
  h : K
def vApp (F : Fr) (TT : List TI) (ti : TI) (md : Md) (d : Option Tmp) (s : St) (x y : PV) (K : St → Prop) (raw : Prop) : Prop := match ti.k with
  | .slice e z => match tlook TT e with
    | some te => match zeroI te.zero with
      | some kz => match md.wr && Nat.beq z 1 && d.isSome with
        | true => match s with
          | ⟨N, t, bx, ob⟩ => match x with
            | .arr q 0 n => match lget ob q with
              | some (some ⟨z', T, .w kk a⟩) => match y with
                | .ws k2 b => match Nat.beq z' 1 && Nat.beq T e && ikEq kk k2 && ikEq kz kk with
                  | true => AppG F q n a.length b.length te.byt (setG ob q (some ⟨1, T, .w kk (a ++ b)⟩) fun ob' => vPut d ⟨N, fun x => forg q (t x), bx.map (forgL q), ob'⟩ (.arr q 0 (n + b.length)) K)
                  | false => raw
                | _ => raw
              | _ => raw
            | _ => raw
        | false => raw
      | none => raw
    | none => raw
  | _ => raw
theorem vApp_ok {ti : TI} {x y : Operand} {raw : Prop} (hTT : TOk P TT) (hT : ti.ok P) (ho : o.op = .call { callee := .builtin .append, args := #[x, y], argTypes := #[ti.t, ti.t] }) (h : vApp F TT ti m o.dst s (pev s x) (pev s y) K raw) : Sem P F m o s K ∨ raw := by
  have hk := hT.k
  generalize hX : pev s x = X at h
  generalize hY : pev s y = Y at h
  unfold vApp at h
  split at h
  · rename_i e z hz
    rw [hz] at hk
    split at h
    · rename_i te hte
      obtain ⟨t1, t2⟩ := tlook_ok hTT hte
      subst t2
      split at h
      · rename_i kz hzi
        have hzi := zeroI_ok hzi
        split at h
        · rename_i hb
          simp only [Bool.and_eq_true] at hb
          obtain ⟨⟨b1, b2⟩, b3⟩ := hb
          obtain rfl := Nat.eq_of_beq_eq_true b2
          obtain ⟨d, hd⟩ := Option.isSome_iff_exists.1 b3
          split at h
          rename_i N t bx ob
          split at h
          · split at h
            · rename_i q n _ z' T kk a hl
              rw [lget_eq] at hl
              split at h
              · split at h
                · rename_i hb
                  simp only [Bool.and_eq_true] at hb
                  obtain ⟨⟨⟨c1, c2⟩, c3⟩, c4⟩ := hb
                  obtain rfl := Nat.eq_of_beq_eq_true c1
                  obtain rfl := Nat.eq_of_beq_eq_true c2
                  have c3 := ikEq_ok c3
                  subst c3
                  have c4 := ikEq_ok c4
                  subst c4
                  obtain ⟨h1, h2⟩ := setG_eq h.h
                  rw [hd] at h2
                  unfold vPut at h2
                  simp only at h2
                  split at h2
                  · rename_i hbl
                    exact .inl (Sem.wr b1 (Does.append ho hX hl hY hk rfl (by rw [t1.zero, hzi]) t1.byt h.e h.c h.own hd hbl h2))
                  · cases h2
                · exact .inr h
              · exact .inr h
            · exact .inr h
          · exact .inr h
        · exact .inr h
      · exact .inr h
    · exact .inr h
  · exact .inr h
def vCopy (ti : TI) (md : Md) (d : Option Tmp) (s : St) (x y : PV) (K : St → Prop) (raw : Prop) : Prop := match ti.k with
  | .slice e z => match md.wr && Nat.beq z 1 && d.isSome with
    | true => match s with
      | ⟨N, t, bx, ob⟩ => match x with
        | .arr q lo n => match lget ob q with
          | some (some ⟨z', T, .w kk a⟩) => match y with
            | .ws k2 b => match Nat.beq z' 1 && ikEq kk k2 with
              | true => Chk (lo + n ≤ a.length) (setG ob q (some ⟨1, T, .w kk (a.take lo ++ b.take n ++ a.drop (lo + min n b.length))⟩) fun ob' => vPut d ⟨N, t, bx, ob'⟩ (.val (.int .i64 (min n b.length : Nat))) K)
              | false => raw
            | _ => raw
          | _ => raw
        | _ => raw
    | false => raw
  | _ => raw
theorem vCopy_ok {ti : TI} {x y : Operand} {raw : Prop} (hT : ti.ok P) (ho : o.op = .call { callee := .builtin .copy, args := #[x, y], argTypes := #[ti.t, ti.t] }) (h : vCopy ti m o.dst s (pev s x) (pev s y) K raw) : Sem P F m o s K ∨ raw := by
  have hk := hT.k
  generalize hX : pev s x = X at h
  generalize hY : pev s y = Y at h
  unfold vCopy at h
  split at h
  · rename_i e z hz
    rw [hz] at hk
    split at h
    · rename_i hb
      simp only [Bool.and_eq_true] at hb
      obtain ⟨⟨b1, b2⟩, b3⟩ := hb
      obtain rfl := Nat.eq_of_beq_eq_true b2
      obtain ⟨d, hd⟩ := Option.isSome_iff_exists.1 b3
      split at h
      rename_i N t bx ob
      split at h
      · split at h
        · rename_i q lo n _ z' T kk a hl
          rw [lget_eq] at hl
          split at h
          · split at h
            · rename_i hb
              simp only [Bool.and_eq_true] at hb
              obtain ⟨c1, c3⟩ := hb
              obtain rfl := Nat.eq_of_beq_eq_true c1
              have c3 := ikEq_ok c3
              subst c3
              obtain ⟨h1, h2⟩ := setG_eq h.k
              rw [hd] at h2
              unfold vPut at h2
              simp only at h2
              split at h2
              · rename_i hbl
                refine .inl (Sem.wr b1 (Does.copy ho hX hl hY hk h.c.h hd hbl fun c hc => ?_))
                subst hc; exact h2
              · cases h2
            · exact .inr h
          · exact .inr h
        · exact .inr h
      · exact .inr h
    · exact .inr h
  · exact .inr h
end
structure FC (P : Program) (G : List (Nat × List Value)) (f : FuncId) (args : List PV) (Q : PV → Prop) : Prop where
  c : callable P f = true
  h : PC P G f args Q
theorem FC.mono {P : Program} {G : List (Nat × List Value)} {f : FuncId} {args : List PV} {Q Q' : PV → Prop} (h : FC P G f args Q) (k : ∀ r, Q r → Q' r) : FC P G f args Q' := ⟨h.c, h.h.mono k⟩
mutual
inductive Lp : PV → PV → Prop
  | refl (p : PV) : Lp p p
  | nil (k : IntKind) : Lp .nil (.ws k [])
  | emp (k : IntKind) : Lp .emp (.ws k [])
  | nils (z : Nat) (h : 0 < z) : Lp .nil (.sl z [])
  | any (p : PV) : Lp p .any
  | agg {l l' : List PV} (h : LpL l l') : Lp (.agg l) (.agg l')
  | tup {l l' : List PV} (h : LpL l l') : Lp (.tup l) (.tup l')
inductive LpL : List PV → List PV → Prop
  | nil : LpL [] []
  | cons {p p' : PV} {l l' : List PV} (h : Lp p p') (t : LpL l l') : LpL (p :: l) (p' :: l')
end
mutual
theorem Lp.rep {c : Cx} : ∀ {p p' : PV} {v : Value}, Lp p p' → Rep c p v → Rep c p' v
  | _, _, _, .refl p, h => h
  | _, _, _, .nil k, h => by cases h; exact .ws rfl (Nat.le_refl _) fun j x hx => by simp at hx
  | _, _, _, .emp k, h => by cases h; exact .ws rfl (Nat.le_refl _) fun j x hx => by simp at hx
  | _, _, _, .nils z h0, h => by cases h; exact .sl (us := []) h0 (by simp) (Nat.le_refl _) .nil fun j u hu => by simp at hu
  | _, _, _, .any p, h => .any _
  | _, _, _, .agg hl, h => by cases h with | agg h => exact .agg (LpL.rep hl h)
  | _, _, _, .tup hl, h => by cases h with | tup h => exact .tup (LpL.rep hl h)
theorem LpL.rep {c : Cx} : ∀ {l l' : List PV} {us : List Value}, LpL l l' → RepL c l us → RepL c l' us
  | _, _, _, .nil, h => h
  | _, _, _, .cons h t, .cons r rs => .cons (Lp.rep h r) (LpL.rep t rs)
end
theorem LpL.refl : ∀ l : List PV, LpL l l
  | [] => .nil
  | p :: l => .cons (.refl p) (LpL.refl l)
structure RetE (Q : PV → Prop) (r : PV) : Prop where
  h : ∃ r', Lp r r' ∧ Q r'
theorem ret_e {Q : PV → Prop} {r : PV} (h : Q r) : RetE Q r := ⟨r, .refl r, h⟩
theorem ret_l {Q : PV → Prop} {r : PV} (r' : PV) (l : Lp r r') (h : Q r') : RetE Q r := ⟨r', l, h⟩
section
variable {P : Program} {F : Fr} {TT : List TI} {X : List FuncId} {m : Md} {o : Oper} {s : St} {K : St → Prop} {p q : PV}
theorem Inv.called {c : Cx} {a : Act} {w w' : World} {ρ' : Addr → Option Value} (hi : Inv F c s a w) (hρ : ∀ ad u, c.ρ ad = some u → ρ' ad = some u) (hm : ∀ ad u, ρ' ad = some u → w'.cell? ad = some u) (hb : Below w.heap.size w w') (hn : ∀ ad u, ρ' ad = some u → c.ρ ad = some u ∨ w.heap.size ≤ ad.block) :
    Inv F { c with ρ := ρ' } s a w' := by
  have k : c.le { c with ρ := ρ' } := ⟨hρ, fun _ _ h => h, fun _ _ h => h⟩
  have hW : SimW c s.bx s.ob w' := hi.W.grow fun i h => hb.block i h
  refine ⟨⟨hm, hW.bl, hW.ol, fun i l hl => ?_, fun i r hr => ?_, hW.nb, hW.no, hW.nbo, fun ad u hu => ?_, fun ad u i x r hu hr hx he => ?_⟩, hi.nd, hi.sz, fun t => (hi.tm t).up k, ?_, fun ad u hu => hρ _ _ (hi.rho _ _ hu), fun ad u hu => ?_, hi.obp, hi.obB, hi.bbB⟩
  · obtain ⟨g, us, T, h1, h2, h3⟩ := hW.box i l hl
    exact ⟨g, us, T, h1, h2, h3.up k⟩
  · obtain ⟨x, us, h1, ha, hb', h2, h3, h4, h5⟩ := hW.obj i r hr
    exact ⟨x, us, h1, ha, hb', h2, h3, h4, h5.up k.strip⟩
  · rcases hn ad u hu with h | h
    · exact hi.W.sb ad u h
    · intro hmem
      obtain ⟨i, hgi⟩ := List.getElem?_of_mem hmem
      have := hi.W.bb_lt hgi
      omega
  · rcases hn ad u hu with h | h
    · exact hi.W.so ad u i x r h hr hx he
    · have := hi.W.ob_lt hr hx
      omega
  · exact hi.kp.trans (Kp.of_below (hb.mono hi.kp.size))
  · rcases hn ad u hu with h | h
    · exact hi.new ad u h
    · exact .inr (Nat.le_trans hi.kp.size h)
structure CallF (P : Program) (F : Fr) (e : Bool) (f : FuncId) (args : List PV) (s : St) (K : St → PV → Prop) : Prop where
  c : callable P f = true
  h : ∀ c a w (vs : List Value), Inv F c s a w → RepL c args vs → Calls P f vs.toArray w fun en w' => ∃ v r c' s', en = .returned v ∧ Inv F c' s' a w' ∧ Rep c' r v ∧ K s' r ∧ (e = true → Ext w w')
theorem CallF.does {f : FuncId} {e : Bool} {x : Operand} {as : Array Operand} {ts : Array TypeId} (ho : o.op = .call { callee := .value x, args := as, argTypes := ts }) (hx : pev s x = .val (.func (.func f) #[] #[])) (h : CallF P F e f (as.toList.map (pev s)) s fun s r => vPut o.dst s r K) : Does P F o e s K := by
  intro R c a w hi
  unfold Oper.wp
  rw [run_call h.c ho (pev_val hi hx)]
  have hc := h.h c a w (as.toList.map a.eval) hi (evalL hi as.toList)
  have he : as.map a.eval = (as.toList.map a.eval).toArray := by rw [← List.map_toArray]
  rw [he]
  refine hc.mono ?_
  rintro en w' ⟨v, r, c', s', rfl, hI, hr, hK, hE⟩
  have h2 := vPut_ok hK
  exact ⟨c', _, hI.put h2.1 hr, h2.2, hE⟩
theorem call_pcw {f : FuncId} {e : Bool} {args args' : List PV} {Q : PV → Prop} {K : St → PV → Prop} (h : FC P F.G f args' Q) (hl : LpL args args') (hno : noHL args = true) (k : ∀ r, Q r → K s r) : CallF P F e f args s K := by
  refine ⟨h.c, fun c a w vs hi hr => ?_⟩
  have hG : GOk F.G c.ρ := fun g cs hm j u hu => hi.rho _ _ (F.hG g cs hm j u hu)
  refine (h.h c.ρ w vs hG hi.W.mem (hl.rep (hr.bare hno))).mono ?_
  rintro en w' ⟨v, r, ρ', rfl, hQ, hρ, hm, hr, hb, hn⟩
  have kr : (⟨ρ', [], []⟩ : Cx).le { c with ρ := ρ' } := ⟨fun _ _ h => h, fun _ _ h => by simp at h, fun _ _ h => by simp at h⟩
  exact ⟨v, r, _, s, rfl, hi.called hρ hm hb hn, hr.up kr, k r hQ, fun _ => Ext.below hb⟩
theorem call_pc {f : FuncId} {e : Bool} {args : List PV} {Q : PV → Prop} {K : St → PV → Prop} (h : FC P F.G f args Q) (hno : noHL args = true) (k : ∀ r, Q r → K s r) : CallF P F e f args s K :=
  call_pcw h (LpL.refl _) hno k
theorem call_eq {f : FuncId} {e : Bool} {args args' : List PV} {r : PV} {K : St → PV → Prop} (h : FC P F.G f args' (· = r)) (hl : LpL args args') (hno : noHL args = true) (k : K s r) : CallF P F e f args s K :=
  call_pcw h hl hno fun _ e => e ▸ k
theorem freeze_ws {N : Nat} {t : Nat → PV} {bx : List (List PV)} {ob : List (Option Row)} {c : Cx} {a : Act} {w : World} (hi : Inv F c ⟨N, t, bx, ob⟩ a w) {q b n : Nat} {k : IntKind} {T : TypeId} {A : List Int} (hr : ob[q]? = some (some ⟨1, T, .w k A⟩)) (hle : b + n ≤ A.length) (hown : F.c0.ob.length ≤ q) :
    ∃ c' : Cx, c.le c' ∧ Inv F c' ⟨N, t, bx, ob.set q none⟩ a w ∧ ∀ v, Rep c (.arr q b n) v → Rep c' (.ws k ((A.drop b).take n)) v := by
  have hr' : ob[q]? = some (some (rw_ k T A)) := hr
  obtain ⟨x, us, a1, a2, a3, a4, a5, a6, a7⟩ := hi.W.obj q _ hr'
  obtain ⟨ρ', hρ⟩ : ∃ ρ' : Addr → Option Value, ∀ ad, ρ' ad = if ad.block = x.g ∧ ad.spot = none ∧ ad.off < (rw_ k T A).cs.length then us[ad.off]? else c.ρ ad := ⟨_, fun _ => rfl⟩
  obtain ⟨kle, hW⟩ := hi.W.freeze hr' a1 a5 a7 ρ' hρ
  refine ⟨{ c with ρ := ρ' }, kle, ⟨hW, hi.nd, hi.sz, fun y => (hi.tm y).up kle, hi.kp, fun ad u hu => kle.ρ _ _ (hi.rho ad u hu), fun ad u hu => ?_, hi.obp, hi.obB, hi.bbB⟩, fun v hv => ?_⟩
  · have hu' : ρ' ad = some u := hu
    rw [hρ] at hu'
    split at hu'
    · rename_i hh
      exact .inr (by rw [hh.1]; exact hi.obB q x hown a1)
    · exact hi.new ad u hu'
  · cases hv with
    | @arr _ _ _ _ cap X ad k1 k2 k3 k4 k5 =>
      rw [a1] at k1; cases k1
      have hsz : x.sz = 1 := a2
      have hcs : (rw_ k T A).cs.length = A.length := by simp [rw_, cs_w]
      refine rep_ws.2 (.sl (us := ((us.take A.length).drop b).take n) Nat.one_pos (by simp; omega) k3 ?_ fun j u hu => ?_)
      · have h7 := a7.up kle.strip
        rw [hcs] at h7
        have := (h7.drop b).take n
        simpa [rw_, cs_w, List.map_take, List.map_drop] using this
      · rw [List.getElem?_take] at hu
        split at hu
        · rename_i hj
          rw [List.getElem?_drop, List.getElem?_take] at hu
          split at hu
          · rename_i hj2
            refine ⟨ad, rfl, ?_⟩
            have had : ad.add j = ⟨x.g, b + j, none⟩ := by rw [k4 (by omega), hsz, Nat.mul_one, addr_add]
            show ρ' (ad.add j) = some u
            rw [had, hρ, if_pos ⟨rfl, rfl, by simp only [hcs]; exact hj2⟩]
            exact hu
          · cases hu
        · cases hu
theorem call_fz {N : Nat} {t : Nat → PV} {bx : List (List PV)} {ob : List (Option Row)} {f : FuncId} {e : Bool} {args : List PV} {K : St → PV → Prop} (i : Nat) {q b n : Nat} {k : IntKind} {T : TypeId} {A B : List Int} (ha : args[i]? = some (.arr q b n)) (hr : ob[q]? = some (some ⟨1, T, .w k A⟩)) (hle : b + n ≤ A.length) (hB : (A.drop b).take n = B) (hown : F.c0.ob.length ≤ q)
    (h : CallF P F e f (args.set i (.ws k B)) ⟨N, t, bx, ob.set q none⟩ K) : CallF P F e f args ⟨N, t, bx, ob⟩ K := by
  subst hB
  refine ⟨h.c, fun c a w vs hi hv => ?_⟩
  obtain ⟨c', kle, hi', hrep⟩ := freeze_ws hi hr hle hown
  obtain ⟨u, hu, hru⟩ := hv.get ha
  refine h.h c' a w vs hi' ?_
  have h2 := (RepL.up kle hv).set i (hrep u hru)
  have e : vs.set i u = vs := by
    apply List.ext_getElem?
    intro j
    by_cases hj : i = j
    · subst hj; rw [List.getElem?_set_self (List.getElem?_eq_some_iff.1 hu).1, hu]
    · rw [List.getElem?_set_ne hj]
  rwa [e] at h2
structure ExtF (P : Program) (f : FuncId) (vs : List Value) (K : PV → Prop) : Prop where
  h : ∃ r, ExtOk P f vs r ∧ K r
def valsG (l : List PV) (k : List Value → Prop) (raw : Prop) : Prop := match l with
  | [] => k []
  | p :: l => match p with
    | .val v => valsG l (fun vs => k (v :: vs)) raw
    | _ => raw
theorem valsG_ok : ∀ {l : List PV} {k : List Value → Prop} {raw : Prop}, valsG l k raw → (∃ vs, l = vs.map .val ∧ k vs) ∨ raw
  | [], k, raw, h => .inl ⟨[], rfl, h⟩
  | p :: l, k, raw, h => by
    simp only [valsG] at h
    split at h
    · rcases valsG_ok h with ⟨vs, rfl, h'⟩ | h'
      · exact .inl ⟨_ :: vs, rfl, h'⟩
      · exact .inr h'
    · exact .inr h
def memX (X : List FuncId) (f : FuncId) : Bool := match X with
  | [] => false
  | g :: X => match Nat.beq g f with
    | true => true
    | false => memX X f
def vLen (p : PV) (k : Int → Prop) (raw : Prop) : Prop := match p with
  | .ws _ a => k a.length
  | .arr _ _ n => k n
  | .nil => k 0
  | .emp => k 0
  | .fs _ n _ => k n
  | .sl z l => lenG l fun n => Chk (n / z * z = n) (k ((n / z : Nat) : Int))
  | _ => raw
theorem vLen_ok {t e : TypeId} {z : Nat} {x : Operand} {k : Int → Prop} {raw : Prop} (ho : o.op = .call { callee := .builtin .len, args := #[x], argTypes := #[t] }) (ht : elT P t = some (e, z)) (h : vLen (pev s x) k raw) : Sv P F o s (fun p => ∃ n, p = .val (.int .i64 n) ∧ k n) ∨ raw := by
  have hu := (elT_ok ht).1
  generalize hX : pev s x = X at h
  unfold vLen at h
  split at h
  · rename_i kk a
    refine .inl ⟨_, fun c A w hi => ?_, _, rfl, h⟩
    have hr := pev_rep hi x
    rw [hX] at hr
    generalize hq : A.eval x = y at hr
    cases hr with
    | ws h1 h2 h4 =>
      subst h1
      exact ⟨_, .val _, fun w' _ => by simp [execOp, ho, resolve, invoke, builtin, hq, Builtin.len_, run_underlying hu, goInt]⟩
  · exact .inl ⟨_, still_lenO ho hX rfl hu, _, rfl, h⟩
  · exact .inl ⟨_, still_lenN ho hX rfl hu, _, rfl, h⟩
  · refine .inl ⟨_, fun c A w hi => ?_, _, rfl, h⟩
    have hr := pev_rep hi x
    rw [hX] at hr
    generalize hq : A.eval x = y at hr
    cases hr with
    | emp => exact ⟨_, .val _, fun w' _ => by simp [execOp, ho, resolve, invoke, builtin, hq, Builtin.len_, run_underlying hu, goInt]⟩
  · refine .inl ⟨_, fun c A w hi => ?_, _, rfl, h⟩
    have hr := pev_rep hi x
    rw [hX] at hr
    generalize hq : A.eval x = y at hr
    cases hr with
    | fs => exact ⟨_, .val _, fun w' _ => by simp [execOp, ho, resolve, invoke, builtin, hq, Builtin.len_, run_underlying hu, goInt]⟩
  · have h2 := lenG_eq h
    exact .inl ⟨_, still_len ho hX rfl hu h2.c.h, _, rfl, h2.k⟩
  · exact .inr h
def fnOf (p : PV) : Option FuncId := match p with
  | .val (.func (.func f) a b) => match a.toList with
    | [] => match b.toList with
      | [] => some f
      | _ => none
    | _ => none
  | _ => none
theorem fnOf_ok {f : FuncId} (h : fnOf p = some f) : p = .val (.func (.func f) #[] #[]) := by
  unfold fnOf at h
  split at h
  · rename_i g a b
    split at h
    · rename_i ha
      split at h
      · rename_i hb
        cases h
        rw [← Array.toArray_toList (xs := a), ← Array.toArray_toList (xs := b), ha, hb]
      · cases h
    · cases h
  · cases h
def vMM (ii : Bool) (x y : PV) (k : PV → Prop) (raw : Prop) : Prop := match x with
  | .val (.int ka a) => match y with
    | .val (.int kb b) => match ikEq ka kb with
      | true => match ii with
        | true => k (.val (.int ka (min a b)))
        | false => k (.val (.int ka (max a b)))
      | false => raw
    | _ => raw
  | _ => raw
def vBuiltin (F : Fr) (TT : List TI) (m : Md) (d : Option Tmp) (s : St) (b : Builtin) (as : List Operand) (ts : List TypeId) (K : St → Prop) (raw : Prop) : Prop := match b with
  | .len => match as with
    | [x] => match ts with
      | [t] => match tlook TT t with
        | some ti => match ti.k with
          | .slice _ _ => vLen (pev s x) (fun n => vPut d s (.val (.int .i64 n)) K) raw
          | _ => raw
        | none => raw
      | _ => raw
    | _ => raw
  | .min => match as with
    | [x, y] => vMM true (pev s x) (pev s y) (fun p => vPut d s p K) raw
    | _ => raw
  | .max => match as with
    | [x, y] => vMM false (pev s x) (pev s y) (fun p => vPut d s p K) raw
    | _ => raw
  | .append => match as with
    | [x, y] => match ts with
      | [t, t'] => match Nat.beq t t' with
        | true => match tlook TT t with
          | some ti => vApp F TT ti m d s (pev s x) (pev s y) K raw
          | none => raw
        | false => raw
      | _ => raw
    | _ => raw
  | .copy => match as with
    | [x, y] => match ts with
      | [t, t'] => match Nat.beq t t' with
        | true => match tlook TT t with
          | some ti => vCopy ti m d s (pev s x) (pev s y) K raw
          | none => raw
        | false => raw
      | _ => raw
    | _ => raw
  | _ => raw
def vCall (P : Program) (F : Fr) (TT : List TI) (X : List FuncId) (m : Md) (d : Option Tmp) (s : St) (c : Call) (K : St → Prop) (raw : Prop) : Prop := match c.callee with
  | .builtin b => vBuiltin F TT m d s b c.args.toList c.argTypes.toList K raw
  | .value x => match fnOf (pev s x) with
    | some f => match memX X f with
      | true => foL (c.args.toList.map (pev s)) fun l => valsG l (fun vs => ExtF P f vs fun p => vPut d s p K) raw
      | false => match m with
        | .S => raw
        | .E => foL (c.args.toList.map (pev s)) fun l => CallF P F true f l s fun s r => vPut d s r K
        | .L => foL (c.args.toList.map (pev s)) fun l => CallF P F false f l s fun s r => vPut d s r K
    | none => raw
  | _ => raw
theorem vCall_ok {c : Call} {raw : Prop} (hTT : TOk P TT) (ho : o.op = .call c) (h : vCall P F TT X m o.dst s c K raw) : Sem P F m o s K ∨ raw := by
  obtain ⟨cl, as, ts⟩ := c
  have ea : as = as.toList.toArray := by simp
  have et : ts = ts.toList.toArray := by simp
  unfold vCall at h
  simp only at h
  split at h
  · rename_i b
    generalize hA : as.toList = A at h ea
    generalize hT : ts.toList = T at h et
    unfold vBuiltin at h
    split at h
    · split at h
      · rename_i x
        split at h
        · rename_i t
          split at h
          · rename_i ti hti
            obtain ⟨t1, t2⟩ := tlook_ok hTT hti
            have tk := t1.k
            split at h
            · rename_i e z hz
              rw [hz] at tk
              have tk : elT P ti.t = some (e, z) := tk
              rw [ea, et] at ho
              rw [t2] at tk
              rcases vLen_ok ho tk h with ⟨p, h1, n, rfl, h2⟩ | h
              · exact .inl (vPut_still h1 h2)
              · exact .inr h
            · exact .inr h
          · exact .inr h
        · exact .inr h
      · exact .inr h
    · split at h
      · rename_i x y
        generalize hX : pev s x = X at h
        generalize hY : pev s y = Y at h
        rw [ea] at ho
        unfold vMM at h
        split at h
        · split at h
          · split at h
            · rename_i hk
              have hk := ikEq_ok hk
              subst hk
              exact .inl (vPut_still (still_min ho hX hY) h)
            · exact .inr h
          · exact .inr h
        · exact .inr h
      · exact .inr h
    · split at h
      · rename_i x y
        generalize hX : pev s x = X at h
        generalize hY : pev s y = Y at h
        rw [ea] at ho
        unfold vMM at h
        split at h
        · split at h
          · split at h
            · rename_i hk
              have hk := ikEq_ok hk
              subst hk
              exact .inl (vPut_still (still_max ho hX hY) h)
            · exact .inr h
          · exact .inr h
        · exact .inr h
      · exact .inr h
    · split at h
      · rename_i x y
        split at h
        · rename_i t t'
          split at h
          · rename_i hb
            have hb := Nat.eq_of_beq_eq_true hb
            subst hb
            split at h
            · rename_i ti hti
              obtain ⟨t1, t2⟩ := tlook_ok hTT hti
              rw [ea, et, ← t2] at ho
              exact vApp_ok hTT t1 ho h
            · exact .inr h
          · exact .inr h
        · exact .inr h
      · exact .inr h
    · split at h
      · rename_i x y
        split at h
        · rename_i t t'
          split at h
          · rename_i hb
            have hb := Nat.eq_of_beq_eq_true hb
            subst hb
            split at h
            · rename_i ti hti
              obtain ⟨t1, t2⟩ := tlook_ok hTT hti
              rw [ea, et, ← t2] at ho
              exact vCopy_ok t1 ho h
            · exact .inr h
          · exact .inr h
        · exact .inr h
      · exact .inr h
    · exact .inr h
  · rename_i x
    split at h
    · rename_i f hf
      have hf := fnOf_ok hf
      split at h
      · rcases valsG_ok (foL_eq h) with ⟨vs, hvs, h2⟩ | h2
        · obtain ⟨r, h3, h4⟩ := h2.h
          rw [ea] at ho
          exact .inl (vPut_still (still_ext ho hf hvs h3) h4)
        · exact .inr h2
      · split at h
        · exact .inr h
        · exact .inl (CallF.does (e := true) ho hf (foL_eq h))
        · exact .inl (CallF.does (e := false) ho hf (foL_eq h))
    · exact .inr h
  · exact .inr h
def isBoolT (TT : List TI) (t : TypeId) : Bool := match tlook TT t with
  | some ti => match ti.k with
    | .bool => true
    | _ => false
  | none => false
theorem isBoolT_ok {t : TypeId} (hTT : TOk P TT) (h : isBoolT TT t = true) : P.underlying t = some .bool := by
  unfold isBoolT at h
  split at h
  · rename_i ti hti
    obtain ⟨t1, t2⟩ := tlook_ok hTT hti
    have := t1.k
    split at h
    · rename_i hk; rw [hk] at this; rw [← t2]; exact this
    · cases h
  · cases h
def vOp (P : Program) (F : Fr) (TT : List TI) (X : List FuncId) (m : Md) (o : Oper) (s : St) (K : St → Prop) : Prop := match o.op with
  | .move x => fo (pev s x) fun p => vPut o.dst s p K
  | .assign x => fo (pev s x) fun p => vPut o.dst s p K
  | .pick c x y => match pev s c with
    | .val (.bool b) => ForkG b (fo (pev s x) fun p => vPut o.dst s p K) (fo (pev s y) fun p => vPut o.dst s p K)
    | _ => RawG (Sem P F m o s K)
  | .binOp op t x y _ => vBin (isBoolT TT t) op (pev s x) (pev s y) (fun p => vPut o.dst s p K) (RawG (Sem P F m o s K))
  | .unOp op _ x => vUn op (pev s x) (fun p => vPut o.dst s p K) (RawG (Sem P F m o s K))
  | .convert t t' x => match tlook TT t with
    | some a => match tlook TT t' with
      | some b => vCon a b (pev s x) (fun p => vPut o.dst s p K) (RawG (Sem P F m o s K))
      | none => RawG (Sem P F m o s K)
    | none => RawG (Sem P F m o s K)
  | .extract x i => match pev s x with
    | .tup l => match lget l i with
      | some p => fo p fun p => vPut o.dst s p K
      | none => RawG (Sem P F m o s K)
    | _ => RawG (Sem P F m o s K)
  | .load t x => match tlook TT t with
    | some ti => vLoad ti s (pev s x) fun p => vPut o.dst s p K
    | none => RawG (Sem P F m o s K)
  | .store t x y => match tlook TT t with
    | some ti => vStore ti m o.dst s (pev s x) (pev s y) K (RawG (Sem P F m o s K))
    | none => RawG (Sem P F m o s K)
  | .alloc t => match tlook TT t with
    | some ti => match m.mem with
      | true => vAlloc ti o.dst s K
      | false => RawG (Sem P F m o s K)
    | none => RawG (Sem P F m o s K)
  | .box t x => match m.mem with
    | true => vBox o.dst s (pev s x) K (RawG (Sem P F m o s K))
    | false => RawG (Sem P F m o s K)
  | .build t ps => match tlook TT t with
    | some ti => vBuild ti s ps.toList fun p => vPut o.dst s p K
    | none => RawG (Sem P F m o s K)
  | .buildSlice t n ps => match tlook TT t with
    | some ti => vLit TT ti m o.dst s n ps.toList K (RawG (Sem P F m o s K))
    | none => RawG (Sem P F m o s K)
  | .makeSlice t x y => match tlook TT t with
    | some ti => match o.dst with
      | some d => vMake TT ti m (some d) s (pev s x) (pev s y) K (RawG (Sem P F m o s K))
      | none => RawG (Sem P F m o s K)
    | none => RawG (Sem P F m o s K)
  | .slice t x lo hi mx => match tlook TT t with
    | some ti => vSlc ti s (pev s x) lo hi mx (fun p => vPut o.dst s p K) (RawG (Sem P F m o s K))
    | none => RawG (Sem P F m o s K)
  | .fieldAddr t x i => match tlook TT t with
    | some ti => match ti.k with
      | .str fs => vFa fs i (pev s x) fun p => vPut o.dst s p K
      | _ => RawG (Sem P F m o s K)
    | none => RawG (Sem P F m o s K)
  | .field t x i => match tlook TT t with
    | some ti => match ti.k with
      | .str fs => vField TT fs i (pev s x) fun p => vPut o.dst s p K
      | _ => RawG (Sem P F m o s K)
    | none => RawG (Sem P F m o s K)
  | .indexAddr t x y => match tlook TT t with
    | some ti => match pev s y with
      | .val (.int _ i) => vIdx F ti s (pev s x) i fun p => vPut o.dst s p K
      | _ => RawG (Sem P F m o s K)
    | none => RawG (Sem P F m o s K)
  | .index t x y => match tlook TT t with
    | some ti => match pev s y with
      | .val (.int _ i) => vIndex TT ti (pev s x) i (fun p => vPut o.dst s p K) (RawG (Sem P F m o s K))
      | _ => RawG (Sem P F m o s K)
    | none => RawG (Sem P F m o s K)
  | .call c => vCall P F TT X m o.dst s c K (RawG (Sem P F m o s K))
  | _ => RawG (Sem P F m o s K)
theorem Sem.of (h : Sv P F o s (fun p => vPut o.dst s p K) ∨ RawG (Sem P F m o s K)) : Sem P F m o s K := by
  rcases h with h | h
  · exact h.sem
  · exact h.h
theorem Sem.of' (h : Sem P F m o s K ∨ RawG (Sem P F m o s K)) : Sem P F m o s K := by
  rcases h with h | h
  · exact h
  · exact h.h
theorem vOp_ok (hTT : TOk P TT) (h : vOp P F TT X m o s K) : Sem P F m o s K := by
  unfold vOp at h
  split at h
  · rename_i ho; exact vPut_still (still_move ho) (fo_eq h)
  · rename_i ho; exact vPut_still (still_assign ho) (fo_eq h)
  · rename_i ho
    split at h
    · rename_i b hx
      cases b with
      | true => exact vPut_still (by simpa using still_pick ho hx) (fo_eq (h.t rfl))
      | false => exact vPut_still (by simpa using still_pick ho hx) (fo_eq (h.f rfl))
    · exact h.h
  · rename_i ho; exact Sem.of (vBin_ok ho (isBoolT_ok hTT) h)
  · rename_i ho; exact Sem.of (vUn_ok ho h)
  · rename_i ho
    split at h
    · rename_i a ha
      split at h
      · rename_i b hb
        obtain ⟨a1, a2⟩ := tlook_ok hTT ha
        obtain ⟨b1, b2⟩ := tlook_ok hTT hb
        subst a2 b2
        exact Sem.of (vCon_ok a1 b1 ho h)
      · exact h.h
    · exact h.h
  · rename_i ho
    split at h
    · rename_i l hx
      split at h
      · rename_i p hp
        rw [lget_eq] at hp
        exact vPut_still (still_extract ho hx hp) (fo_eq h)
      · exact h.h
    · exact h.h
  · rename_i ho
    split at h
    · rename_i ti hti
      obtain ⟨t1, t2⟩ := tlook_ok hTT hti
      subst t2
      exact (vLoad_ok t1 ho h).sem
    · exact h.h
  · rename_i ho
    split at h
    · rename_i ti hti
      obtain ⟨t1, t2⟩ := tlook_ok hTT hti
      subst t2
      exact Sem.of' (vStore_ok t1 ho h)
    · exact h.h
  · rename_i ho
    split at h
    · rename_i ti hti
      obtain ⟨t1, t2⟩ := tlook_ok hTT hti
      subst t2
      split at h
      · rename_i hm; exact vAlloc_ok hm t1 ho h
      · exact h.h
    · exact h.h
  · rename_i ho
    split at h
    · rename_i hm; exact Sem.of' (vBox_ok hm ho h)
    · exact h.h
  · rename_i ho
    split at h
    · rename_i ti hti
      obtain ⟨t1, t2⟩ := tlook_ok hTT hti
      subst t2
      exact (vBuild_ok t1 ho h).sem
    · exact h.h
  · rename_i ho
    split at h
    · rename_i ti hti
      obtain ⟨t1, t2⟩ := tlook_ok hTT hti
      subst t2
      exact Sem.of' (vLit_ok hTT t1 ho h)
    · exact h.h
  · rename_i ho
    split at h
    · rename_i ti hti
      obtain ⟨t1, t2⟩ := tlook_ok hTT hti
      subst t2
      split at h
      · rename_i d hd
        rw [← hd] at h
        exact Sem.of' (vMake_ok hTT t1 ho (by simp [hd]) h)
      · exact h.h
    · exact h.h
  · rename_i ho
    split at h
    · rename_i ti hti
      obtain ⟨t1, t2⟩ := tlook_ok hTT hti
      subst t2
      exact Sem.of (vSlc_ok t1 ho h)
    · exact h.h
  · rename_i ho
    split at h
    · rename_i ti hti
      obtain ⟨t1, t2⟩ := tlook_ok hTT hti
      subst t2
      have tk := t1.k
      split at h
      · rename_i hk
        rw [hk] at tk
        exact (vFa_ok tk ho h).sem
      · exact h.h
    · exact h.h
  · rename_i ho
    split at h
    · rename_i ti hti
      obtain ⟨t1, t2⟩ := tlook_ok hTT hti
      subst t2
      have tk := t1.k
      split at h
      · rename_i hk
        rw [hk] at tk
        exact (vField_ok hTT tk ho h).sem
      · exact h.h
    · exact h.h
  · rename_i ho
    split at h
    · rename_i ti hti
      obtain ⟨t1, t2⟩ := tlook_ok hTT hti
      subst t2
      split at h
      · rename_i hy; exact (vIdx_ok t1 ho hy h).sem
      · exact h.h
    · exact h.h
  · rename_i ho
    split at h
    · rename_i ti hti
      obtain ⟨t1, t2⟩ := tlook_ok hTT hti
      subst t2
      split at h
      · rename_i hy; exact Sem.of (vIndex_ok hTT t1 ho hy h)
      · exact h.h
    · exact h.h
  · rename_i ho; exact Sem.of' (vCall_ok hTT ho h)
  · exact h.h
end
section
variable {P : Program} {F : Fr} {TT : List TI} {X : List FuncId} {m : Md} {o : Oper} {s : St} {K : St → Prop} {p q : PV}
def okM (r : Rg) (m : Md) (o : Oper) : Prop := match m with
  | .S => r.okS o
  | .E => r.okE o
  | .L => r.okL o
def okAll (r : Rg) : List (Oper × Md) → Prop
  | [] => r.fin
  | (o, m) :: l => okM r m o ∧ okAll r.next l
theorem Ops.sem {r : Rg} {rest : List Oper} (h : Sem P F m o s fun s' => Ops P F r.next rest s' K) (hw : pwant r.ops s o = some true) (hm : okM r m o) : Ops P F r (o :: rest) s K := by
  cases m with
  | S => obtain ⟨p, h1, h2, h3⟩ := h; exact Ops.stillS h1 hw h2 hm h3
  | E => exact Ops.step (e := true) h hw hm
  | L => exact Ops.step (e := false) h hw hm
theorem Ops.offM {r : Rg} {rest : List Oper} (hw : pwant r.ops s o = some false) (hd : s.fits o.dst = true) (hm : okM r m o) (h : Ops P F r.next rest (s.put o.dst (.val undef)) K) : Ops P F r (o :: rest) s K := by
  cases m with
  | S => exact Ops.off hw hd hm h
  | E =>
    obtain ⟨arr, dr⟩ := r
    cases dr with
    | none => exact Ops.off hw hd trivial h
    | some d =>
      intro Q c a w hi hq hp f hl
      obtain ⟨plan, listed⟩ := d
      match plan, hm with
      | (i :: is) :: r, ⟨h1, h2⟩ =>
        have hl' : (Dr.left ⟨is :: r, listed.setIfInBounds i true⟩) + 1 ≤ f := by
          simp [Dr.left] at hl ⊢; omega
        obtain ⟨f, rfl⟩ : ∃ g, f = g + 1 := ⟨f - 1, by omega⟩
        have e1 := sole_ok h2
        refine .inr ⟨by rw [e1]; simp, fun j hj => ?_⟩
        rw [e1] at hj
        obtain rfl : j = i := by simpa using hj
        unfold wpOp
        simp only [h1]
        rw [pwant_ok hi hw, if_neg (by simp)]
        exact ⟨Ext.refl w, h Q c _ w (hi.put hd (.val undef)) hq hp f (by simpa [Rg.next, Dr.next] using Nat.le_of_succ_le_succ hl')⟩
  | L =>
    obtain ⟨arr, dr⟩ := r
    cases dr with
    | none => exact Ops.off hw hd trivial h
    | some d =>
      intro Q c a w hi hq hp f hl
      obtain ⟨plan, listed⟩ := d
      match plan, hm with
      | [] :: (i :: is) :: r, ⟨h1, h2⟩ =>
        have hl' : (Dr.left ⟨is :: r, listed.setIfInBounds i true⟩) + 1 ≤ f := by
          simp [Dr.left] at hl ⊢; omega
        obtain ⟨f, rfl⟩ : ∃ g, f = g + 1 := ⟨f - 1, by omega⟩
        have e1 := sole_ok h2
        refine .inl ⟨rfl, ?_⟩
        show wpAny P .any arr Q (f + 1) listed a w
        refine ⟨fun e => (by rw [e1] at e; cases e), fun j hj => ?_⟩
        rw [e1] at hj
        obtain rfl : j = i := by simpa using hj
        unfold wpOp
        simp only [h1]
        rw [pwant_ok hi hw, if_neg (by simp)]
        exact wpAnyE.any _ _ _ _ (h Q c _ w (hi.put hd (.val undef)) hq hp f (by simpa [Rg.next, Dr.next] using Nat.le_of_succ_le_succ hl'))
def vG (all : List Oper) (o : Oper) (s : St) (on off : St → Prop) : Prop := match o.guard with
  | none => on s
  | some (j, want) => match lget all j with
    | some oj => match oj.dst with
      | some d => match s with
        | ⟨N, t, bx, ob⟩ => match t d with
          | .val (.bool b) => match want with
            | true => ForkG b (on ⟨N, upd t d (.val (.bool true)), bx, ob⟩) (off ⟨N, upd t d (.val (.bool false)), bx, ob⟩)
            | false => ForkG b (off ⟨N, upd t d (.val (.bool true)), bx, ob⟩) (on ⟨N, upd t d (.val (.bool false)), bx, ob⟩)
          | .val (.tuple _) => off ⟨N, t, bx, ob⟩
          | _ => False
      | none => False
    | none => False
def vL (P : Program) (F : Fr) (TT : List TI) (X : List FuncId) (all : List Oper) (l : List (Oper × Md)) (s : St) (K : St → Prop) : Prop := match l with
  | [] => K s
  | x :: l => match x with
    | (o, m) => vG all o s (fun s => vOp P F TT X m o s fun s => vL P F TT X all l s K) (fun s => vPut o.dst s (.val undef) fun s => vL P F TT X all l s K)
theorem vL_ok (hTT : TOk P TT) : ∀ {all : List Oper} {l : List (Oper × Md)} {r : Rg} {s : St}, okAll r l → r.ops = all.toArray → vL P F TT X all l s K → Ops P F r (l.map Prod.fst) s K
  | all, [], r, s, hr, _, h => Ops.nil h hr
  | all, (o, m) :: l, r, s, hr, ha, h => by
    obtain ⟨h1, h2⟩ := hr
    have on : ∀ s', pwant r.ops s' o = some true → vOp P F TT X m o s' (fun s => vL P F TT X all l s K) → Ops P F r (o :: l.map Prod.fst) s' K := by
      intro s' hw hv
      refine Ops.sem ?_ hw h1
      have := vOp_ok hTT hv
      refine (?_ : ∀ K' : St → Prop, (∀ s, vL P F TT X all l s K → K' s) → Sem P F m o s' K') _ fun s'' hs => vL_ok hTT h2 ha hs
      intro K' hk
      cases m with
      | S => obtain ⟨p, a, b, c⟩ := this; exact ⟨p, a, b, hk _ c⟩
      | E => exact fun Q c a w hi => Oper.wp_mono (fun a' w' ⟨c', s', x, y, z⟩ => ⟨c', s', x, hk _ y, z⟩) (this Q c a w hi)
      | L => exact fun Q c a w hi => Oper.wp_mono (fun a' w' ⟨c', s', x, y, z⟩ => ⟨c', s', x, hk _ y, z⟩) (this Q c a w hi)
    have off : ∀ s', pwant r.ops s' o = some false → vPut o.dst s' (.val undef) (fun s => vL P F TT X all l s K) → Ops P F r (o :: l.map Prod.fst) s' K := by
      intro s' hw hv
      obtain ⟨e1, e2⟩ := vPut_ok hv
      exact Ops.offM hw e1 h1 (vL_ok hTT h2 ha e2)
    simp only [vL, vG] at h
    simp only [List.map_cons]
    cases hg : o.guard with
    | none =>
      simp only [hg] at h
      exact on s (by simp [pwant, hg]) h
    | some jw =>
      obtain ⟨j, want⟩ := jw
      obtain ⟨N, t, bx, ob⟩ := s
      cases hoj : lget all j with
      | none => simp [hg, hoj] at h
      | some oj =>
      cases hd : oj.dst with
      | none => simp [hg, hoj, hd] at h
      | some d =>
      simp only [hg, hoj, hd] at h
      rw [lget_eq] at hoj
      have hj : (r.ops[j]?).bind (·.dst) = some d := by rw [ha]; simp [hoj, hd]
      have pw : ∀ c, pwant r.ops ⟨N, upd t d (.val (.bool c)), bx, ob⟩ o = some (c == want) := by
        intro c
        simp [pwant, hg, hj, upd_same]
      have key : ∀ (b : Bool) (A B : St → Prop), t d = .val (.bool b) → ForkG b (A ⟨N, upd t d (.val (.bool true)), bx, ob⟩) (B ⟨N, upd t d (.val (.bool false)), bx, ob⟩) → (∀ s', s' = (⟨N, upd t d (.val (.bool true)), bx, ob⟩ : St) → A s' → Ops P F r (o :: l.map Prod.fst) s' K) → (∀ s', s' = (⟨N, upd t d (.val (.bool false)), bx, ob⟩ : St) → B s' → Ops P F r (o :: l.map Prod.fst) s' K) → Ops P F r (o :: l.map Prod.fst) ⟨N, t, bx, ob⟩ K := by
        intro b A B hb hf hA hB
        exact Ops.guard (s := ⟨N, t, bx, ob⟩) hg hj hb (fun e => hA _ rfl (hf.t e)) (fun e => hB _ rfl (hf.f e))
      generalize htd : t d = y at h
      cases y with
      | val v =>
        cases v with
        | bool b =>
          cases want with
          | true => exact key b _ _ htd h (fun s' e h => on s' (by rw [e, pw]; rfl) h) (fun s' e h => off s' (by rw [e, pw]; rfl) h)
          | false => exact key b _ _ htd h (fun s' e h => off s' (by rw [e, pw]; rfl) h) (fun s' e h => on s' (by rw [e, pw]; rfl) h)
        | tuple vs => exact off _ (by simp [pwant, hg, hj, htd]) h
        | _ => exact (show False from h).elim
      | _ => exact (show False from h).elim
def kind (X : List FuncId) (o : Oper) : Md := match o.op with
  | .store _ _ _ => .L
  | .alloc _ => .E
  | .box _ _ => .E
  | .makeSlice _ _ _ => .E
  | .buildSlice _ _ _ => .E
  | .call c => match c.callee with
    | .builtin b => match b with
      | .append => .L
      | .copy => .L
      | .clear => .L
      | _ => .S
    | .value (.const v) => .E
    | .value (.func f) => match memX X f with
      | true => .S
      | false => .E
    | _ => .E
  | _ => .S
def hdI (r : Rg) : Option Nat := match r.dr with
  | none => none
  | some d => match d.plan with
    | (i :: _) :: _ => some i
    | [] :: (i :: _) :: _ => some i
    | _ => none
def okB (m : Md) (r : Rg) : Bool := match r.dr with
  | none => true
  | some d => match m with
    | .S => match d.plan with
      | (i :: is) :: _ => chkS r.ops d.listed i is
      | [] :: (i :: _) :: _ => chkP r.ops d.listed i && (match r.ops[i]? with
        | some o => pureO o
        | none => false)
      | _ => false
    | .E => match d.plan with
      | (i :: _) :: _ => sole r.ops d.listed i
      | _ => false
    | .L => match d.plan with
      | [] :: (i :: _) :: _ => sole r.ops d.listed i
      | _ => false
def chkR (X : List FuncId) (ops : List Oper) (r : Rg) : List Nat → Bool
  | [] => match r.dr with
    | some d => (match d.plan with
      | [[]] => true
      | _ => false) && (Region.ready .any r.ops d.listed).isEmpty
    | none => true
  | i :: is => (hdI r == some i) && Nat.blt i ops.length && okB (kind X (nthO ops i)) r && chkR X ops r.next is
theorem nthO_get : ∀ {l : List Oper} {i : Nat}, i < l.length → l[i]? = some (nthO l i)
  | [], i, h => by simp at h
  | o :: l, 0, h => rfl
  | o :: l, i + 1, h => by simpa [nthO] using nthO_get (l := l) (i := i) (by simpa using h)
theorem chkR_ok {ops : List Oper} : ∀ {is : List Nat} {r : Rg}, r.ops = ops.toArray → chkR X ops r is = true → okAll r (is.map fun i => (nthO ops i, kind X (nthO ops i)))
  | [], r, ha, h => by
    obtain ⟨arr, dr⟩ := r
    cases dr with
    | none => trivial
    | some d =>
      simp only [chkR, Bool.and_eq_true] at h
      obtain ⟨h1, h2⟩ := h
      split at h1
      · rename_i hp; exact ⟨hp, by simpa using h2⟩
      · cases h1
  | i :: is, r, ha, h => by
    simp only [chkR, Bool.and_eq_true] at h
    obtain ⟨⟨⟨h1, h2⟩, h3⟩, h4⟩ := h
    refine ⟨?_, chkR_ok (r := r.next) ha h4⟩
    have hi : i < ops.length := by simpa using h2
    have hget : r.ops[i]? = some (nthO ops i) := by rw [ha]; simpa using nthO_get hi
    have h1 : hdI r = some i := by simpa using h1
    obtain ⟨arr, dr⟩ := r
    generalize hmd : kind X (nthO ops i) = md at h3 ⊢
    simp only [okM]
    cases dr with
    | none => cases md <;> trivial
    | some d =>
      obtain ⟨plan, listed⟩ := d
      cases md <;> simp only [okB] at h3 <;> simp only [hdI] at h1
      · split at h3
        · simp only at h1
          cases h1
          exact ⟨hget, h3⟩
        · simp only at h1
          cases h1
          simp only [hget, Bool.and_eq_true] at h3
          exact ⟨hget, h3.1, h3.2⟩
        · cases h3
      · split at h3
        · simp only at h1
          cases h1
          exact ⟨hget, h3⟩
        · cases h3
      · split at h3
        · simp only at h1
          cases h1
          exact ⟨hget, h3⟩
        · cases h3
def mkQ (kn kr : St → Prop) (kx : Nat → St → Prop) : Exit → St → Prop
  | .normal, s => kn s
  | .ret, s => kr s
  | .exit i, s => kx i s
  | _, _ => False
structure LoopG (P : Program) (F : Fr) (TT : List TI) (X : List FuncId) (c : Code) (kr : St → Prop) (kx : Nat → St → Prop) (s : St) : Prop where
  h : Cd P F (.loop c) s (mkQ (fun _ => False) kr kx)
structure DrawG (P : Program) (F : Fr) (TT : List TI) (X : List FuncId) (id : Nat) (ops : List Oper) (s : St) (K : St → Prop) : Prop where
  h : Cd P F (.region id ops.toArray true) s (mkQ K (fun _ => False) (fun _ _ => False))
def vC (P : Program) (F : Fr) (TT : List TI) (X : List FuncId) (c : Code) (kn kr : St → Prop) (kx : Nat → St → Prop) (s : St) : Prop := match c with
  | .skip => kn s
  | .region id ops draw => match draw with
    | false => vL P F TT X ops.toList (ops.toList.map fun o => (o, .L)) s kn
    | true => DrawG P F TT X id ops.toList s kn
  | .seq a b => vC P F TT X a (fun s => vC P F TT X b kn kr kx s) kr kx s
  | .cond c x y => match pev s c with
    | .val (.bool b) => ForkG b (vC P F TT X x kn kr kx s) (vC P F TT X y kn kr kx s)
    | _ => False
  | .block id c => vC P F TT X c kn kr (fun i s => match Nat.beq i id with
    | true => kn s
    | false => kx i s) s
  | .loop c => LoopG P F TT X c kr kx s
  | .exit id => kx id s
  | .ret => kr s
  | .label _ => kn s
  | .scope c => vC P F TT X c kn kr kx s
  | _ => False
theorem Cd.label {l : Nat} {Q : Exit → St → Prop} (h : Q .normal s) : Cd P F (.label l) s Q := fun cx a w hi => wp_label ⟨cx, s, hi, h⟩
theorem Cd.scope {c : Code} {Q : Exit → St → Prop} (h : Cd P F c s Q) (hg : ∀ l s, ¬ Q (.goto l) s) : Cd P F (.scope c) s Q := fun cx a w hi => wp_scope_straight (wp_mono (h cx a w hi) (by
  rintro e a' w' ⟨cx', s', hi', hq⟩
  cases e with
  | goto l => exact absurd hq (hg _ _)
  | _ => exact ⟨cx', s', hi', hq⟩))
theorem okAll_text {arr : Array Oper} : ∀ l : List Oper, okAll ⟨arr, none⟩ (l.map fun o => (o, .L))
  | [] => trivial
  | _ :: l => ⟨trivial, okAll_text l⟩
theorem vC_ok (hTT : TOk P TT) : ∀ {c : Code} {kn kr : St → Prop} {kx : Nat → St → Prop} {s : St}, vC P F TT X c kn kr kx s → Cd P F c s (mkQ kn kr kx) := by
  intro c
  induction c with
  | skip => intro kn kr kx s h; exact Cd.skip h
  | region id ops draw =>
    intro kn kr kx s h
    cases draw with
    | false =>
      have h2 := vL_ok (r := ⟨ops, none⟩) hTT (okAll_text ops.toList) (by simp) h
      have e : (ops.toList.map fun o => (o, Md.L)).map Prod.fst = ops.toList := by simp [Function.comp_def]
      rw [e] at h2
      have e2 : ops.toList.toArray = ops := by simp
      have h3 := Cd.region (id := id) (l := ops.toList) (Q := mkQ kn kr kx) (by rw [e2]; exact h2)
      rw [e2] at h3
      exact h3
    | true =>
      have h2 : DrawG P F TT X id ops.toList s kn := h
      have h3 := h2.h
      simp only [Array.toArray_toList] at h3
      exact h3.mono fun e s hq => by cases e <;> first | exact hq | exact hq.elim
  | seq a b iha ihb =>
    intro kn kr kx s h
    refine Cd.seq ((iha h).mono fun e s hq => ?_)
    cases e with
    | normal => exact ihb hq
    | _ => exact hq
  | cond c x y ihx ihy =>
    intro kn kr kx s h
    simp only [vC] at h
    split at h
    · rename_i b hb
      exact Cd.cond hb (fun e => ihx (h.t e)) (fun e => ihy (h.f e))
    · cases h
  | block id c ih =>
    intro kn kr kx s h
    refine Cd.block ((ih h).mono fun e s hq => ?_)
    cases e with
    | exit i =>
      simp only [mkQ] at hq
      simp only [blk]
      split at hq
      · rename_i hb; rw [if_pos (Nat.eq_of_beq_eq_true hb)]; exact hq
      · rename_i hb; rw [if_neg (beq_ne hb)]; exact hq
    | _ => exact hq
  | loop c ih =>
    intro kn kr kx s h
    have h2 : LoopG P F TT X c kr kx s := h
    exact h2.h.mono fun e s hq => by cases e <;> first | exact hq | exact hq.elim
  | label l => intro kn kr kx s h; exact Cd.label h
  | scope c ih => intro kn kr kx s h; exact Cd.scope (ih h) (fun _ _ h => h)
  | exit id => intro kn kr kx s h; exact Cd.exit h
  | ret => intro kn kr kx s h; exact Cd.ret h
  | _ => intro kn kr kx s h; exact (show False from h).elim
theorem draw_g {id : Nat} {ops : List Oper} (plan : List (List Nat)) (hTT : TOk P TT) (hm : P.follows .mixedOrders = true) (hc : chkR X ops (Rg.begin ops.toArray plan) plan.flatten = true) (h : vL P F TT X ops (plan.flatten.map fun i => (nthO ops i, kind X (nthO ops i))) s K) : DrawG P F TT X id ops s K := by
  refine ⟨?_⟩
  intro cx a w hi
  have hi' : Inv F cx s a { w with drawn := w.drawn + 1 } := ⟨hi.W.grow fun _ _ => rfl, hi.nd, hi.sz, hi.tm, hi.kp.drew, hi.rho, hi.new, hi.obp, hi.obB, hi.bbB⟩
  have hle : plan.flatten.length ≤ ops.length := by
    have key : ∀ (is : List Nat) (r : Rg), chkR X ops r is = true → ∀ d, r.dr = some d → d.listed.size = ops.length → is.length + d.listed.toList.count true ≤ ops.length := by
      intro is
      induction is with
      | nil =>
        intro r hr d hd hs
        have := List.count_le_length (a := true) (l := d.listed.toList)
        simp at this ⊢; omega
      | cons i is ih =>
        intro r hr d hd hs
        obtain ⟨arr, dr⟩ := r
        obtain rfl : dr = some d := hd
        obtain ⟨pl, listed⟩ := d
        simp only [chkR, Bool.and_eq_true] at hr
        obtain ⟨⟨⟨h1, h2⟩, h3⟩, h4⟩ := hr
        have h1 : hdI ⟨arr, some ⟨pl, listed⟩⟩ = some i := by simpa using h1
        have hun : i ∈ Region.ready .any arr listed ∧ (Dr.next ⟨pl, listed⟩).listed = listed.setIfInBounds i true := by
          simp only [hdI] at h1
          split at h1
          · rename_i j is' r' hp
            cases h1
            refine ⟨?_, rfl⟩
            generalize kind X (nthO ops i) = md at h3
            cases md <;> simp only [okB] at h3
            · simp only [chkS, Bool.and_eq_true] at h3
              simpa using h3.1.1.2
            · rw [sole_ok h3]; simp
            · cases h3
          · rename_i j is' r' hp
            cases h1
            refine ⟨?_, rfl⟩
            generalize kind X (nthO ops i) = md at h3
            cases md <;> simp only [okB] at h3
            · simp only [chkP, Bool.and_eq_true] at h3
              simpa using h3.1.2
            · cases h3
            · rw [sole_ok h3]; simp
          · cases h1
        obtain ⟨hr1, hr2⟩ := hun
        have hg := (mem_ready.1 hr1).1
        have hi2 : i < listed.size := by
          rcases Nat.lt_or_ge i listed.size with h' | h'
          · exact h'
          · simp [Array.getElem?_eq_none h'] at hg
        have h5 := ih ⟨arr, some (Dr.next ⟨pl, listed⟩)⟩ h4 _ rfl (by rw [hr2]; simpa using hs)
        rw [hr2] at h5
        have h6 : listed[i] = false := by simpa [hi2] using hg
        have h7 : (listed.setIfInBounds i true).toList.count true = listed.toList.count true + 1 := by
          rw [Array.toList_setIfInBounds, List.count_set (by simpa using hi2)]
          simp [h6]
        rw [h7] at h5
        simp only [List.length_cons]
        omega
    have h8 := key _ _ hc ⟨plan, Array.replicate ops.length false⟩ (by simp [Rg.begin]) (by simp)
    omega
  have h0 := vL_ok (r := Rg.begin ops.toArray plan) hTT (chkR_ok rfl hc) rfl h
  have h1 := h0 (fun e a w => e = .normal ∧ ∃ cx' s', Inv F cx' s' a w ∧ K s') cx a _ hi' (fun c' s' a' w' hi' hk => ⟨rfl, c', s', hi', hk⟩) (fun cc a w hq => by cases hq.1) ops.toArray.size (by simpa [Rg.begin, Dr.left, List.length_flatten] using hle)
  refine wp_mono (wp_region_any hm (wpAnyE.any _ _ _ _ h1)) ?_
  rintro e a' w' ⟨rfl, cx', s', hi'', hq⟩
  exact ⟨cx', s', hi'', hq⟩
def tab (l : List (Nat × PV)) (x : Nat) : PV := match l with
  | [] => .any
  | y :: l => match y with
    | (d, p) => match Nat.beq x d with
      | true => p
      | false => tab l x
structure Weak (s : St) (N : Nat) (S : List (Nat × PV)) (B : List (List PV)) (O : List (Option Row)) : Prop where
  n : s.n = N
  h : hold S s.t
  b : ∃ e, s.bx = B ++ e
  o : ∃ e, s.ob = O ++ e
theorem hold_get {S : List (Nat × PV)} {t : Nat → PV} (h : hold S t) (x : Nat) : tab S x = t x ∨ tab S x = .any := by
  induction S with
  | nil => exact .inr rfl
  | cons y S ih =>
    obtain ⟨d, p⟩ := y
    obtain ⟨h1, h2⟩ := h
    simp only [tab]
    cases hb : Nat.beq x d with
    | true => have := Nat.eq_of_beq_eq_true hb; subst this; exact .inl h1.symm
    | false => exact ih h2
mutual
def inB (b o : Nat) : PV → Prop
  | .ptr i _ => i < b
  | .arr q _ _ => q < o
  | .ead q _ => q < o
  | .agg l => inBL b o l
  | .tup l => inBL b o l
  | _ => True
def inBL (b o : Nat) : List PV → Prop
  | [] => True
  | p :: l => inB b o p ∧ inBL b o l
end
theorem getElem?_app {α : Type} {l e : List α} {i : Nat} (h : i < l.length) : (l ++ e)[i]? = l[i]? := List.getElem?_append_left h
mutual
theorem Rep.cutC {c : Cx} {b o : Nat} : ∀ {p : PV} {v : Value}, Rep c p v → inB b o p → Rep ⟨c.ρ, c.bb.take b, c.ob.take o⟩ p v
  | _, _, .val v, _ => .val v
  | _, _, .nil, _ => .nil
  | _, _, .ws h1 h2 h4, _ => .ws h1 h2 h4
  | _, _, .sl h0 h1 h2 h3 h4, _ => .sl h0 h1 h2 h3 h4
  | _, _, .fs h0 h1 h2 h3 h4, _ => .fs h0 h1 h2 h3 h4
  | _, _, .cw h0 h4, _ => .cw h0 h4
  | _, _, .cf h1 h3 h4, _ => .cf h1 h3 h4
  | _, _, .emp, _ => .emp
  | _, _, .cel h3 h4, _ => .cel h3 h4
  | _, _, .any v, _ => .any v
  | _, _, .agg h, k => .agg (RepL.cutC h (by simpa [inB] using k))
  | _, _, .tup h, k => .tup (RepL.cutC h (by simpa [inB] using k))
  | _, _, .ptr (b := i) h, k => .ptr (by simp only [inB] at k; rw [List.getElem?_take, if_pos k]; exact h)
  | _, _, .arr (o := i) h h0 h2 h3 h4, k => .arr (by simp only [inB] at k; rw [List.getElem?_take, if_pos k]; exact h) h0 h2 h3 h4
  | _, _, .ead (o := i) h, k => .ead (by simp only [inB] at k; rw [List.getElem?_take, if_pos k]; exact h)
theorem RepL.cutC {c : Cx} {b o : Nat} : ∀ {l : List PV} {us : List Value}, RepL c l us → inBL b o l → RepL ⟨c.ρ, c.bb.take b, c.ob.take o⟩ l us
  | _, _, .nil, _ => .nil
  | _, _, .cons h t, k => .cons (Rep.cutC h k.1) (RepL.cutC t k.2)
end
def inS (b o : Nat) : List (Nat × PV) → Prop
  | [] => True
  | (_, p) :: S => inB b o p ∧ inS b o S
def inBB (b o : Nat) : List (List PV) → Prop
  | [] => True
  | l :: B => inBL b o l ∧ inBB b o B
theorem inBB_get {b o : Nat} : ∀ {B : List (List PV)} {i : Nat} {l : List PV}, inBB b o B → B[i]? = some l → inBL b o l
  | [], i, l, _, h => by simp at h
  | m :: B, 0, l, k, h => by simp at h; subst h; exact k.1
  | m :: B, i + 1, l, k, h => inBB_get k.2 (by simpa using h)
theorem inS_get {b o : Nat} : ∀ {S : List (Nat × PV)} (x : Nat), inS b o S → inB b o (tab S x)
  | [], x, _ => by simp [tab, inB]
  | (d, p) :: S, x, k => by
    simp only [tab]
    cases Nat.beq x d with
    | true => exact k.1
    | false => exact inS_get x k.2
theorem Inv.weak {c : Cx} {a : Act} {w : World} {N : Nat} {S : List (Nat × PV)} {B : List (List PV)} {O : List (Option Row)} (hi : Inv F c s a w) (hw : Weak s N S B O) (h1 : inS B.length O.length S) (h2 : inBB B.length O.length B) (h0 : F.c0.ob.length ≤ O.length) :
    Inv F ⟨c.ρ, c.bb.take B.length, c.ob.take O.length⟩ ⟨N, tab S, B, O⟩ a w := by
  obtain ⟨hn, hh, ⟨e1, hb⟩, ⟨e2, ho⟩⟩ := hw
  have gb : ∀ {i g : Nat}, (c.bb.take B.length)[i]? = some g → i < B.length ∧ c.bb[i]? = some g := by
    intro i g h
    rw [List.getElem?_take] at h
    split at h
    · rename_i hlt; exact ⟨hlt, h⟩
    · cases h
  have go : ∀ {i : Nat} {x : Ob}, (c.ob.take O.length)[i]? = some x → i < O.length ∧ c.ob[i]? = some x := by
    intro i x h
    rw [List.getElem?_take] at h
    split at h
    · rename_i hlt; exact ⟨hlt, h⟩
    · cases h
  have so : ∀ {i : Nat} {r : Option Row}, O[i]? = some r → s.ob[i]? = some r := fun h => by rw [ho, getElem?_app (List.getElem?_eq_some_iff.1 h).1]; exact h
  have sb : ∀ {i : Nat} {l : List PV}, B[i]? = some l → s.bx[i]? = some l := fun h => by rw [hb, getElem?_app (List.getElem?_eq_some_iff.1 h).1]; exact h
  have hbl := hi.W.bl
  have hol := hi.W.ol
  rw [hb] at hbl; rw [ho] at hol
  simp only [List.length_append] at hbl hol
  refine ⟨⟨hi.W.mem, by simp; omega, by simp; omega, fun i l hl => ?_, fun i r hr => ?_, fun i j g a b => hi.W.nb i j g (gb a).2 (gb b).2, fun i j x y l m hl hm hx hy e => hi.W.no i j x y l m (so hl) (so hm) (go hx).2 (go hy).2 e, fun i x l hl hx hm => hi.W.nbo i x l (so hl) (go hx).2 (List.mem_of_mem_take hm), fun ad u hu hm => hi.W.sb ad u hu (List.mem_of_mem_take hm), fun ad u i x l hu hl hx => hi.W.so ad u i x l hu (so hl) (go hx).2⟩, hi.nd, by rw [← hn]; exact hi.sz, fun x => ?_, hi.kp, hi.rho, hi.new, fun i x hx => ?_, fun i x hl hx => hi.obB i x hl (go hx).2, fun g hg => hi.bbB g (List.mem_of_mem_take hg)⟩
  · obtain ⟨g, us, T, a1, a2, a3⟩ := hi.W.box i l (sb hl)
    have hlt := (List.getElem?_eq_some_iff.1 hl).1
    exact ⟨g, us, T, by rw [List.getElem?_take, if_pos hlt]; exact a1, a2, a3.cutC (inBB_get h2 hl)⟩
  · obtain ⟨x, us, a1, a2⟩ := hi.W.obj i r (so hr)
    have hlt := (List.getElem?_eq_some_iff.1 hr).1
    exact ⟨x, us, by rw [List.getElem?_take, if_pos hlt]; exact a1, a2⟩
  · show Rep _ (tab S x) _
    rcases hold_get hh x with h | h
    · have := inS_get x h1
      rw [h] at this ⊢
      exact (hi.tm x).cutC this
    · rw [h]; exact .any _
  · have := (List.getElem?_eq_some_iff.1 hx).1
    have h3 := hi.obp i x hx
    rw [List.getElem?_take, if_pos (by omega)]
    exact h3
structure Again {A : Type} (I : A → Prop) (μ : A → Nat) (N : Nat) (S : A → List (Nat × PV)) (B : A → List (List PV)) (O : A → List (Option Row)) (n : Nat) (s : St) : Prop where
  h : ∃ y, I y ∧ μ y < n ∧ Weak s N (S y) (B y) (O y)
theorem again {A : Type} {I : A → Prop} {μ : A → Nat} {N n : Nat} {S : A → List (Nat × PV)} {B : A → List (List PV)} {O : A → List (Option Row)} {t : Nat → PV} {bx : List (List PV)} {ob : List (Option Row)} (y : A) (h1 : I y) (h2 : μ y < n) (h3 : hold (S y) t) (hb : ∃ e, bx = B y ++ e) (ho : ∃ e, ob = O y ++ e) : Again I μ N S B O n ⟨N, t, bx, ob⟩ :=
  ⟨y, h1, h2, ⟨rfl, h3, hb, ho⟩⟩
theorem loop_g {A : Type} {c : Code} {kr : St → Prop} {kx : Nat → St → Prop} {N : Nat} {t : Nat → PV} {bx : List (List PV)} {ob : List (Option Row)} (I : A → Prop) (μ : A → Nat) (S : A → List (Nat × PV)) (B : A → List (List PV)) (O : A → List (Option Row)) (x0 : A) (hTT : TOk P TT) (hin : ∀ x, inS (B x).length (O x).length (S x) ∧ inBB (B x).length (O x).length (B x) ∧ F.c0.ob.length ≤ (O x).length)
    (h0 : I x0) (ht : hold (S x0) t) (hb : ∃ e, bx = B x0 ++ e) (ho : ∃ e, ob = O x0 ++ e) (round : ∀ x, I x → vC P F TT X c (Again I μ N S B O (μ x)) kr kx ⟨N, tab (S x), B x, O x⟩) : LoopG P F TT X c kr kx ⟨N, t, bx, ob⟩ := by
  refine ⟨?_⟩
  intro cx a w hi
  refine wp_loop_ghost (fun n a w => ∃ cx x, Inv F cx ⟨N, tab (S x), B x, O x⟩ a w ∧ I x ∧ μ x = n) (μ x0) ⟨_, x0, hi.weak ⟨rfl, ht, hb, ho⟩ (hin x0).1 (hin x0).2.1 (hin x0).2.2, h0, rfl⟩ ?_
  rintro n a w ⟨cx, x, hi, hI, rfl⟩
  refine wp_mono (vC_ok hTT (round x hI) cx a w hi) ?_
  rintro e a' w' ⟨cx', s', hi', hq⟩
  cases e with
  | normal =>
    obtain ⟨y, h1, h2, h3⟩ := (show Again I μ N S B O (μ x) s' from hq).h
    exact ⟨μ y, h2, _, y, hi'.weak h3 (hin y).1 (hin y).2.1 (hin y).2.2, h1, rfl⟩
  | ret => exact ⟨cx', s', hi', hq⟩
  | exit i => exact ⟨cx', s', hi', hq⟩
  | _ => exact (show False from hq).elim
theorem lg {c : Code} {kr : St → Prop} {kx : Nat → St → Prop} (h : LoopG P F TT X c kr kx s) : LoopG P F TT X c kr kx s := h
theorem cg {e : Bool} {f : FuncId} {l : List PV} {K : St → PV → Prop} (h : CallF P F e f l s K) : CallF P F e f l s K := h
def vR (P : Program) (F : Fr) (TT : List TI) (X : List FuncId) (c : Code) (kr : St → Prop) (kx : Nat → St → Prop) : Nat → St → Prop
  | 0, _ => False
  | n + 1, s => vC P F TT X c (vR P F TT X c kr kx n) kr kx s
theorem rounds_g {c : Code} {kr : St → Prop} {kx : Nat → St → Prop} (n : Nat) (hTT : TOk P TT) (h : vR P F TT X c kr kx n s) : LoopG P F TT X c kr kx s := by
  refine ⟨Cd.rounds n ?_⟩
  have key : ∀ n s, vR P F TT X c kr kx n s → Rounds P F c (mkQ (fun _ => False) kr kx) n s := by
    intro n
    induction n with
    | zero => intro s h; exact h
    | succ n ih =>
      intro s h
      refine (vC_ok hTT h).mono fun e s' hq => ?_
      cases e with
      | normal => exact ih s' hq
      | _ => exact hq
  exact key n s h
def vRes (TT : List TI) (s : St) (rs : List ResultVar) (k : List PV → Prop) : Prop := match rs with
  | [] => k []
  | r :: rs => match r with
    | .tmp t => fo (s.t t) fun p => vRes TT s rs fun l => k (p :: l)
    | .cell x T => match tlook TT T with
      | some ti => match s.t x with
        | .ptr b n => match lget s.bx b with
          | some l => vCells ti l n fun p => vRes TT s rs fun l => k (p :: l)
          | none => False
        | _ => False
      | none => False
theorem vRes_ok (hTT : TOk P TT) : ∀ {rs : List ResultVar} {k : List PV → Prop}, vRes TT s rs k → ∃ l, rs.mapM (resOne P s) = some l ∧ k l
  | [], k, h => ⟨[], rfl, h⟩
  | r :: rs, k, h => by
    simp only [vRes] at h
    split at h
    · rename_i t
      obtain ⟨l, h1, h2⟩ := vRes_ok hTT (fo_eq h)
      exact ⟨s.t t :: l, by rw [List.mapM_cons]; simp [resOne, h1], h2⟩
    · rename_i x T
      split at h
      · rename_i ti hti
        obtain ⟨t1, t2⟩ := tlook_ok hTT hti
        subst t2
        split at h
        · rename_i b n hx
          split at h
          · rename_i l hl
            rw [lget_eq] at hl
            have hc : cells s (s.t x) = some (l.drop n) := by rw [hx]; simp [cells, hl]
            unfold vCells at h
            split at h
            · rename_i ha
              split at h
              · rename_i p hp
                rw [lget_eq] at hp
                obtain ⟨l', h1, h2⟩ := vRes_ok hTT (fo_eq h)
                refine ⟨p :: l', ?_, h2⟩
                rw [List.mapM_cons]
                have : resOne P s (.cell x ti.t) = some p := by
                  simp only [resOne, hc, t1.agg, ha]
                  rw [List.getElem?_drop]; simpa using hp
                simp [this, h1]
              · cases h
            · rename_i ha
              obtain ⟨hle, h⟩ := takeG_eq h
              obtain ⟨l', h1, h2⟩ := vRes_ok hTT h
              refine ⟨_ :: l', ?_, h2⟩
              rw [List.mapM_cons]
              have : resOne P s (.cell x ti.t) = some (.agg ((l.drop n).take ti.sz)) := by
                simp only [resOne, hc, t1.agg, ha, t1.sz]
                rw [if_pos hle]
              simp [this, h1]
          · cases h
        · cases h
      · cases h
structure FzG (A : List Int) (b n : Nat) (K : List Int → Prop) : Prop where
  c : b + n ≤ A.length
  h : K ((A.drop b).take n)
theorem fz_all {A : List Int} {n : Nat} {K : List Int → Prop} (h : n = A.length) (k : K A) : FzG A 0 n K := ⟨by omega, by subst h; simpa using k⟩
theorem fz_g {A B : List Int} {b n : Nat} {K : List Int → Prop} (h : b + n ≤ A.length) (e : (A.drop b).take n = B) (k : K B) : FzG A b n K := ⟨h, by rw [e]; exact k⟩
mutual
def fzG (ob : List (Option Row)) (p : PV) (k : PV → Prop) : Prop := match p with
  | .arr q b n => match lget ob q with
    | some (some ⟨z, T, .w kk A⟩) => match Nat.beq z 1 with
      | true => FzG A b n fun B => k (.ws kk B)
      | false => False
    | _ => False
  | .agg l => fzL ob l fun l => k (.agg l)
  | .tup l => fzL ob l fun l => k (.tup l)
  | .ptr _ _ => False
  | .ead _ _ => False
  | .val v => k (.val v)
  | .nil => k .nil
  | .ws a b => k (.ws a b)
  | .sl a b => k (.sl a b)
  | .fs a b c => k (.fs a b c)
  | .cel l => k (.cel l)
  | .cw a b c => k (.cw a b c)
  | .cf a b c => k (.cf a b c)
  | .emp => k .emp
  | .any => k .any
def fzL (ob : List (Option Row)) (l : List PV) (k : List PV → Prop) : Prop := match l with
  | [] => k []
  | p :: l => fzG ob p fun p => fzL ob l fun l => k (p :: l)
end
theorem Inv.fz {c : Cx} {a : Act} {w : World} (hi : Inv F c s a w) (h0 : F.c0.ob = []) : ∃ ρ' : Addr → Option Value, (∀ ad u, c.ρ ad = some u → ρ' ad = some u) ∧ (∀ ad u, ρ' ad = some u → w.cell? ad = some u) ∧ (∀ ad u, ρ' ad = some u → F.c0.ρ ad = some u ∨ F.w0.heap.size ≤ ad.block) ∧
    (∀ (i : Nat) (r : Row) (x : Ob), s.ob[i]? = some (some r) → c.ob[i]? = some x → ∀ off u, w.cell? ⟨x.g, off, none⟩ = some u → ρ' ⟨x.g, off, none⟩ = some u) := by
  classical
  refine ⟨fun ad => if (∃ (i : Nat) (r : Row) (x : Ob), s.ob[i]? = some (some r) ∧ c.ob[i]? = some x ∧ ad.block = x.g) then w.cell? ad else c.ρ ad, fun ad u hu => ?_, fun ad u hu => ?_, fun ad u hu => ?_, fun i r x hr hx off u hu => ?_⟩
  · show (if _ then _ else _) = _
    split
    · exact hi.W.mem ad u hu
    · exact hu
  · replace hu : (if _ then _ else _) = _ := hu
    split at hu
    · exact hu
    · exact hi.W.mem ad u hu
  · replace hu : (if _ then _ else _) = _ := hu
    split at hu
    · rename_i hh
      obtain ⟨i, r, x, h1, h2, h3⟩ := hh
      exact .inr (by rw [h3]; exact hi.obB i x (by rw [h0]; exact Nat.zero_le _) h2)
    · exact hi.new ad u hu
  · show (if _ then _ else _) = _
    rw [if_pos ⟨i, r, x, hr, hx, rfl⟩]; exact hu
theorem Rep.up0 {c : Cx} {ρ' : Addr → Option Value} {v : Value} (hr : Rep c.strip p v) (hρ : ∀ ad u, c.ρ ad = some u → ρ' ad = some u) : Rep ⟨ρ', [], []⟩ p v :=
  Rep.up (c := c.strip) (c' := ⟨ρ', [], []⟩) ⟨hρ, fun _ _ h => by simp [Cx.strip] at h, fun _ _ h => by simp [Cx.strip] at h⟩ hr
mutual
theorem fzG_ok {c : Cx} {a : Act} {w : World} (hi : Inv F c s a w) {ρ' : Addr → Option Value} (hρ : ∀ ad u, c.ρ ad = some u → ρ' ad = some u) (hz : ∀ (i : Nat) (r : Row) (x : Ob), s.ob[i]? = some (some r) → c.ob[i]? = some x → ∀ off u, w.cell? ⟨x.g, off, none⟩ = some u → ρ' ⟨x.g, off, none⟩ = some u) :
    ∀ {p : PV} {v : Value} {k : PV → Prop}, Rep c p v → fzG s.ob p k → ∃ p', Rep ⟨ρ', [], []⟩ p' v ∧ k p'
  | .arr q b n, v, k, hr, h => by
    simp only [fzG] at h
    split at h
    · rename_i z T kk A hl
      rw [lget_eq] at hl
      split at h
      · rename_i hb
        obtain rfl := Nat.eq_of_beq_eq_true hb
        refine ⟨_, ?_, h.h⟩
        have hc := h.c
        obtain ⟨x, us, a1, a2, a3, a4, a5, a6, a7⟩ := hi.W.obj q _ hl
        rw [cs_w] at a6 a7
        simp only [List.length_map] at a6 a7
        have hus := wv_repL_eq a7
        cases hr with
        | @arr _ _ _ _ cap X ad k1 k2 k3 k4 k5 =>
          rw [a1] at k1; cases k1
          have hsz : x.sz = 1 := a2
          refine .ws (by simp; omega) k3 fun j y hj => ?_
          rw [List.getElem?_take] at hj
          split at hj
          · rename_i hj2
            rw [List.getElem?_drop] at hj
            refine ⟨ad, rfl, ?_⟩
            rw [k4 (by omega), hsz, Nat.mul_one, addr_add]
            refine hz q _ x hl a1 _ _ ?_
            have h1 : (us.take A.length)[b + j]? = some (.int kk y) := by rw [hus, List.getElem?_map, hj]; rfl
            rw [List.getElem?_take] at h1
            split at h1
            · simpa [World.cell?, a5] using h1
            · cases h1
          · cases hj
      · cases h
    · cases h
  | .agg l, v, k, hr, h => by
    cases hr with
    | agg hr =>
      obtain ⟨l', h1, h2⟩ := fzL_ok hi hρ hz hr (by simpa [fzG] using h)
      exact ⟨_, .agg h1, h2⟩
  | .tup l, v, k, hr, h => by
    cases hr with
    | tup hr =>
      obtain ⟨l', h1, h2⟩ := fzL_ok hi hρ hz hr (by simpa [fzG] using h)
      exact ⟨_, .tup h1, h2⟩
  | .ptr _ _, v, k, hr, h => by simp [fzG] at h
  | .ead _ _, v, k, hr, h => by simp [fzG] at h
  | .val _, v, k, hr, h => ⟨_, (hr.bare rfl).up0 hρ, by simpa [fzG] using h⟩
  | .nil, v, k, hr, h => ⟨_, (hr.bare rfl).up0 hρ, by simpa [fzG] using h⟩
  | .ws _ _, v, k, hr, h => ⟨_, (hr.bare rfl).up0 hρ, by simpa [fzG] using h⟩
  | .sl _ _, v, k, hr, h => ⟨_, (hr.bare rfl).up0 hρ, by simpa [fzG] using h⟩
  | .fs _ _ _, v, k, hr, h => ⟨_, (hr.bare rfl).up0 hρ, by simpa [fzG] using h⟩
  | .cel _, v, k, hr, h => ⟨_, (hr.bare rfl).up0 hρ, by simpa [fzG] using h⟩
  | .cw _ _ _, v, k, hr, h => ⟨_, (hr.bare rfl).up0 hρ, by simpa [fzG] using h⟩
  | .cf _ _ _, v, k, hr, h => ⟨_, (hr.bare rfl).up0 hρ, by simpa [fzG] using h⟩
  | .emp, v, k, hr, h => ⟨_, (hr.bare rfl).up0 hρ, by simpa [fzG] using h⟩
  | .any, v, k, hr, h => ⟨_, (hr.bare rfl).up0 hρ, by simpa [fzG] using h⟩
theorem fzL_ok {c : Cx} {a : Act} {w : World} (hi : Inv F c s a w) {ρ' : Addr → Option Value} (hρ : ∀ ad u, c.ρ ad = some u → ρ' ad = some u) (hz : ∀ (i : Nat) (r : Row) (x : Ob), s.ob[i]? = some (some r) → c.ob[i]? = some x → ∀ off u, w.cell? ⟨x.g, off, none⟩ = some u → ρ' ⟨x.g, off, none⟩ = some u) :
    ∀ {l : List PV} {us : List Value} {k : List PV → Prop}, RepL c l us → fzL s.ob l k → ∃ l', RepL ⟨ρ', [], []⟩ l' us ∧ k l'
  | [], us, k, hr, h => by cases hr; exact ⟨[], .nil, by simpa [fzL] using h⟩
  | p :: l, us, k, hr, h => by
    cases hr with
    | cons hr ht =>
      obtain ⟨p', h1, h2⟩ := fzG_ok hi hρ hz hr (by simpa only [fzL] using h)
      obtain ⟨l', h3, h4⟩ := fzL_ok hi hρ hz ht h2
      exact ⟨p' :: l', .cons h1 h3, h4⟩
end
def tupG (l : List PV) (k : PV → Prop) : Prop := match l with
  | [p] => k p
  | l => k (.tup l)
def vEnd (TT : List TI) (rs : List ResultVar) (Q : PV → Prop) (s : St) : Prop := vRes TT s rs fun l => tupG l fun p => fzG s.ob p fun r => RetE Q r
theorem FC.intro {G : List (Nat × List Value)} {f : FuncId} {fn : Func} {cd : Code} {args : List PV} {Q : PV → Prop} {N : Nat} {rs : List ResultVar} (hTT : TOk P TT) (hf : P.funcs[f]? = some fn) (hb : fn.body = some cd) (hN : fn.ntmps = N) (hrs : fn.results.toList = rs) (hc : callable P f = true) (hn : Nat.ble args.length N = true)
    (h : ∀ F : Fr, F.G = G → F.c0.ob.length = 0 → vC P F TT X cd (vEnd TT rs Q) (vEnd TT rs Q) (fun _ _ => False) ⟨N, argT args, [], []⟩) : FC P G f args Q := by
  refine ⟨hc, ?_⟩
  subst hN; subst hrs
  intro ρ w vs hG hm hr
  have hn := Nat.le_of_ble_eq_true hn
  have hl := hr.len
  refine calls_of_wp hf hb ?_
  have hi : Inv ⟨G, ⟨ρ, [], []⟩, w, hG⟩ ⟨ρ, [], []⟩ ⟨fn.ntmps, argT args, [], []⟩ { tmps := vs.toArray ++ Array.replicate (fn.ntmps - vs.toArray.size) undef, defers := [] } w := by
    refine ⟨⟨hm, rfl, rfl, fun i l hi => by simp at hi, fun i r hi => by simp at hi, fun i j g hi => by simp at hi, fun i j x y l m hi => by simp at hi, fun i x l hi => by simp at hi, fun ad u _ => by simp, fun ad u i x l _ hi => by simp at hi⟩, rfl, by simp; omega, fun t => ?_, Kp.refl _ _ _, fun _ _ h => h, fun _ _ h => .inl h, fun _ _ h => by simp at h, fun _ _ _ h => by simp at h, fun g hg => by simp at hg⟩
    show Rep _ (argT args t) _
    rw [argT_get]
    rcases Nat.lt_or_ge t args.length with ht | ht
    · have h1 := List.getElem?_eq_getElem ht
      obtain ⟨u, hu, hr'⟩ := hr.get h1
      have h2 : (vs.toArray ++ Array.replicate (fn.ntmps - vs.toArray.size) undef).getD t undef = u := by
        rw [Array.getD_eq_getD_getElem?, Array.getElem?_append_left (by simp; omega)]
        simp [hu]
      rw [h2, List.getD_eq_getElem?_getD, h1]
      exact hr'
    · have h2 : (vs.toArray ++ Array.replicate (fn.ntmps - vs.toArray.size) undef).getD t undef = undef := by
        rw [Array.getD_eq_getD_getElem?, Array.getElem?_append_right (by simp; omega)]
        simp only [Array.getElem?_replicate]
        split <;> rfl
      rw [h2, List.getD_eq_getElem?_getD, List.getElem?_eq_none ht]
      exact .val _
  refine wp_mono (vC_ok hTT (h _ rfl rfl) _ _ _ hi) ?_
  rintro e a' w' ⟨cx', s', hi', hq⟩
  have fin : vEnd TT fn.results.toList Q s' → a'.defers = [] ∧ ∃ v, (results fn a'.tmps).run P w' = .ok v w' ∧
      ∃ v_1 r_1 ρ', Ending.returned v = .returned v_1 ∧ Q r_1 ∧ (∀ ad u, ρ ad = some u → ρ' ad = some u) ∧ (∀ ad u, ρ' ad = some u → w'.cell? ad = some u) ∧ Rep ⟨ρ', [], []⟩ r_1 v_1 ∧ Below w.heap.size w w' ∧ ∀ ad u, ρ' ad = some u → ρ ad = some u ∨ w.heap.size ≤ ad.block := by
    intro hv
    obtain ⟨l, h1, h2⟩ := vRes_ok hTT hv
    obtain ⟨r, hr1, hr2⟩ : ∃ r, resPV P fn.results.toList s' = some r ∧ fzG s'.ob r (fun r => RetE Q r) := by
      unfold tupG at h2
      unfold resPV
      rw [h1]
      match l, h2 with
      | [], h2 => exact ⟨_, rfl, h2⟩
      | [p], h2 => exact ⟨_, rfl, h2⟩
      | _ :: _ :: _, h2 => exact ⟨_, rfl, h2⟩
    obtain ⟨v, hrep, hrun⟩ := results_ok hi' hr1
    obtain ⟨ρ', e1, e2, e3, e4⟩ := hi'.fz rfl
    obtain ⟨r', g1, g2⟩ := fzG_ok hi' e1 e4 hrep hr2
    obtain ⟨r'', g3, g4⟩ := g2.h
    exact ⟨hi'.nd, v, hrun, v, r'', ρ', rfl, g4, fun ad u hu => e1 _ _ (hi'.rho ad u hu), e2, g3.rep g1, hi'.kp.below, e3⟩
  cases e with
  | normal => exact fin hq
  | ret => exact fin hq
  | _ => exact (show False from hq).elim
end
structure PM (P : Program) (G : List (Nat × List Value)) (f : FuncId) (args : List PV) (rows : List Row) (Q : PV → List (Option Row) → Prop) : Prop where
  c : callable P f = true
  h : ∀ (ρ : Addr → Option Value) (w : World) (vs : List Value) (obs : List Ob), GOk G ρ → SimW ⟨ρ, [], obs⟩ [] (rows.map some) w → RepL ⟨ρ, [], obs⟩ args vs →
    Calls P f vs.toArray w fun e w' => ∃ v r ρ' obs' rows', e = .returned v ∧ Q r rows' ∧ (∀ ad u, ρ ad = some u → ρ' ad = some u) ∧ SimW ⟨ρ', [], obs'⟩ [] rows' w' ∧ Rep ⟨ρ', [], obs'⟩ r v ∧ Kp (obs.map (·.g)) w.heap.size w w' ∧
      (∀ ad u, ρ' ad = some u → ρ ad = some u ∨ w.heap.size ≤ ad.block) ∧ (∀ (i : Nat) (x : Ob), obs[i]? = some x → obs'[i]? = some x) ∧ (∀ (i : Nat) (x : Ob), obs.length ≤ i → obs'[i]? = some x → w.heap.size ≤ x.g)
theorem PM.mono {P : Program} {G : List (Nat × List Value)} {f : FuncId} {args : List PV} {rows : List Row} {Q Q' : PV → List (Option Row) → Prop} (h : PM P G f args rows Q) (k : ∀ r rs, Q r rs → Q' r rs) : PM P G f args rows Q' :=
  ⟨h.c, fun ρ w vs obs hG hW hr => (h.h ρ w vs obs hG hW hr).mono fun e w' ⟨v, r, ρ', obs', rows', h1, h2, h3⟩ => ⟨v, r, ρ', obs', rows', h1, k _ _ h2, h3⟩⟩
mutual
def okA (k : Nat) : PV → Bool
  | .arr i _ _ => Nat.blt i k
  | .ead i _ => Nat.blt i k
  | .ptr _ _ => false
  | .agg l => okAL k l
  | .tup l => okAL k l
  | .val _ => true
  | .nil => true
  | .ws _ _ => true
  | .sl _ _ => true
  | .fs _ _ _ => true
  | .cel _ => true
  | .cw _ _ _ => true
  | .cf _ _ _ => true
  | .emp => true
  | .any => true
def okAL (k : Nat) : List PV → Bool
  | [] => true
  | p :: l => okA k p && okAL k l
end
def renI (σ : List Nat) (m i : Nat) : Nat := match σ with
  | [] => m + i
  | q :: σ => match i with
    | 0 => q
    | i + 1 => renI σ m i
mutual
def ren (σ : List Nat) (m : Nat) : PV → PV
  | .arr i lo n => .arr (renI σ m i) lo n
  | .ead i j => .ead (renI σ m i) j
  | .ptr _ _ => .any
  | .agg l => .agg (renL σ m l)
  | .tup l => .tup (renL σ m l)
  | .val v => .val v
  | .nil => .nil
  | .ws k a => .ws k a
  | .sl z l => .sl z l
  | .fs z n f => .fs z n f
  | .cel l => .cel l
  | .cw k a i => .cw k a i
  | .cf f i n => .cf f i n
  | .emp => .emp
  | .any => .any
def renL (σ : List Nat) (m : Nat) : List PV → List PV
  | [] => []
  | p :: l => ren σ m p :: renL σ m l
end
theorem renI_lt : ∀ {σ : List Nat} {m i : Nat}, i < σ.length → σ[i]? = some (renI σ m i)
  | [], _, _, h => by simp at h
  | q :: σ, m, 0, h => rfl
  | q :: σ, m, i + 1, h => by simpa [renI] using renI_lt (σ := σ) (m := m) (i := i) (by simpa using h)
theorem renI_ge : ∀ {σ : List Nat} {m i : Nat}, σ.length ≤ i → renI σ m i = m + (i - σ.length)
  | [], _, _, h => by simp [renI]
  | q :: σ, m, 0, h => by simp at h
  | q :: σ, m, i + 1, h => by simp only [renI]; rw [renI_ge (by simpa using h)]; simp
-- from the caller's spelling to the callee's
mutual
theorem Rep.unren {c d : Cx} {σ : List Nat} {m : Nat} (hρ : c.ρ = d.ρ) (ho : ∀ (i : Nat) (x : Ob), i < σ.length → c.ob[renI σ m i]? = some x → d.ob[i]? = some x) : ∀ {p : PV} {v : Value}, okA σ.length p = true → Rep c (ren σ m p) v → Rep d p v
  | .val _, _, _, h => by simp only [ren] at h; cases h; exact .val _
  | .nil, _, _, h => by simp only [ren] at h; cases h; exact .nil
  | .ws _ _, _, _, h => by simp only [ren] at h; cases h with | ws h1 h2 h4 => exact .ws h1 h2 (hρ ▸ h4)
  | .sl _ _, _, _, h => by
    have e : c.strip = d.strip := by simp [Cx.strip, hρ]
    simp only [ren] at h; cases h with | sl h0 h1 h2 h3 h4 => exact .sl h0 h1 h2 (e ▸ h3) (hρ ▸ h4)
  | .fs _ _ _, _, _, h => by
    have e : c.strip = d.strip := by simp [Cx.strip, hρ]
    simp only [ren] at h; cases h with | fs h0 h1 h2 h3 h4 => exact .fs h0 h1 h2 (e ▸ h3) (hρ ▸ h4)
  | .cel _, _, _, h => by
    have e : c.strip = d.strip := by simp [Cx.strip, hρ]
    simp only [ren] at h; cases h with | cel h3 h4 => exact .cel (e ▸ h3) (hρ ▸ h4)
  | .cw _ _ _, _, _, h => by simp only [ren] at h; cases h with | cw h0 h4 => exact .cw h0 (hρ ▸ h4)
  | .cf _ _ _, _, _, h => by
    have e : c.strip = d.strip := by simp [Cx.strip, hρ]
    simp only [ren] at h; cases h with | cf h1 h3 h4 => exact .cf h1 (e ▸ h3) (hρ ▸ h4)
  | .emp, _, _, h => by simp only [ren] at h; cases h; exact .emp
  | .any, _, _, h => .any _
  | .ptr _ _, _, k, h => by simp [okA] at k
  | .arr i _ _, _, k, h => by
    simp only [ren] at h
    simp only [okA] at k
    cases h with | arr h h0 h2 h3 h4 => exact .arr (ho _ _ (by simpa using k) h) h0 h2 h3 h4
  | .ead i _, _, k, h => by
    simp only [ren] at h
    simp only [okA] at k
    cases h with | ead h => exact .ead (ho _ _ (by simpa using k) h)
  | .agg l, _, k, h => by
    simp only [ren] at h
    simp only [okA] at k
    cases h with | agg h => exact .agg (RepL.unren hρ ho k h)
  | .tup l, _, k, h => by
    simp only [ren] at h
    simp only [okA] at k
    cases h with | tup h => exact .tup (RepL.unren hρ ho k h)
theorem RepL.unren {c d : Cx} {σ : List Nat} {m : Nat} (hρ : c.ρ = d.ρ) (ho : ∀ (i : Nat) (x : Ob), i < σ.length → c.ob[renI σ m i]? = some x → d.ob[i]? = some x) : ∀ {l : List PV} {us : List Value}, okAL σ.length l = true → RepL c (renL σ m l) us → RepL d l us
  | [], _, _, h => by simp only [renL] at h; cases h; exact .nil
  | p :: l, _, k, h => by
    simp only [renL] at h
    simp only [okAL, Bool.and_eq_true] at k
    cases h with | cons h t => exact .cons (Rep.unren hρ ho k.1 h) (RepL.unren hρ ho k.2 t)
end
-- from the callee's spelling to the caller's
mutual
theorem Rep.ren {c d : Cx} {σ : List Nat} {m : Nat} (hρ : c.ρ = d.ρ) (ho : ∀ (i : Nat) (x : Ob), d.ob[i]? = some x → c.ob[renI σ m i]? = some x) : ∀ {p : PV} {v : Value}, Rep d p v → Rep c (ren σ m p) v
  | _, _, .val v => .val v
  | _, _, .nil => .nil
  | _, _, .ws h1 h2 h4 => .ws h1 h2 (hρ ▸ h4)
  | _, _, .sl h0 h1 h2 h3 h4 => by
    have e : c.strip = d.strip := by simp [Cx.strip, hρ]
    exact .sl h0 h1 h2 (e ▸ h3) (hρ ▸ h4)
  | _, _, .fs h0 h1 h2 h3 h4 => by
    have e : c.strip = d.strip := by simp [Cx.strip, hρ]
    exact .fs h0 h1 h2 (e ▸ h3) (hρ ▸ h4)
  | _, _, .cel h3 h4 => by
    have e : c.strip = d.strip := by simp [Cx.strip, hρ]
    exact .cel (e ▸ h3) (hρ ▸ h4)
  | _, _, .cw h0 h4 => .cw h0 (hρ ▸ h4)
  | _, _, .cf h1 h3 h4 => by
    have e : c.strip = d.strip := by simp [Cx.strip, hρ]
    exact .cf h1 (e ▸ h3) (hρ ▸ h4)
  | _, _, .emp => .emp
  | _, _, .any v => .any v
  | _, _, .ptr h => .any _
  | _, _, .arr h h0 h2 h3 h4 => .arr (ho _ _ h) h0 h2 h3 h4
  | _, _, .ead h => .ead (ho _ _ h)
  | _, _, .agg h => .agg (RepL.ren hρ ho h)
  | _, _, .tup h => .tup (RepL.ren hρ ho h)
theorem RepL.ren {c d : Cx} {σ : List Nat} {m : Nat} (hρ : c.ρ = d.ρ) (ho : ∀ (i : Nat) (x : Ob), d.ob[i]? = some x → c.ob[renI σ m i]? = some x) : ∀ {l : List PV} {us : List Value}, RepL d l us → RepL c (renL σ m l) us
  | _, _, .nil => .nil
  | _, _, .cons h t => .cons (Rep.ren hρ ho h) (RepL.ren hρ ho t)
end
theorem nodup_idx : ∀ {σ : List Nat} {i j q : Nat}, σ.Nodup → σ[i]? = some q → σ[j]? = some q → i = j
  | [], i, j, q, _, h, _ => by simp at h
  | a :: σ, 0, 0, q, _, _, _ => rfl
  | a :: σ, 0, j + 1, q, hn, h1, h2 => by
    simp at h1 h2
    subst h1
    exact absurd (List.mem_of_getElem? h2) (List.nodup_cons.1 hn).1
  | a :: σ, i + 1, 0, q, hn, h1, h2 => by
    simp at h1 h2
    subst h2
    exact absurd (List.mem_of_getElem? h1) (List.nodup_cons.1 hn).1
  | a :: σ, i + 1, j + 1, q, hn, h1, h2 => by
    have := nodup_idx (List.nodup_cons.1 hn).2 (by simpa using h1) (by simpa using h2)
    omega
def putR (ob : List (Option Row)) (σ : List Nat) (rs : List (Option Row)) : List (Option Row) := match σ with
  | [] => ob ++ rs
  | q :: σ => match rs with
    | [] => ob
    | r :: rs => putR (ob.set q r) σ rs
theorem putR_get : ∀ {σ : List Nat} {ob rs : List (Option Row)} {i : Nat}, σ.Nodup → (∀ q ∈ σ, q < ob.length) → σ.length ≤ rs.length →
    (∀ j : Nat, σ[j]? = some i → (putR ob σ rs)[i]? = rs[j]?) ∧ (i ∉ σ → i < ob.length → (putR ob σ rs)[i]? = ob[i]?) ∧ (ob.length ≤ i → (putR ob σ rs)[i]? = rs[σ.length + (i - ob.length)]?) ∧ (putR ob σ rs).length = ob.length + (rs.length - σ.length)
  | [], ob, rs, i, _, _, _ => by
    refine ⟨fun j h => by simp at h, fun _ h => by simp only [putR]; exact List.getElem?_append_left h, fun h => ?_, by simp [putR]⟩
    simp only [putR]
    rw [List.getElem?_append_right h]; simp
  | q :: σ, ob, [], i, _, _, h => by simp at h
  | q :: σ, ob, r :: rs, i, hn, hq, hl => by
    obtain ⟨hn1, hn2⟩ := List.nodup_cons.1 hn
    obtain ⟨k1, k2, k3, k4⟩ := putR_get (σ := σ) (ob := ob.set q r) (rs := rs) (i := i) hn2 (fun p hp => by simpa using hq p (List.mem_cons_of_mem _ hp)) (by simpa using hl)
    simp only [putR]
    refine ⟨fun j h => ?_, fun h1 h2 => ?_, fun h => ?_, by rw [k4]; simp⟩
    · cases j with
      | zero =>
        simp at h
        subst h
        rw [k2 hn1 (by simpa using hq q (by simp))]
        simp [hq q (by simp)]
      | succ j => rw [k1 j (by simpa using h)]; simp
    · simp only [List.mem_cons, not_or] at h1
      rw [k2 h1.2 (by simpa using h2), List.getElem?_set_ne (Ne.symm h1.1)]
    · rw [k3 (by simpa using h)]
      simp [Nat.add_right_comm σ.length 1]
section
variable {P : Program} {F : Fr} {TT : List TI} {X : List FuncId}
theorem call_pm {N : Nat} {t : Nat → PV} {bx : List (List PV)} {ob : List (Option Row)} {f : FuncId} {args0 args : List PV} {rows : List Row} {Q : PV → List (Option Row) → Prop} {K : St → PV → Prop} (σ : List Nat) (h : PM P F.G f args0 rows Q) (ha : renL σ ob.length args0 = args) (hok : okAL σ.length args0 = true)
    (hr : σ.map (fun q => ob[q]?) = rows.map fun r => some (some r)) (hnd : σ.Nodup) (k : ∀ r rs, Q r rs → K ⟨N, t, bx, putR ob σ rs⟩ (ren σ ob.length r)) : CallF P F false f args ⟨N, t, bx, ob⟩ K := by
  refine ⟨h.c, fun c a w vs hi hv => ?_⟩
  subst ha
  have hkl : σ.length = rows.length := by have := congrArg List.length hr; simpa using this
  have hrow : ∀ (j : Nat) (r : Row), rows[j]? = some r → ∃ q, σ[j]? = some q ∧ ob[q]? = some (some r) := by
    intro j r hj
    have h1 := congrArg (fun l => l[j]?) hr
    simp only [List.getElem?_map, hj, Option.map_some] at h1
    cases hq : σ[j]? with
    | none => simp [hq] at h1
    | some q => simp [hq] at h1; exact ⟨q, rfl, h1⟩
  have hsig : ∀ (j q : Nat), σ[j]? = some q → ∃ r, rows[j]? = some r ∧ ob[q]? = some (some r) := by
    intro j q hj
    have h1 := congrArg (fun l => l[j]?) hr
    simp only [List.getElem?_map, hj, Option.map_some] at h1
    cases hq : rows[j]? with
    | none => simp [hq] at h1
    | some r => simp [hq] at h1; exact ⟨r, rfl, h1⟩
  have hol : c.ob.length = ob.length := hi.W.ol
  have hlt : ∀ q ∈ σ, q < ob.length := by
    intro q hq
    obtain ⟨j, hj⟩ := List.getElem?_of_mem hq
    obtain ⟨r, _, h2⟩ := hsig j q hj
    exact (List.getElem?_eq_some_iff.1 h2).1
  obtain ⟨obs, hobs, hobl⟩ : ∃ obs : List Ob, (∀ (j q : Nat), σ[j]? = some q → obs[j]? = c.ob[q]?) ∧ obs.length = σ.length := by
    refine ⟨σ.map fun q => c.ob.getD q ⟨0, 0, 0, 0⟩, fun j q hj => ?_, by simp⟩
    have hq := hlt q (List.mem_of_getElem? hj)
    rw [List.getElem?_map, hj, Option.map_some, List.getD_eq_getElem?_getD, List.getElem?_eq_getElem (by omega)]
    rfl
  have hW0 : SimW ⟨c.ρ, [], obs⟩ [] (rows.map some) w := by
    have row : ∀ (i : Nat) (r : Row), (rows.map some)[i]? = some (some r) → ∃ q, σ[i]? = some q ∧ ob[q]? = some (some r) ∧ obs[i]? = c.ob[q]? := by
      intro i r hir
      rw [List.getElem?_map, Option.map_eq_some_iff] at hir
      obtain ⟨r', h1, h2⟩ := hir
      cases h2
      obtain ⟨q, h3, h4⟩ := hrow i r h1
      exact ⟨q, h3, h4, hobs i q h3⟩
    refine ⟨hi.W.mem, rfl, by simp [hobl, hkl], fun i l hl => by simp at hl, fun i r hir => ?_, fun i j g h1 => by simp at h1, fun i j x y l m hl hm hx hy e => ?_, fun i x l _ _ => by simp, fun ad u _ => by simp, fun ad u i x l hu hl hx => ?_⟩
    · obtain ⟨q, h1, h2, h3⟩ := row i r hir
      obtain ⟨x, us, a1, a2⟩ := hi.W.obj q r h2
      exact ⟨x, us, by rw [h3]; exact a1, a2⟩
    · obtain ⟨q, h1, h2, h3⟩ := row i l hl
      obtain ⟨q', h1', h2', h3'⟩ := row j m hm
      have := hi.W.no q q' x y l m h2 h2' (h3 ▸ hx) (h3' ▸ hy) e
      subst this
      exact nodup_idx hnd h1 h1'
    · obtain ⟨q, h1, h2, h3⟩ := row i l hl
      exact hi.W.so ad u q x l hu h2 (h3 ▸ hx)
  have hG : GOk F.G c.ρ := fun g cs hm j u hu => hi.rho _ _ (F.hG g cs hm j u hu)
  have hv0 : RepL ⟨c.ρ, [], obs⟩ args0 vs := RepL.unren (c := c) (d := ⟨c.ρ, [], obs⟩) rfl (fun i x hl hx => by
    have := renI_lt (m := ob.length) hl
    show obs[i]? = some x
    rw [hobs _ _ this]; exact hx) hok hv
  refine (h.h c.ρ w vs obs hG hW0 hv0).mono ?_
  rintro en w' ⟨v, r, ρ', obs', rows', rfl, hQ, hρ, hW', hrep, hkp, hnew, hext, hfresh⟩
  have hol' : obs'.length = rows'.length := hW'.ol
  have hle : σ.length ≤ rows'.length := by
    rw [← hol', ← hobl]
    rcases Nat.eq_zero_or_pos obs.length with h0 | h0
    · omega
    · have := hext (obs.length - 1) obs[obs.length - 1] (List.getElem?_eq_getElem (by omega))
      have := (List.getElem?_eq_some_iff.1 this).1
      omega
  obtain ⟨c', hc'⟩ : ∃ c' : Cx, c' = ⟨ρ', c.bb, c.ob ++ obs'.drop σ.length⟩ := ⟨_, rfl⟩
  have ob_lo : ∀ {i : Nat}, i < ob.length → c'.ob[i]? = c.ob[i]? := fun hl => by rw [hc']; exact List.getElem?_append_left (by omega)
  have ob_hi : ∀ {i : Nat}, ob.length ≤ i → c'.ob[i]? = obs'[σ.length + (i - ob.length)]? := fun hl => by
    rw [hc']; show (c.ob ++ obs'.drop σ.length)[_]? = _
    rw [List.getElem?_append_right (by omega), List.getElem?_drop, hol]
  have kle : c.le c' := by
    rw [hc']
    exact ⟨hρ, fun _ _ h => h, fun i x hx => by
      show (c.ob ++ _)[i]? = some x
      rw [List.getElem?_append_left (List.getElem?_eq_some_iff.1 hx).1]; exact hx⟩
  -- where a live row of the new state comes from
  have src : ∀ (i : Nat) (l : Row) (x : Ob), (putR ob σ rows')[i]? = some (some l) → c'.ob[i]? = some x →
      (∃ j, rows'[j]? = some (some l) ∧ obs'[j]? = some x ∧ ((j < σ.length ∧ σ[j]? = some i ∧ c.ob[i]? = some x) ∨ (j = σ.length + (i - ob.length) ∧ ob.length ≤ i))) ∨ (i ∉ σ ∧ i < ob.length ∧ ob[i]? = some (some l) ∧ c.ob[i]? = some x) := by
    intro i l x hl hx
    obtain ⟨k1, k2, k3, k4⟩ := putR_get (i := i) hnd hlt hle
    rcases Nat.lt_or_ge i ob.length with hi1 | hi1
    · rw [ob_lo hi1] at hx
      by_cases hm : i ∈ σ
      · obtain ⟨j, hj⟩ := List.getElem?_of_mem hm
        have hjl := (List.getElem?_eq_some_iff.1 hj).1
        rw [k1 j hj] at hl
        have h2 := hobs j i hj
        rw [hx] at h2
        exact .inl ⟨j, hl, hext j x h2, .inl ⟨hjl, hj, hx⟩⟩
      · rw [k2 hm hi1] at hl
        exact .inr ⟨hm, hi1, hl, hx⟩
    · rw [k3 hi1] at hl
      rw [ob_hi hi1] at hx
      exact .inl ⟨_, hl, hx, .inr ⟨rfl, hi1⟩⟩
  have oldlive : ∀ (j i : Nat), σ[j]? = some i → ∃ l, ob[i]? = some (some l) := fun j i hj => let ⟨r, _, h2⟩ := hsig j i hj; ⟨r, h2⟩
  have hgs : ∀ g ∈ obs.map (·.g), ∃ (i : Nat) (x : Ob) (l : Row), i ∈ σ ∧ c.ob[i]? = some x ∧ ob[i]? = some (some l) ∧ x.g = g := by
    intro g hg
    obtain ⟨x, hx, rfl⟩ := List.mem_map.1 hg
    obtain ⟨j, hj⟩ := List.getElem?_of_mem hx
    have hjl : j < σ.length := by rw [← hobl]; exact (List.getElem?_eq_some_iff.1 hj).1
    have h1 := List.getElem?_eq_getElem hjl
    have h2 := hobs j _ h1
    obtain ⟨l, hl⟩ := oldlive j _ h1
    exact ⟨_, x, l, List.getElem_mem hjl, by rw [← h2]; exact hj, hl, rfl⟩
  have hbig : ∀ (j : Nat) (x : Ob), σ.length ≤ j → obs'[j]? = some x → w.heap.size ≤ x.g := fun j x hj hx => hfresh j x (by omega) hx
  have keepB : ∀ g, g < w.heap.size → g ∉ obs.map (·.g) → w'.heap[g]? = w.heap[g]? := fun g h1 h2 => hkp.block g h1 h2
  have hI : Inv F c' ⟨N, t, bx, putR ob σ rows'⟩ a w' := by
    have hcρ : c'.ρ = ρ' := by rw [hc']
    have hcb : c'.bb = c.bb := by rw [hc']
    refine ⟨⟨fun ad u hu => hW'.mem ad u (by rw [hcρ] at hu; exact hu), by rw [hcb]; exact hi.W.bl, ?_, fun i l hl => ?_, fun i l hl => ?_, fun i j g h1 h2 => hi.W.nb i j g (hcb ▸ h1) (hcb ▸ h2), fun i j x y l m hl hm hx hy e => ?_, fun i x l hl hx => ?_, fun ad u hu => ?_, fun ad u i x l hu hl hx => ?_⟩, hi.nd, hi.sz, fun y => (hi.tm y).up kle, ?_, fun ad u hu => kle.ρ _ _ (hi.rho ad u hu), fun ad u hu => ?_, fun i x hx => kle.ob i x (hi.obp i x hx), fun i x hl hx => ?_, fun g hg => hi.bbB g (hcb ▸ hg)⟩
    · obtain ⟨k1, k2, k3, k4⟩ := putR_get (i := 0) hnd hlt hle
      show c'.ob.length = (putR ob σ rows').length
      rw [k4, hc']
      simp [hol, hol']
    · obtain ⟨g, us, T, h1, h2, h3⟩ := hi.W.box i l hl
      refine ⟨g, us, T, by rw [hcb]; exact h1, ?_, h3.up kle⟩
      rw [keepB g (hi.W.bb_lt h1) (fun hm => ?_)]
      · exact h2
      · obtain ⟨i', x, l', _, h5, h6, h7⟩ := hgs g hm
        exact hi.W.nbo i' x l' h6 h5 (h7 ▸ List.mem_of_getElem? h1)
    · have hil : i < (putR ob σ rows').length := (List.getElem?_eq_some_iff.1 hl).1
      have hcl : c'.ob.length = (putR ob σ rows').length := by
        obtain ⟨k1, k2, k3, k4⟩ := putR_get (i := 0) hnd hlt hle
        rw [k4, hc']
        simp [hol, hol']
      obtain ⟨x, hx⟩ : ∃ x, c'.ob[i]? = some x := ⟨_, List.getElem?_eq_getElem (by omega)⟩
      rcases src i l x hl hx with ⟨j, h1, h2, _⟩ | ⟨h1, h2, h3, h4⟩
      · obtain ⟨x', us, a1, a2, a3, a4, a5, a6, a7⟩ := hW'.obj j l h1
        have : x' = x := by have := a1.symm.trans h2; injection this
        subst this
        refine ⟨x', us, hx, a2, a3, a4, a5, a6, ?_⟩
        have e : c'.strip = (⟨ρ', [], []⟩ : Cx) := by simp [Cx.strip, hcρ]
        rw [e]; exact a7
      · obtain ⟨x', us, a1, a2, a3, a4, a5, a6, a7⟩ := hi.W.obj i l h3
        have : x' = x := by have := a1.symm.trans h4; injection this
        subst this
        refine ⟨x', us, hx, a2, a3, a4, ?_, a6, a7.up kle.strip⟩
        rw [keepB x'.g (hi.W.ob_lt h3 a1) (fun hm => ?_)]
        · exact a5
        · obtain ⟨i', y, l', g1, g2, g3, g4⟩ := hgs x'.g hm
          have := hi.W.no i' i y x' l' l g3 h3 g2 a1 g4
          subst this
          exact h1 g1
    · rcases src i l x hl hx with ⟨j1, a1, a2, a3⟩ | ⟨a1, a2, a3, a4⟩ <;> rcases src j m y hm hy with ⟨j2, b1, b2, b3⟩ | ⟨b1, b2, b3, b4⟩
      · have := hW'.no j1 j2 x y l m a1 b1 a2 b2 e
        subst this
        rcases a3 with ⟨p1, p2, _⟩ | ⟨p1, p2⟩ <;> rcases b3 with ⟨q1, q2, _⟩ | ⟨q1, q2⟩
        · rw [p2] at q2; injection q2
        · omega
        · omega
        · omega
      · rcases a3 with ⟨p1, p2, p3⟩ | ⟨p1, p2⟩
        · obtain ⟨l', hl'⟩ := oldlive j1 i p2
          exact hi.W.no i j x y l' m hl' b3 p3 b4 e
        · have h1 := hbig j1 x (by omega) a2
          have h2 := hi.W.ob_lt b3 b4
          omega
      · rcases b3 with ⟨p1, p2, p3⟩ | ⟨p1, p2⟩
        · obtain ⟨l', hl'⟩ := oldlive j2 j p2
          exact hi.W.no i j x y l l' a3 hl' a4 p3 e
        · have h1 := hbig j2 y (by omega) b2
          have h2 := hi.W.ob_lt a3 a4
          omega
      · exact hi.W.no i j x y l m a3 b3 a4 b4 e
    · rw [hcb]
      rcases src i l x hl hx with ⟨j1, a1, a2, a3⟩ | ⟨a1, a2, a3, a4⟩
      · rcases a3 with ⟨p1, p2, p3⟩ | ⟨p1, p2⟩
        · obtain ⟨l', hl'⟩ := oldlive j1 i p2
          exact hi.W.nbo i x l' hl' p3
        · intro hm
          obtain ⟨z, hz⟩ := List.getElem?_of_mem hm
          have h1 := hbig j1 x (by omega) a2
          have h2 := hi.W.bb_lt hz
          omega
      · exact hi.W.nbo i x l a3 a4
    · rw [hcb]
      rw [hcρ] at hu
      rcases hnew ad u hu with hu | hu
      · exact hi.W.sb ad u hu
      · intro hm
        obtain ⟨z, hz⟩ := List.getElem?_of_mem hm
        have h2 := hi.W.bb_lt hz
        omega
    · rw [hcρ] at hu
      rcases src i l x hl hx with ⟨j1, a1, a2, _⟩ | ⟨a1, a2, a3, a4⟩
      · exact hW'.so ad u j1 x l hu a1 a2
      · rcases hnew ad u hu with hu | hu
        · exact hi.W.so ad u i x l hu a3 a4
        · have := hi.W.ob_lt a3 a4
          omega
    · refine hi.kp.trans (hkp.mono hi.kp.size fun g hg hm => ?_)
      obtain ⟨i', x, l', g1, g2, g3, g4⟩ := hgs g hm
      rcases hi.row_own g2 with h1 | h1
      · omega
      · rw [← g4]; exact h1
    · rw [hcρ] at hu
      rcases hnew ad u hu with hu | hu
      · exact hi.new ad u hu
      · exact .inr (Nat.le_trans hi.kp.size hu)
    · rcases Nat.lt_or_ge i ob.length with h1 | h1
      · rw [ob_lo h1] at hx; exact hi.obB i x hl hx
      · rw [ob_hi h1] at hx
        exact Nat.le_trans hi.kp.size (hbig _ x (by omega) hx)
  refine ⟨v, ren σ ob.length r, c', _, rfl, hI, ?_, k r rows' hQ, fun e => by cases e⟩
  refine hrep.ren (by rw [hc']) fun i x hx => ?_
  replace hx : obs'[i]? = some x := hx
  rcases Nat.lt_or_ge i σ.length with h1 | h1
  · have h2 := renI_lt (m := ob.length) h1
    have h3 := hlt _ (List.mem_of_getElem? h2)
    rw [ob_lo h3, ← hobs _ _ h2]
    have h4 := List.getElem?_eq_getElem (show i < obs.length by omega)
    have h5 := hext i _ h4
    rw [hx] at h5
    rw [h4, ← h5]
  · rw [renI_ge h1, ob_hi (by omega)]
    have : σ.length + (ob.length + (i - σ.length) - ob.length) = i := by omega
    rw [this]; exact hx
mutual
def noB : PV → Bool
  | .ptr _ _ => false
  | .agg l => noBL l
  | .tup l => noBL l
  | .arr _ _ _ => true
  | .ead _ _ => true
  | .val _ => true
  | .nil => true
  | .ws _ _ => true
  | .sl _ _ => true
  | .fs _ _ _ => true
  | .cel _ => true
  | .cw _ _ _ => true
  | .cf _ _ _ => true
  | .emp => true
  | .any => true
def noBL : List PV → Bool
  | [] => true
  | p :: l => noB p && noBL l
end
structure RetM (n : Nat) (Q : PV → List (Option Row) → Prop) (r : PV) (ob : List (Option Row)) : Prop where
  h : ∃ (σ : List Nat) (r1 r2 : PV) (rs : List (Option Row)), ren σ 0 r1 = r ∧ okA σ.length r1 = true ∧ σ.Nodup ∧ (∀ i : Nat, i < n → σ[i]? = some i) ∧ σ.map (fun q => ob[q]?) = rs.map some ∧ Lp r1 r2 ∧ Q r2 rs
theorem ret_m {n : Nat} {Q : PV → List (Option Row) → Prop} {r : PV} {ob : List (Option Row)} (σ : List Nat) (r1 : PV) (rs : List (Option Row)) (h1 : ren σ 0 r1 = r) (h2 : okA σ.length r1 = true) (h3 : σ.Nodup) (h4 : ∀ i : Nat, i < n → σ[i]? = some i) (h5 : σ.map (fun q => ob[q]?) = rs.map some) (h : Q r1 rs) : RetM n Q r ob := ⟨σ, r1, r1, rs, h1, h2, h3, h4, h5, .refl _, h⟩
def vEndM (TT : List TI) (n : Nat) (rs : List ResultVar) (Q : PV → List (Option Row) → Prop) (s : St) : Prop := vRes TT s rs fun l => tupG l fun p => match noB p with
  | true => RetM n Q p s.ob
  | false => False
theorem SimW.sel {c : Cx} {bx : List (List PV)} {ob : List (Option Row)} {w : World} (h : SimW c bx ob w) {σ : List Nat} {rs : List (Option Row)} (hr : σ.map (fun q => ob[q]?) = rs.map some) (hnd : σ.Nodup) : ∃ obs : List Ob, obs.length = σ.length ∧ (∀ (j q : Nat), σ[j]? = some q → obs[j]? = c.ob[q]?) ∧ SimW ⟨c.ρ, [], obs⟩ [] rs w := by
  have hkl : σ.length = rs.length := by have := congrArg List.length hr; simpa using this
  have hsig : ∀ (j q : Nat), σ[j]? = some q → ∃ r, rs[j]? = some r ∧ ob[q]? = some r := by
    intro j q hj
    have h1 := congrArg (fun l => l[j]?) hr
    simp only [List.getElem?_map, hj, Option.map_some] at h1
    cases hq : rs[j]? with
    | none => simp [hq] at h1
    | some r => simp [hq] at h1; exact ⟨r, rfl, h1⟩
  have hrow : ∀ (j : Nat) (r : Option Row), rs[j]? = some r → ∃ q, σ[j]? = some q ∧ ob[q]? = some r := by
    intro j r hj
    have h1 := congrArg (fun l => l[j]?) hr
    simp only [List.getElem?_map, hj, Option.map_some] at h1
    cases hq : σ[j]? with
    | none => simp [hq] at h1
    | some q => simp [hq] at h1; exact ⟨q, rfl, h1⟩
  have hlt : ∀ q ∈ σ, q < ob.length := by
    intro q hq
    obtain ⟨j, hj⟩ := List.getElem?_of_mem hq
    obtain ⟨r, _, h2⟩ := hsig j q hj
    exact (List.getElem?_eq_some_iff.1 h2).1
  have hol := h.ol
  have hobs : ∀ (j q : Nat), σ[j]? = some q → (σ.map fun q => c.ob.getD q ⟨0, 0, 0, 0⟩)[j]? = c.ob[q]? := by
    intro j q hj
    have hq := hlt q (List.mem_of_getElem? hj)
    rw [List.getElem?_map, hj, Option.map_some, List.getD_eq_getElem?_getD, List.getElem?_eq_getElem (by omega)]
    rfl
  refine ⟨_, by simp, hobs, ⟨h.mem, rfl, by simp [hkl], fun i l hl => by simp at hl, fun i r hir => ?_, fun i j g h1 => by simp at h1, fun i j x y l m hl hm hx hy e => ?_, fun i x l _ _ => by simp, fun ad u _ => by simp, fun ad u i x l hu hl hx => ?_⟩⟩
  · obtain ⟨q, h1, h2⟩ := hrow i _ hir
    obtain ⟨x, us, a1, a2⟩ := h.obj q r h2
    exact ⟨x, us, by show (σ.map _)[i]? = _; rw [hobs i q h1]; exact a1, a2⟩
  · obtain ⟨q, h1, h2⟩ := hrow i _ hl
    obtain ⟨q', h1', h2'⟩ := hrow j _ hm
    replace hx : (σ.map _)[i]? = some x := hx
    replace hy : (σ.map _)[j]? = some y := hy
    rw [hobs i q h1] at hx
    rw [hobs j q' h1'] at hy
    have := h.no q q' x y l m h2 h2' hx hy e
    subst this
    exact nodup_idx hnd h1 h1'
  · obtain ⟨q, h1, h2⟩ := hrow i _ hl
    replace hx : (σ.map _)[i]? = some x := hx
    rw [hobs i q h1] at hx
    exact h.so ad u q x l hu h2 hx
theorem resPV_of {rs : List ResultVar} {s : St} {l : List PV} (h : rs.mapM (resOne P s) = some l) {k : PV → Prop} (h2 : tupG l k) : ∃ r, resPV P rs s = some r ∧ k r := by
  unfold tupG at h2
  unfold resPV
  rw [h]
  match l, h2 with
  | [], h2 => exact ⟨_, rfl, h2⟩
  | [p], h2 => exact ⟨_, rfl, h2⟩
  | _ :: _ :: _, h2 => exact ⟨_, rfl, h2⟩
theorem PM.intro {G : List (Nat × List Value)} {f : FuncId} {fn : Func} {cd : Code} {args : List PV} {rows : List Row} {Q : PV → List (Option Row) → Prop} {N : Nat} {rs : List ResultVar} (hTT : TOk P TT) (hf : P.funcs[f]? = some fn) (hb : fn.body = some cd) (hN : fn.ntmps = N) (hrs : fn.results.toList = rs) (hc : callable P f = true) (hn : Nat.ble args.length N = true)
    (h : ∀ F : Fr, F.G = G → F.c0.ob.length = rows.length → vC P F TT X cd (vEndM TT rows.length rs Q) (vEndM TT rows.length rs Q) (fun _ _ => False) ⟨N, argT args, [], rows.map some⟩) : PM P G f args rows Q := by
  refine ⟨hc, ?_⟩
  subst hN; subst hrs
  intro ρ w vs obs hG hW hr
  have hn := Nat.le_of_ble_eq_true hn
  have hl := hr.len
  have hol : obs.length = rows.length := by simpa using hW.ol
  refine calls_of_wp hf hb ?_
  have hi : Inv ⟨G, ⟨ρ, [], obs⟩, w, hG⟩ ⟨ρ, [], obs⟩ ⟨fn.ntmps, argT args, [], rows.map some⟩ { tmps := vs.toArray ++ Array.replicate (fn.ntmps - vs.toArray.size) undef, defers := [] } w := by
    refine ⟨hW, rfl, by simp; omega, fun t => ?_, Kp.refl _ _ _, fun _ _ h => h, fun _ _ h => .inl h, fun _ _ h => h, fun i x hl hx => ?_, fun g hg => by simp at hg⟩
    · show Rep _ (argT args t) _
      rw [argT_get]
      rcases Nat.lt_or_ge t args.length with ht | ht
      · have h1 := List.getElem?_eq_getElem ht
        obtain ⟨u, hu, hr'⟩ := hr.get h1
        have h2 : (vs.toArray ++ Array.replicate (fn.ntmps - vs.toArray.size) undef).getD t undef = u := by
          rw [Array.getD_eq_getD_getElem?, Array.getElem?_append_left (by simp; omega)]
          simp [hu]
        rw [h2, List.getD_eq_getElem?_getD, h1]
        exact hr'
      · have h2 : (vs.toArray ++ Array.replicate (fn.ntmps - vs.toArray.size) undef).getD t undef = undef := by
          rw [Array.getD_eq_getD_getElem?, Array.getElem?_append_right (by simp; omega)]
          simp only [Array.getElem?_replicate]
          split <;> rfl
        rw [h2, List.getD_eq_getElem?_getD, List.getElem?_eq_none ht]
        exact .val _
    · have h1 : obs.length ≤ i := hl
      have := (List.getElem?_eq_some_iff.1 (show obs[i]? = some x from hx)).1
      omega
  refine wp_mono (vC_ok hTT (h _ rfl hol) _ _ _ hi) ?_
  rintro e a' w' ⟨cx', s', hi', hq⟩
  have fin : vEndM TT rows.length fn.results.toList Q s' → a'.defers = [] ∧ ∃ v, (results fn a'.tmps).run P w' = .ok v w' ∧
      ∃ v_1 r_1 ρ' obs' rows', Ending.returned v = .returned v_1 ∧ Q r_1 rows' ∧ (∀ ad u, ρ ad = some u → ρ' ad = some u) ∧ SimW ⟨ρ', [], obs'⟩ [] rows' w' ∧ Rep ⟨ρ', [], obs'⟩ r_1 v_1 ∧ Kp (obs.map (·.g)) w.heap.size w w' ∧
      (∀ ad u, ρ' ad = some u → ρ ad = some u ∨ w.heap.size ≤ ad.block) ∧ (∀ (i : Nat) (x : Ob), obs[i]? = some x → obs'[i]? = some x) ∧ (∀ (i : Nat) (x : Ob), obs.length ≤ i → obs'[i]? = some x → w.heap.size ≤ x.g) := by
    intro hv
    obtain ⟨l, h1, h2⟩ := vRes_ok hTT hv
    obtain ⟨r, hr1, hr2⟩ := resPV_of h1 h2
    obtain ⟨v, hrep, hrun⟩ := results_ok hi' hr1
    split at hr2
    · rename_i hnb
      obtain ⟨σ, r1, r2, rs, g1, g2, g3, g4, g5, g6, g7⟩ := hr2.h
      obtain ⟨obs', s1, s2, s3⟩ := hi'.W.sel g5 g3
      subst g1
      have hrep0 := Rep.unren (c := cx') (d := ⟨cx'.ρ, [], obs'⟩) rfl (fun i x hl hx => by
        have := renI_lt (m := 0) hl
        show obs'[i]? = some x
        rw [s2 _ _ this]; exact hx) g2 hrep
      refine ⟨hi'.nd, v, hrun, v, r2, cx'.ρ, obs', rs, rfl, g7, hi'.rho, s3, g6.rep hrep0, hi'.kp, hi'.new, fun i x hx => ?_, fun i x hl hx => ?_⟩
      · have hil : i < rows.length := by rw [← hol]; exact (List.getElem?_eq_some_iff.1 hx).1
        rw [s2 _ _ (g4 i hil)]
        exact hi'.obp i x hx
      · have hsl : i < σ.length := by rw [← s1]; exact (List.getElem?_eq_some_iff.1 hx).1
        have h5 := List.getElem?_eq_getElem hsl
        rw [s2 _ _ h5] at hx
        refine hi'.obB _ x ?_ hx
        show obs.length ≤ _
        rcases Nat.lt_or_ge σ[i] obs.length with h6 | h6
        · have h7 := g4 σ[i] (by omega)
          have := nodup_idx g3 h5 h7
          omega
        · exact h6
    · cases hr2
  cases e with
  | normal => exact fin hq
  | ret => exact fin hq
  | _ => exact (show False from hq).elim
theorem FC.of_pm {G : List (Nat × List Value)} {f : FuncId} {args : List PV} {Q : PV → List (Option Row) → Prop} {Q' : PV → Prop} (h : PM P G f args [] Q) (k : ∀ r rs, Q r rs → fzG rs r fun r => RetE Q' r) : FC P G f args Q' := by
  refine ⟨h.c, fun ρ w vs hG hm hr => ?_⟩
  have hW : SimW ⟨ρ, [], []⟩ [] (([] : List Row).map some) w := ⟨hm, rfl, rfl, fun i l hi => by simp at hi, fun i r hi => by simp at hi, fun i j g hi => by simp at hi, fun i j x y l m hi => by simp at hi, fun i x l hi => by simp at hi, fun ad u _ => by simp, fun ad u i x l _ hi => by simp at hi⟩
  refine (h.h ρ w vs [] hG hW hr).mono ?_
  rintro e w' ⟨v, r, ρ', obs', rows', rfl, hQ, hρ, hW', hrep, hkp, hnew, hext, hfresh⟩
  have hi : Inv ⟨G, ⟨ρ, [], []⟩, w, hG⟩ ⟨ρ', [], obs'⟩ ⟨0, fun _ => .any, [], rows'⟩ { tmps := #[], defers := [] } w' :=
    ⟨hW', rfl, rfl, fun _ => .any _, hkp, hρ, hnew, hext, fun i x _ hx => hfresh i x (Nat.zero_le _) hx, fun g hg => by simp at hg⟩
  obtain ⟨ρ'', e1, e2, e3, e4⟩ := hi.fz rfl
  obtain ⟨r', g1, g2⟩ := fzG_ok hi e1 e4 hrep (k r rows' hQ)
  obtain ⟨r'', g3, g4⟩ := g2.h
  exact ⟨v, r'', ρ'', rfl, g4, fun ad u hu => e1 _ _ (hρ ad u hu), e2, g3.rep g1, hkp.below, e3⟩
def Own (T : TypeId) (k : IntKind) (l : List Int) (r : PV) (rs : List (Option Row)) : Prop := r = .arr 0 0 l.length ∧ rs = [some ⟨1, T, .w k l⟩]
theorem Own.fc {G : List (Nat × List Value)} {f : FuncId} {args : List PV} {T : TypeId} {k : IntKind} {l : List Int} (h : PM P G f args [] (Own T k l)) : FC P G f args (· = .ws k l) :=
  FC.of_pm h (by rintro r rs ⟨rfl, rfl⟩; exact (fz_all rfl (ret_e rfl) : FzG l 0 l.length fun B => RetE (· = .ws k l) (.ws k B)))
theorem ret_own {q lo : Nat} {T : TypeId} {k : IntKind} {l : List Int} {ob : List (Option Row)} (hr : lo = l.length) (ho : ob[q]? = some (some ⟨1, T, .w k l⟩)) : RetM 0 (Own T k l) (.arr q 0 lo) ob :=
  ret_m [q] (.arr 0 0 lo) [some ⟨1, T, .w k l⟩] rfl rfl (by simp) (fun i h => by omega) (by simp [ho]) ⟨by rw [hr], rfl⟩
theorem call_own {N : Nat} {t : Nat → PV} {bx : List (List PV)} {ob : List (Option Row)} {f : FuncId} {args : List PV} {T : TypeId} {k : IntKind} {l : List Int} {K : St → PV → Prop} {m : Nat} (h : PM P F.G f args [] (Own T k l)) (hok : okAL 0 args = true) (hre : renL [] ob.length args = args) (hm : ob.length = m) (hK : K ⟨N, t, bx, ob ++ [some ⟨1, T, .w k l⟩]⟩ (.arr m 0 l.length)) : CallF P F false f args ⟨N, t, bx, ob⟩ K :=
  call_pm [] h hre hok rfl List.nodup_nil (by rintro r rs ⟨rfl, rfl⟩; subst hm; simpa [putR, ren, renI] using hK)
end
inductive Tr where
  | fin
  | one (i : Nat) (t : Tr)
  | st (t : Tr)
  | two (a b : Tr)
def Tr.path : Tr → List (List Nat)
  | .fin => [[]]
  | .one i t => match t.path with
    | h :: r => (i :: h) :: r
    | [] => [[i]]
  | .st t => [] :: t.path
  | .two a _ => a.path
def Tr.heads : Tr → List Nat
  | .fin => []
  | .one i _ => [i]
  | .st _ => []
  | .two a b => a.heads ++ b.heads
theorem Tr.path_cons : ∀ t : Tr, ∃ h r, t.path = h :: r
  | .fin => ⟨_, _, rfl⟩
  | .one i t => by
    obtain ⟨h, r, e⟩ := t.path_cons
    exact ⟨i :: h, r, by simp only [Tr.path, e]⟩
  | .st t => ⟨_, _, rfl⟩
  | .two a _ => a.path_cons
theorem Tr.path_one (i : Nat) (t : Tr) {h : List Nat} {r : List (List Nat)} (e : t.path = h :: r) : (Tr.one i t).path = (i :: h) :: r := by simp only [Tr.path, e]
structure BothG (A B : Prop) : Prop where
  a : A
  b : B
section
variable {P : Program} {F : Fr} {TT : List TI} {X : List FuncId} {m : Md} {o : Oper} {s : St} {K : St → Prop} {p q : PV} {oa : Array Oper} {l : Array Bool} {i : Nat}
def At (P : Program) (F : Fr) (oa : Array Oper) (cut : Array Bool) (left : Nat) (l : Array Bool) (i : Nat) (K : St → Prop) (s : St) : Prop :=
  ∀ Q c a w, Inv F c s a w → (∀ c' s' a' w', Inv F c' s' a' w' → K s' → Q .normal a' w') → (∀ cc a w, ¬ Q (.panic cc) a w) → ∀ f, left ≤ f → wpOp P oa Q i (fun a' w' => Ext w w' ∧ wpAnyE P oa Q cut f (l.setIfInBounds i true) a' w') a w
theorem At.step {d : Dr} (he : d.listed = l.setIfInBounds i true) (hi : oa[i]? = some o) (hw : pwant oa s o = some true) (h : Does P F o true s fun s' => Ops P F ⟨oa, some d⟩ [] s' K) : At P F oa d.cut d.left l i K s := by
  intro Q c a w hv hq hp f hl
  unfold wpOp
  simp only [hi]
  rw [pwant_ok hv hw, if_pos rfl]
  refine .inl (Oper.wp_mono ?_ (h Q c a w hv))
  rintro a' w' ⟨c', s', hi', hk, he'⟩
  rw [← he]
  exact ⟨he' rfl, hk Q c' a' w' hi' hq hp f hl⟩
theorem At.off {d : Dr} (he : d.listed = l.setIfInBounds i true) (hi : oa[i]? = some o) (hw : pwant oa s o = some false) (hd : s.fits o.dst = true) (h : Ops P F ⟨oa, some d⟩ [] (s.put o.dst (.val undef)) K) : At P F oa d.cut d.left l i K s := by
  intro Q c a w hv hq hp f hl
  unfold wpOp
  simp only [hi]
  rw [pwant_ok hv hw, if_neg (by simp), ← he]
  exact ⟨Ext.refl w, h Q c _ w (hv.put hd (.val undef)) hq hp f hl⟩
theorem At.fork {d : Dr} (hne : Region.ready .any oa d.listed ≠ []) (hl : 0 < d.left) (h : ∀ i ∈ Region.ready .any oa d.listed, At P F oa d.cut (d.left - 1) d.listed i K s) : Ops P F ⟨oa, some d⟩ [] s K := by
  intro Q c a w hi hq hp f hf
  obtain ⟨g, rfl⟩ : ∃ g, f = g + 1 := ⟨f - 1, by have : d.left ≤ f := hf; omega⟩
  exact .inr ⟨hne, fun j hj => h j hj Q c a w hi hq hp g (by have : d.left ≤ g + 1 := hf; omega)⟩
theorem upd_self {t : Nat → PV} {d : Nat} {v : PV} (h : t d = v) : upd t d v = t := by
  funext x
  by_cases hx : x = d
  · subst hx; rw [upd_same, h]
  · rw [upd_ne _ _ _ hx]
theorem vG_ok {all : List Oper} {A B R : St → Prop} (ha : oa = all.toArray) (h : vG all o s A B) (on : ∀ s', pwant oa s' o = some true → A s' → R s') (off : ∀ s', pwant oa s' o = some false → B s' → R s') : R s := by
  simp only [vG] at h
  cases hg : o.guard with
  | none =>
    simp only [hg] at h
    exact on s (by simp [pwant, hg]) h
  | some jw =>
    obtain ⟨j, want⟩ := jw
    obtain ⟨N, t, bx, ob⟩ := s
    cases hoj : lget all j with
    | none => simp [hg, hoj] at h
    | some oj =>
    cases hd : oj.dst with
    | none => simp [hg, hoj, hd] at h
    | some d =>
    simp only [hg, hoj, hd] at h
    rw [lget_eq] at hoj
    have hj : (oa[j]?).bind (·.dst) = some d := by rw [ha]; simp [hoj, hd]
    have pw : ∀ c, pwant oa ⟨N, upd t d (.val (.bool c)), bx, ob⟩ o = some (c == want) := by
      intro c
      simp [pwant, hg, hj, upd_same]
    have key : ∀ (b : Bool) (A B : St → Prop), t d = .val (.bool b) → ForkG b (A ⟨N, upd t d (.val (.bool true)), bx, ob⟩) (B ⟨N, upd t d (.val (.bool false)), bx, ob⟩) → (∀ s', s' = (⟨N, upd t d (.val (.bool true)), bx, ob⟩ : St) → A s' → R s') → (∀ s', s' = (⟨N, upd t d (.val (.bool false)), bx, ob⟩ : St) → B s' → R s') → R ⟨N, t, bx, ob⟩ := by
      intro b A B hb hf hA hB
      cases b with
      | true => have := hA _ rfl (hf.t rfl); rwa [upd_self hb] at this
      | false => have := hB _ rfl (hf.f rfl); rwa [upd_self hb] at this
    generalize htd : t d = y at h
    cases y with
    | val v =>
      cases v with
      | bool b =>
        cases want with
        | true => exact key b _ _ htd h (fun s' e h => on s' (by rw [e, pw]; rfl) h) (fun s' e h => off s' (by rw [e, pw]; rfl) h)
        | false => exact key b _ _ htd h (fun s' e h => off s' (by rw [e, pw]; rfl) h) (fun s' e h => on s' (by rw [e, pw]; rfl) h)
      | tuple vs => exact off _ (by simp [pwant, hg, hj, htd]) h
      | _ => exact (show False from h).elim
    | _ => exact (show False from h).elim
theorem vOp_sem (hTT : TOk P TT) {C D : St → Prop} (hv : vOp P F TT X m o s C) (hC : ∀ s, C s → D s) : Sem P F m o s D := by
  have := vOp_ok hTT hv
  cases m with
  | S => obtain ⟨p, a, b, c⟩ := this; exact ⟨p, a, b, hC _ c⟩
  | E => exact fun Q c a w hi => Oper.wp_mono (fun a' w' ⟨c', s', x, y, z⟩ => ⟨c', s', x, hC _ y, z⟩) (this Q c a w hi)
  | L => exact fun Q c a w hi => Oper.wp_mono (fun a' w' ⟨c', s', x, y, z⟩ => ⟨c', s', x, hC _ y, z⟩) (this Q c a w hi)
theorem vStep (hTT : TOk P TT) {r : Rg} {all : List Oper} {rest : List Oper} {C : St → Prop} (h1 : okM r m o) (ha : r.ops = all.toArray) (hC : ∀ s, C s → Ops P F r.next rest s K) (h : vG all o s (fun s => vOp P F TT X m o s C) (fun s => vPut o.dst s (.val undef) C)) : Ops P F r (o :: rest) s K :=
  vG_ok (R := fun s => Ops P F r (o :: rest) s K) ha h (fun s' hw hv => Ops.sem (vOp_sem hTT hv hC) hw h1) (fun s' hw hv => by
    obtain ⟨e1, e2⟩ := vPut_ok hv
    exact Ops.offM hw e1 h1 (hC _ e2))
theorem vStepAt (hTT : TOk P TT) {d : Dr} {all : List Oper} {C : St → Prop} (he : d.listed = l.setIfInBounds i true) (hi : oa[i]? = some o) (ha : oa = all.toArray) (hC : ∀ s, C s → Ops P F ⟨oa, some d⟩ [] s K) (h : vG all o s (fun s => vOp P F TT X .E o s C) (fun s => vPut o.dst s (.val undef) C)) : At P F oa d.cut d.left l i K s :=
  vG_ok (R := At P F oa d.cut d.left l i K) ha h (fun s' hw hv => At.step he hi hw (vOp_sem hTT hv hC)) (fun s' hw hv => by
    obtain ⟨e1, e2⟩ := vPut_ok hv
    exact At.off he hi hw e1 (hC _ e2))
def vT (P : Program) (F : Fr) (TT : List TI) (X : List FuncId) (all : List Oper) (t : Tr) (s : St) (K : St → Prop) : Prop := match t with
  | .fin => K s
  | .one i t => vG all (nthO all i) s (fun s => vOp P F TT X (kind X (nthO all i)) (nthO all i) s fun s => vT P F TT X all t s K) (fun s => vPut (nthO all i).dst s (.val undef) fun s => vT P F TT X all t s K)
  | .st t => vT P F TT X all t s K
  | .two a b => BothG (vT P F TT X all a s K) (vT P F TT X all b s K)
def isL : Md → Bool
  | .L => true
  | _ => false
def chkT (X : List FuncId) (ops : List Oper) (t : Tr) (l : Array Bool) (inF : Bool) : Bool := match t with
  | .fin => !inF && (Region.ready .any ops.toArray l).isEmpty
  | .one i t => Nat.blt i ops.length && (match kind X (nthO ops i) with
    | .S => !inF && (match t.path with
      | h :: _ => chkS ops.toArray l i h
      | [] => false)
    | .E => inF || sole ops.toArray l i
    | .L => false) && chkT X ops t (l.setIfInBounds i true) false
  | .st t => !inF && (match t with
    | .one i t => Nat.blt i ops.length && isL (kind X (nthO ops i)) && sole ops.toArray l i && chkT X ops t (l.setIfInBounds i true) false
    | _ => false)
  | .two a b => decide ((Dr.mk a.path l).cut = (Dr.mk b.path l).cut) && decide ((Dr.mk a.path l).left = (Dr.mk b.path l).left) && Nat.blt 0 (Dr.mk a.path l).left && chkT X ops a l true && chkT X ops b l true && (inF || (!(Region.ready .any ops.toArray l).isEmpty && (Region.ready .any ops.toArray l).all fun j => (Tr.two a b).heads.contains j))
theorem left_one {i : Nat} {h : List Nat} {r : List (List Nat)} {l l' : Array Bool} : (Dr.mk ((i :: h) :: r) l).left = (Dr.mk (h :: r) l').left + 1 := by simp [Dr.left]; omega
theorem vT_ok (hTT : TOk P TT) {all : List Oper} : ∀ (t : Tr) (l : Array Bool) (inF : Bool) (s : St), chkT X all t l inF = true → vT P F TT X all t s K →
    (inF = false → Ops P F ⟨all.toArray, some ⟨t.path, l⟩⟩ [] s K) ∧ (inF = true → ∀ i ∈ t.heads, At P F all.toArray (Dr.mk t.path l).cut ((Dr.mk t.path l).left - 1) l i K s)
  | .fin, l, inF, s, hc, h => by
    simp only [chkT, Bool.and_eq_true, Bool.not_eq_true', List.isEmpty_iff] at hc
    exact ⟨fun _ => Ops.nil h ⟨rfl, hc.2⟩, fun e => by rw [hc.1] at e; cases e⟩
  | .one i t, l, inF, s, hc, h => by
    obtain ⟨hd, r, e⟩ := t.path_cons
    simp only [chkT, Bool.and_eq_true] at hc
    obtain ⟨⟨c1, c2⟩, c3⟩ := hc
    have hlt : i < all.length := by simpa using c1
    have hget : all.toArray[i]? = some (nthO all i) := by simpa using nthO_get hlt
    have hC : ∀ s, vT P F TT X all t s K → Ops P F ⟨all.toArray, some ⟨hd :: r, l.setIfInBounds i true⟩⟩ [] s K := fun s hs => by
      have := (vT_ok hTT t (l.setIfInBounds i true) false s c3 hs).1 rfl
      rwa [e] at this
    rw [Tr.path_one i t e]
    simp only [vT] at h
    generalize hmd : kind X (nthO all i) = md at h c2
    cases md with
    | S =>
      rw [e] at c2
      simp only [Bool.and_eq_true, Bool.not_eq_true'] at c2
      refine ⟨fun _ => ?_, fun e => by rw [c2.1] at e; cases e⟩
      exact vStep (m := .S) (r := ⟨all.toArray, some ⟨(i :: hd) :: r, l⟩⟩) (rest := []) hTT ⟨hget, c2.2⟩ rfl hC h
    | E =>
      simp only [Bool.or_eq_true] at c2
      refine ⟨fun e' => ?_, fun _ j hj => ?_⟩
      · subst e'
        exact vStep (r := ⟨all.toArray, some ⟨(i :: hd) :: r, l⟩⟩) (rest := []) hTT (m := .E) ⟨hget, by simpa using c2⟩ rfl hC h
      · obtain rfl : j = i := by simpa [Tr.heads] using hj
        have := vStepAt (l := l) (d := ⟨hd :: r, l.setIfInBounds j true⟩) hTT rfl hget rfl hC h
        rw [left_one (l' := l.setIfInBounds j true), Nat.add_sub_cancel]
        have ec : (Dr.mk ((j :: hd) :: r) l).cut = (Dr.mk (hd :: r) (l.setIfInBounds j true)).cut := by simp [Dr.cut, setAll]
        rw [ec]
        exact this
    | L => cases c2
  | .st t, l, inF, s, hc, h => by
    cases t with
    | one i t =>
      simp only [chkT, Bool.and_eq_true, Bool.not_eq_true'] at hc
      obtain ⟨c0, ⟨⟨c1, c2⟩, c3⟩, c4⟩ := hc
      refine ⟨fun _ => ?_, fun e => by rw [c0] at e; cases e⟩
      obtain ⟨hd, r, e⟩ := t.path_cons
      have hlt : i < all.length := by simpa using c1
      have hget : all.toArray[i]? = some (nthO all i) := by simpa using nthO_get hlt
      have hC : ∀ s, vT P F TT X all t s K → Ops P F ⟨all.toArray, some ⟨hd :: r, l.setIfInBounds i true⟩⟩ [] s K := fun s hs => by
        have := (vT_ok hTT t (l.setIfInBounds i true) false s c4 hs).1 rfl
        rwa [e] at this
      have ep : (Tr.st (.one i t)).path = [] :: (i :: hd) :: r := by rw [Tr.path, Tr.path_one i t e]
      rw [ep]
      simp only [vT] at h
      generalize hmd : kind X (nthO all i) = md at h c2
      cases md with
      | L => exact vStep (r := ⟨all.toArray, some ⟨[] :: (i :: hd) :: r, l⟩⟩) (rest := []) hTT (m := .L) ⟨hget, c3⟩ rfl hC h
      | S => cases c2
      | E => cases c2
    | _ => simp [chkT] at hc
  | .two a b, l, inF, s, hc, h => by
    simp only [chkT, Bool.and_eq_true, decide_eq_true_eq] at hc
    obtain ⟨⟨⟨⟨⟨c1, c2⟩, c0⟩, c3⟩, c4⟩, c5⟩ := hc
    simp only [vT] at h
    have ia := (vT_ok hTT a l true s c3 h.a).2 rfl
    have ib := (vT_ok hTT b l true s c4 h.b).2 rfl
    rw [← c1, ← c2] at ib
    have hall : ∀ i ∈ (Tr.two a b).heads, At P F all.toArray (Dr.mk a.path l).cut ((Dr.mk a.path l).left - 1) l i K s := fun i hi => by
      rcases List.mem_append.1 hi with h1 | h1
      · exact ia i h1
      · exact ib i h1
    refine ⟨fun e => ?_, fun _ => hall⟩
    subst e
    simp only [Bool.false_or, Bool.and_eq_true, Bool.not_eq_true', List.all_eq_true] at c5
    refine At.fork (d := ⟨a.path, l⟩) (fun e => ?_) (by simpa using c0) fun i hi => hall i (by simpa using c5.2 i hi)
    have e2 : Region.ready .any all.toArray l = [] := e
    rw [e2] at c5
    simp at c5
theorem draw_t {id : Nat} {ops : List Oper} (t : Tr) (hTT : TOk P TT) (hm : P.follows .mixedOrders = true) (hl : Nat.ble t.path.flatten.length ops.length = true) (hc : chkT X ops t (Array.replicate ops.length false) false = true) (h : vT P F TT X ops t s K) : DrawG P F TT X id ops s K := by
  refine ⟨?_⟩
  intro cx a w hi
  have hi' : Inv F cx s a { w with drawn := w.drawn + 1 } := ⟨hi.W.grow fun _ _ => rfl, hi.nd, hi.sz, hi.tm, hi.kp.drew, hi.rho, hi.new, hi.obp, hi.obB, hi.bbB⟩
  have h0 := (vT_ok hTT t (Array.replicate ops.length false) false s hc h).1 rfl
  have h1 := h0 (fun e a w => e = .normal ∧ ∃ cx' s', Inv F cx' s' a w ∧ K s') cx a _ hi' (fun c' s' a' w' hi' hk => ⟨rfl, c', s', hi', hk⟩) (fun cc a w hq => by cases hq.1) ops.toArray.size (by simpa [Dr.left, List.length_flatten] using Nat.le_of_ble_eq_true hl)
  have h2 := wpAnyE.any _ _ _ _ h1
  refine wp_mono (wp_region_any hm (by simpa using h2)) ?_
  rintro e a' w' ⟨rfl, cx', s', hi'', hq⟩
  exact ⟨cx', s', hi'', hq⟩
end
inductive Mk : Prop → Prop
  | m0 : Mk False
  | mRetE {Q : PV → Prop} {r : PV} : Mk (RetE Q r)
  | mRetM {n : Nat} {Q : PV → List (Option Row) → Prop} {r : PV} {ob : List (Option Row)} : Mk (RetM n Q r ob)
  | mAgain {T : Type} {I : T → Prop} {μ : T → Nat} {N n : Nat} {S : T → List (Nat × PV)} {B : T → List (List PV)} {O : T → List (Option Row)} {s : St} : Mk (Again I μ N S B O n s)
  | mCallF {P : Program} {F : Fr} {e : Bool} {f : FuncId} {l : List PV} {s : St} {K : St → PV → Prop} : Mk (CallF P F e f l s K)
  | mLoopG {P : Program} {F : Fr} {TT : List TI} {X : List FuncId} {c : Code} {kr : St → Prop} {kx : Nat → St → Prop} {s : St} : Mk (LoopG P F TT X c kr kx s)
  | mDrawG {P : Program} {F : Fr} {TT : List TI} {X : List FuncId} {id : Nat} {ops : List Oper} {s : St} {K : St → Prop} : Mk (DrawG P F TT X id ops s K)
  | mWrapG {k : IntKind} {n : Int} {K : Int → Prop} : Mk (WrapG k n K)
  | mDivG {k : IntKind} {a b : Int} {K : Int → Prop} : Mk (DivG k a b K)
  | mModG {a b : Int} {K : Int → Prop} : Mk (ModG a b K)
  | mShlG {k : IntKind} {a b : Int} {K : Int → Prop} : Mk (ShlG k a b K)
  | mShrG {k : IntKind} {a b : Int} {K : Int → Prop} : Mk (ShrG k a b K)
  | mBitG {o : BinOp} {k : IntKind} {a b : Int} {K : Int → Prop} : Mk (BitG o k a b K)
  | mIdxG {i n : Int} {K : Int → Prop} : Mk (IdxG i n K)
  | mIdxL {i : Int} {n : Nat} {K : Nat → Prop} : Mk (IdxL i n K)
  | mSlcG {l h m n : Int} {K : Prop} : Mk (SlcG l h m n K)
  | mMakG {n m : Int} {nb : Nat} {K : Prop} : Mk (MakG n m nb K)
  | mAppG {F : Fr} {q n la lb nb : Nat} {K : Prop} : Mk (AppG F q n la lb nb K)
  | mFzG {A : List Int} {b n : Nat} {K : List Int → Prop} : Mk (FzG A b n K)
  | mRawG {A : Prop} : Mk (RawG A)
  | mTabG {F : Fr} {g n : Nat} {i : Int} {K : PV → Prop} : Mk (TabG F g n i K)
  | mExtF {P : Program} {f : FuncId} {vs : List Value} {K : PV → Prop} : Mk (ExtF P f vs K)
  | mChk {c K : Prop} : Mk (Chk c K)
theorem smk {A : Prop} (h : Stuck A) (m : Mk A := by constructor) : A := h.h
theorem ceq {P : Program} {F : Fr} {s : St} {f : FuncId} {e : Bool} {args : List PV} {r : PV} {K : St → PV → Prop} (h : FC P F.G f args (· = r)) (hno : noHL args = true) (k : K s r) : CallF P F e f args s K := call_eq h (LpL.refl _) hno k
theorem Ax1 {c K : Prop} (k : K) (h : c := by first | omega | exact trivial | (simp only [List.length_append, List.length_set, List.length_replicate, List.length_take, List.length_drop, List.length_cons, List.length_nil, List.length_map]; omega)) : Chk c K := Chk.mk' h k
theorem Ax2 {k : IntKind} {n : Int} {K : Int → Prop} (x : K n) (h : inR k n := by dsimp only [inR]; omega) : WrapG k n K := wrap_g h x
theorem Ax3 {i n : Int} {K : Int → Prop} (h : K i) (c : 0 ≤ i ∧ i < n := by omega) : IdxG i n K := idx_g c h
theorem Ax4 {b : Bool} {A B : Prop} (t : A) (e : b = true := by decide) : ForkG b A B := fork_e e (fork_tt t)
theorem Ax5 {b : Bool} {A B : Prop} (f : B) (e : b = false := by decide) : ForkG b A B := fork_e e (fork_ff f)
theorem Ax6 {p : Prop} [Decidable p] {A B : Prop} (t : A) (h : p := by omega) : ForkG (decide p) A B := fork_t h t
theorem Ax7 {p : Prop} [Decidable p] {A B : Prop} (f : B) (h : ¬ p := by omega) : ForkG (decide p) A B := fork_f h f
theorem Ax8 {l h m n : Int} {K : Prop} (k : K) (c : 0 ≤ l ∧ l ≤ h ∧ h ≤ n ∧ m = h := by omega) : SlcG l h m n K := ⟨c, k⟩
theorem Ax9 {n m : Int} {nb : Nat} {K : Prop} (k : K) (c : 0 ≤ n ∧ n ≤ m ∧ (nb : Int) * m ≤ 281474976710656 ∧ m ≤ 9223372036854775807 := by dsimp only; omega) : MakG n m nb K := ⟨c, k⟩
theorem AxA {F : Fr} {q n la lb nb : Nat} {K : Prop} (k : K) (e : n = la := by first | omega | (simp only [List.length_append, List.length_set, List.length_replicate, List.length_take, List.length_drop, List.length_cons, List.length_nil, List.length_map]; omega)) (c : (n + lb) * nb ≤ 140737488355328 ∧ n + lb ≤ 9223372036854775807 := by dsimp only [List.length_cons, List.length_nil]; omega) (own : F.c0.ob.length ≤ q := by omega) : AppG F q n la lb nb K := ⟨e, c, own, k⟩
theorem AxB {k : IntKind} {a b : Int} {K : Int → Prop} (x : K (a / b)) (h : 0 ≤ a := by omega) (hb : 0 < b := by omega) (hr : inR k a := by dsimp only [inR]; omega) : DivG k a b K := div_g h hb hr x
theorem AxC {a b : Int} {K : Int → Prop} (x : K (a % b)) (h : 0 ≤ a := by omega) (hb : 0 < b := by omega) : ModG a b K := mod_g h hb x
theorem AxD {A : List Int} {n : Nat} {K : List Int → Prop} (k : K A) (h : n = A.length := by omega) : FzG A 0 n K := fz_all h k
theorem ax_s {A B : Prop} (k : B) (h : B → A := by first | exact fun k => Ax1 k | exact fun k => Ax2 k | exact fun k => Ax3 k | exact fun k => idx_l _ rfl (by decide) k | exact fun k => fork_tt k | exact fun k => fork_ff k | exact fun k => Ax4 k | exact fun k => Ax5 k | exact fun k => Ax6 k | exact fun k => Ax7 k | exact fun k => fork_n k | exact fun k => Ax8 k | exact fun k => Ax9 k | exact fun k => AxA k | exact fun k => AxB k | exact fun k => AxC k | exact fun k => mask_g (m := 4294967296) 32 rfl rfl (by decide) (by omega) k | exact fun k => shr_g (m := 4294967296) 32 rfl (by decide) (by omega) rfl k | exact fun k => AxD k | exact fun k => smk k) : A := h k
theorem ax_f {A B C : Prop} (k : B) (l : C) (h : B → C → A := by first | exact fun k l => fork_d k l | exact fun k l => fork_b k l | exact fun k l => BothG.mk k l) : A := h k l
inductive Tq where
  | fin
  | take (i : Nat) (t : Tq)
  | one (i : Nat) (t : Tq)
  | two (i : Nat) (a : Tq) (j : Nat) (b : Tq)
def Tq.size : Tq → Nat
  | .fin => 0
  | .take _ t => t.size + 1
  | .one _ t => t.size + 1
  | .two _ a _ b => max a.size b.size + 1
section
variable {P : Program} {F : Fr} {TT : List TI} {X : List FuncId} {m : Md} {o : Oper} {s : St} {K : St → Prop}
def vQ (P : Program) (F : Fr) (TT : List TI) (X : List FuncId) (all : List Oper) (t : Tq) (s : St) (K : St → Prop) : Prop := match t with
  | .fin => K s
  | .take i t => vOp P F TT X .S (nthO all i) s fun s => vQ P F TT X all t s K
  | .one i t => vOp P F TT X (kind X (nthO all i)) (nthO all i) s fun s => vQ P F TT X all t s K
  | .two i a j b => BothG (vOp P F TT X (kind X (nthO all i)) (nthO all i) s fun s => vQ P F TT X all a s K) (vOp P F TT X (kind X (nthO all j)) (nthO all j) s fun s => vQ P F TT X all b s K)
def okI (ops : List Oper) (i : Nat) : Bool := Nat.blt i ops.length && (nthO ops i).guard.isNone
def isTwo (l : List Nat) (i j : Nat) : Bool := match l with
  | [x, y] => Nat.beq x i && Nat.beq y j
  | _ => false
def chkQ (ops : List Oper) (t : Tq) (l : Array Bool) : Bool := match t with
  | .fin => (Region.ready .any ops.toArray l).isEmpty
  | .take i t => okI ops i && chkP ops.toArray l i && pureO (nthO ops i) && chkQ ops t (l.setIfInBounds i true)
  | .one i t => okI ops i && sole ops.toArray l i && chkQ ops t (l.setIfInBounds i true)
  | .two i a j b => okI ops i && okI ops j && isTwo (Region.ready .any ops.toArray l) i j && chkQ ops a (l.setIfInBounds i true) && chkQ ops b (l.setIfInBounds j true)
theorem Sem.run {C : St → Prop} (h : Sem P F m o s C) (Q : Exit → Act → World → Prop) {c : Cx} {a : Act} {w : World} (hi : Inv F c s a w) : o.wp P a w (fun a' w' => ∃ c' s', Inv F c' s' a' w' ∧ C s') Q := by
  cases m with
  | S =>
    obtain ⟨p, h1, h2, h3⟩ := h
    exact Oper.wp_mono (fun a' w' ⟨c', s', x, y, _⟩ => ⟨c', s', x, y⟩) (h1.does (K := C) h2 h3 Q c a w hi)
  | E => exact Oper.wp_mono (fun a' w' ⟨c', s', x, y, _⟩ => ⟨c', s', x, y⟩) (h Q c a w hi)
  | L => exact Oper.wp_mono (fun a' w' ⟨c', s', x, y, _⟩ => ⟨c', s', x, y⟩) (h Q c a w hi)
theorem okI_ok {ops : List Oper} {i : Nat} (h : okI ops i = true) : ops.toArray[i]? = some (nthO ops i) ∧ ∀ s, pwant ops.toArray s (nthO ops i) = some true := by
  simp only [okI, Bool.and_eq_true] at h
  have hlt : i < ops.length := by simpa using h.1
  have hg : (nthO ops i).guard = none := by simpa using h.2
  exact ⟨by simpa using nthO_get hlt, fun s => by simp [pwant, hg]⟩
theorem vQ_op (hTT : TOk P TT) {all : List Oper} {C : St → Prop} {i : Nat} {m : Md} (h1 : okI all i = true) (h : vOp P F TT X m (nthO all i) s C) {Q : Exit → Act → World → Prop} {f : Nat} {l : Array Bool} {c : Cx} {a : Act} {w : World} (hv : Inv F c s a w)
    (k : ∀ c' s' a' w', Inv F c' s' a' w' → C s' → wpAny P .any all.toArray Q f l a' w') : wpOp P all.toArray Q i (wpAny P .any all.toArray Q f l) a w := by
  obtain ⟨g1, g2⟩ := okI_ok h1
  unfold wpOp
  simp only [g1]
  rw [pwant_ok hv (g2 s), if_pos rfl]
  exact .inl (Oper.wp_mono (fun a' w' ⟨c', s', hi', hC⟩ => k c' s' a' w' hi' hC) ((vOp_sem hTT h fun s h => h).run Q hv))
theorem vQ_ok (hTT : TOk P TT) {all : List Oper} : ∀ (t : Tq) (l : Array Bool) (s : St), chkQ all t l = true → vQ P F TT X all t s K →
    ∀ Q c a w, Inv F c s a w → (∀ c' s' a' w', Inv F c' s' a' w' → K s' → Q .normal a' w') → (∀ cc a w, ¬ Q (.panic cc) a w) → ∀ f, t.size ≤ f → wpAny P .any all.toArray Q f l a w
  | .fin, l, s, hc, h => by
    intro Q c a w hi hq hp f hf
    exact wpAny_done (by simpa [chkQ, List.isEmpty_iff] using hc) (hq c s a w hi h) f
  | .take i t, l, s, hc, h => by
    intro Q c a w hi hq hp f hf
    simp only [chkQ, Bool.and_eq_true] at hc
    obtain ⟨⟨⟨c1, c2⟩, c3⟩, c4⟩ := hc
    obtain ⟨g1, g2⟩ := okI_ok c1
    simp only [chkP, Bool.and_eq_true] at c2
    obtain ⟨⟨d1, d2⟩, d3⟩ := c2
    obtain ⟨g, rfl⟩ : ∃ g, f = g + 1 := ⟨f - 1, by simp only [Tq.size] at hf; omega⟩
    obtain ⟨p, h1, h2, h3⟩ := vOp_sem hTT (m := .S) h fun s h => h
    obtain ⟨u, hr, hrun⟩ := h1 c a w hi
    exact wpAny_take g1 d1 d2 d3 (fun c a w h => absurd h (hp _ _ _)) (.inl ⟨pwant_ok hi (g2 s), fun w' => hrun w' (.inr c3)⟩) (vQ_ok hTT t _ _ c4 h3 Q c _ w (hi.put h2 hr) hq hp g (by simp only [Tq.size] at hf; omega))
  | .one i t, l, s, hc, h => by
    intro Q c a w hi hq hp f hf
    simp only [chkQ, Bool.and_eq_true] at hc
    obtain ⟨⟨c1, c2⟩, c3⟩ := hc
    obtain ⟨g, rfl⟩ : ∃ g, f = g + 1 := ⟨f - 1, by simp only [Tq.size] at hf; omega⟩
    refine wpAny_all (sole_ok c2) (by simp) fun j hj => ?_
    obtain rfl : j = i := by simpa using hj
    exact vQ_op hTT c1 h hi fun c' s' a' w' hi' hC => vQ_ok hTT t _ s' c3 hC Q c' a' w' hi' hq hp g (by simp only [Tq.size] at hf; omega)
  | .two i a j b, l, s, hc, h => by
    intro Q c x w hi hq hp f hf
    simp only [chkQ, Bool.and_eq_true] at hc
    obtain ⟨⟨⟨⟨c1, c2⟩, c3⟩, c4⟩, c5⟩ := hc
    obtain ⟨g, rfl⟩ : ∃ g, f = g + 1 := ⟨f - 1, by simp only [Tq.size] at hf; omega⟩
    have hr : Region.ready .any all.toArray l = [i, j] := by
      generalize Region.ready .any all.toArray l = r at c3
      unfold isTwo at c3
      split at c3
      · rw [Bool.and_eq_true] at c3
        rw [Nat.eq_of_beq_eq_true c3.1, Nat.eq_of_beq_eq_true c3.2]
      · cases c3
    refine wpAny_all hr (by simp) fun y hy => ?_
    rcases (by simpa using hy : y = i ∨ y = j) with rfl | rfl
    · exact vQ_op hTT c1 h.a hi fun c' s' a' w' hi' hC => vQ_ok hTT a _ s' c4 hC Q c' a' w' hi' hq hp g (by simp only [Tq.size] at hf; omega)
    · exact vQ_op hTT c2 h.b hi fun c' s' a' w' hi' hC => vQ_ok hTT b _ s' c5 hC Q c' a' w' hi' hq hp g (by simp only [Tq.size] at hf; omega)
theorem draw_q {id : Nat} {ops : List Oper} (t : Tq) (hTT : TOk P TT) (hm : P.follows .mixedOrders = true) (hl : Nat.ble t.size ops.length = true) (hc : chkQ ops t (Array.replicate ops.length false) = true) (h : vQ P F TT X ops t s K) : DrawG P F TT X id ops s K := by
  refine ⟨?_⟩
  intro cx a w hi
  have hi' : Inv F cx s a { w with drawn := w.drawn + 1 } := ⟨hi.W.grow fun _ _ => rfl, hi.nd, hi.sz, hi.tm, hi.kp.drew, hi.rho, hi.new, hi.obp, hi.obB, hi.bbB⟩
  have h1 := vQ_ok hTT t (Array.replicate ops.length false) s hc h (fun e a w => e = .normal ∧ ∃ cx' s', Inv F cx' s' a w ∧ K s') cx a _ hi' (fun c' s' a' w' hi' hk => ⟨rfl, c', s', hi', hk⟩) (fun cc a w hq => by cases hq.1) ops.toArray.size (by simpa using Nat.le_of_ble_eq_true hl)
  refine wp_mono (wp_region_any hm (by simpa using h1)) ?_
  rintro e a' w' ⟨rfl, cx', s', hi'', hq⟩
  exact ⟨cx', s', hi'', hq⟩
end
end Go.Proofs.YtpjbgmafnheomaaGreatDoor.Sim
