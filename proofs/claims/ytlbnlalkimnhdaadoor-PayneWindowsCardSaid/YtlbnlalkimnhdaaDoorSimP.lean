/-
  Sim, part P: append to one's own row; what pointed into the old array is forgotten. No condition.
-/
import Derived.Test.YtlbnlalkimnhdaaDoorSimG
import Derived.Laws.AppendOwn
import Derived.Maps.AppendAt
namespace Go.Proofs.YtlbnlalkimnhdaaDoor.Sim
open Go.RowKit
set_option linter.unusedVariables false
set_option linter.unusedSimpArgs false
mutual
def forg (q : Nat) : PV → PV
  | .arr o l n => match Nat.beq o q with
    | true => .any
    | false => .arr o l n
  | .ead o i => match Nat.beq o q with
    | true => .any
    | false => .ead o i
  | .agg l => .agg (forgL q l)
  | .tup l => .tup (forgL q l)
  | .val v => .val v
  | .nil => .nil
  | .ws k a => .ws k a
  | .sl z l => .sl z l
  | .fs z n f => .fs z n f
  | .cw k a i => .cw k a i
  | .cf f i m => .cf f i m
  | .emp => .emp
  | .ptr b o => .ptr b o
  | .cel l => .cel l
  | .any => .any
def forgL (q : Nat) : List PV → List PV
  | [] => []
  | p :: l => forg q p :: forgL q l
end
theorem beq_ne {a b : Nat} (h : Nat.beq a b = false) : a ≠ b := fun e => by subst e; simp at h
mutual
theorem Rep.forg {c c' : Cx} {q : Nat} (hρ : c'.ρ = c.ρ) (hb : c'.bb = c.bb) (ho : ∀ i, i ≠ q → c'.ob[i]? = c.ob[i]?) : ∀ {p : PV} {v : Value}, Rep c p v → Rep c' (forg q p) v
  | _, _, .val v => .val v
  | _, _, .nil => .nil
  | _, _, .sl h0 h1 h2 h3 h4 => by
    have e : c'.strip = c.strip := by simp [Cx.strip, hρ]
    exact .sl h0 h1 h2 (e ▸ h3) (by rw [hρ]; exact h4)
  | _, _, .ws h1 h2 h4 => .ws h1 h2 (by rw [hρ]; exact h4)
  | _, _, .fs h0 h1 h2 h3 h4 => by
    have e : c'.strip = c.strip := by simp [Cx.strip, hρ]
    exact .fs h0 h1 h2 (e ▸ h3) (by rw [hρ]; exact h4)
  | _, _, .cw h0 h4 => .cw h0 (by rw [hρ]; exact h4)
  | _, _, .cf h1 h3 h4 => by
    have e : c'.strip = c.strip := by simp [Cx.strip, hρ]
    exact .cf h1 (e ▸ h3) (by rw [hρ]; exact h4)
  | _, _, .emp => .emp
  | _, _, .agg h => .agg (RepL.forg hρ hb ho h)
  | _, _, .tup h => .tup (RepL.forg hρ hb ho h)
  | _, _, .ptr h => .ptr (by rw [hb]; exact h)
  | _, _, .cel h3 h4 => by
    have e : c'.strip = c.strip := by simp [Cx.strip, hρ]
    exact .cel (e ▸ h3) (by rw [hρ]; exact h4)
  | _, _, .arr (o := o) h h0 h2 h3 h4 => by
    simp only [Sim.forg]
    split
    · exact .any _
    · rename_i hq; exact .arr (by rw [ho _ (beq_ne hq)]; exact h) h0 h2 h3 h4
  | _, _, .ead (o := o) h => by
    simp only [Sim.forg]
    split
    · exact .any _
    · rename_i hq; exact .ead (by rw [ho _ (beq_ne hq)]; exact h)
  | _, _, .any v => .any v
theorem RepL.forg {c c' : Cx} {q : Nat} (hρ : c'.ρ = c.ρ) (hb : c'.bb = c.bb) (ho : ∀ i, i ≠ q → c'.ob[i]? = c.ob[i]?) : ∀ {l : List PV} {us : List Value}, RepL c l us → RepL c' (forgL q l) us
  | _, _, .nil => .nil
  | _, _, .cons h t => .cons (Rep.forg hρ hb ho h) (RepL.forg hρ hb ho t)
end
section
variable {P : Program} {F : Fr} {s : St} {o : Oper}
/-- The append as it runs: in place, or in a new array. -/
theorem run_appendI {t ty e : TypeId} {i : TypeInfo} {z : Value} (ht : P.underlying t = some (.slice e)) (hi : P.info? e = some i) (hz : i.zero = some z) (hs : i.size = 1) (hzs : z.cells.size = 1) {w : World} {g : Nat} {us olds : List Value} {T : TypeId} (hT : T = e) (hg : w.heap[g]? = some (.cells us.toArray T (0, 0)))
    {n cap m c2 : Nat} {ad a2 : Addr} {news : List Value} (ho : us.take n = olds) (hol : olds.length = n) (hn : n ≤ cap) (had : 0 < cap → ad = ⟨g, 0, none⟩ ∧ cap ≤ us.length) (hnl : news.length = m) (hnews : ∀ j v, news[j]? = some v → w.cell? (a2.add j) = some v) (h1 : ∀ u ∈ news, u.oneCell' = true)
    (hb : ((n + m : Nat) : Int) ≤ 9223372036854775807) (hby : (n + m) * i.bytes ≤ 140737488355328) :
    ∃ (w' : World) (g' cap' : Nat) (us' : List Value) (ad' : Addr), (Builtin.append_ #[t, t] ty #[.slice (some ad) n cap, .slice (some a2) m c2]).run P w = .ok (.slice (some ad') (n + m) cap') w' ∧ (g' = g ∨ g' = w.heap.size) ∧ w'.heap[g']? = some (.cells us'.toArray T (0, 0)) ∧
      us'.take (n + m) = olds ++ news ∧ n + m ≤ cap' ∧ (0 < cap' → ad' = ⟨g', 0, none⟩ ∧ cap' ≤ us'.length) ∧ n + m ≤ us'.length ∧ w.grownBy w' (some g) := by
  subst hT
  have hnu : n ≤ us.length := by rw [← hol, ← ho, List.length_take]; omega
  by_cases hroom : n + m ≤ cap
  · by_cases hm : m = 0
    · subst hm
      have hnil : news = [] := List.length_eq_zero_iff.1 hnl
      subst hnil
      refine ⟨w, g, cap, us, ad, ?_, .inl rfl, hg, by simpa using ho, by omega, had, by omega, ⟨rfl, rfl, rfl, Nat.le_refl _, fun _ _ _ => rfl⟩⟩
      simp [Builtin.append_, run_underlying ht, sizeOf, typeInfo, hi, Builtin.lenOf, hn, Builtin.firstCells, loadCells, loadCellsFrom, storeCells]
    · have hcap : 0 < cap := by omega
      obtain ⟨rfl, hcu⟩ := had hcap
      have hrun := run_append_room (P := P) w t ty T i ht hi g n cap us.toArray hg a2 m c2 news (by rw [hs]; omega) hnews h1 hroom (by rw [hs]; simp; omega)
      rw [hs, Nat.mul_one] at hrun
      refine ⟨_, g, cap, us.take n ++ news ++ us.drop (n + news.length), ⟨g, 0, none⟩, hrun, .inl rfl, by simpa using setRow_heap w g us.toArray (us.take n ++ news ++ us.drop (n + news.length)).toArray _ _ hg, ?_, hroom, fun _ => ⟨rfl, ?_⟩, ?_, ⟨rfl, rfl, rfl, by simp, fun k hk hne => setRow_other w g k _ (fun e => hne (by rw [e]))⟩⟩
      · have e1 : (olds ++ news).length = n + m := by simp [hol, hnl]
        rw [ho, ← e1]; exact List.take_left
      · simp; omega
      · simp; omega
  · have hfit := growslice_fits (need := n + m) (old := cap) (bytes := i.bytes) (by omega) hby
    have hge := grownCap_ge w (n + m) cap T
    have hrun := run_append_grow (P := P) (w := w) t ty T i z ht hi hz ad n cap olds (by rw [hs]; omega) (fun j v hj => by
      have hjn : j < n := by rw [← hol]; exact (List.getElem?_eq_some_iff.1 hj).1
      obtain ⟨rfl, _⟩ := had (by omega)
      rw [addr_add, Nat.zero_add]
      rw [← ho, List.getElem?_take, if_pos hjn] at hj
      simpa [World.cell?, hg] using hj) a2 m c2 news (by rw [hs]; omega) hnews (by omega) hb hfit
    have hzc : z.cells.size = 1 := hzs
    refine ⟨_, w.heap.size, _, olds ++ news ++ (Builtin.zeroCells z.cells (grownCap w (n + m) cap T - (n + m))).toList, _, hrun, .inr rfl, ?_, ?_, hge, fun _ => ⟨rfl, ?_⟩, ?_, ⟨rfl, rfl, rfl, by simp, fun k hk _ => heap_alloc_old w.drew _ k hk⟩⟩
    · have := heap_alloc_new w.drew (.cells (olds.toArray ++ news.toArray ++ Builtin.zeroCells z.cells (grownCap w (n + m) cap T - (n + m))) T)
      have e : (olds ++ news ++ (Builtin.zeroCells z.cells (grownCap w (n + m) cap T - (n + m))).toList).toArray = olds.toArray ++ news.toArray ++ Builtin.zeroCells z.cells (grownCap w (n + m) cap T - (n + m)) := by
        apply Array.ext'; simp
      rw [e]
      exact this
    · have e1 : (olds ++ news).length = n + m := by simp [hol, hnl]
      rw [← e1]; exact List.take_left
    · simp [size_zeroCells, hzc, hol, hnl]; omega
    · simp [hol, hnl]
/-- The state in which nothing points into row q any more, and row q is another. -/
def reob (s : St) (q : Nat) (r : Row) : St := ⟨s.n, fun x => forg q (s.t x), s.bx.map (forgL q), s.ob.set q (some r)⟩
theorem Inv.regrow {c : Cx} {a : Act} {w w' : World} (hi : Inv F c s a w) {q : Nat} {x : Ob} {r r' : Row} {us' : List Value} {g' : Nat} (hr : s.ob[q]? = some (some r)) (hx : c.ob[q]? = some x) (hown : F.c0.ob.length ≤ q) (hgb : w.grownBy w' (some x.g)) (hg' : g' = x.g ∨ g' = w.heap.size)
    (hsz : r'.sz = x.sz) (hT : r'.T = x.T) (hw' : w'.heap[g']? = some (.cells us'.toArray x.T (0, 0))) (h4 : r'.cs.length ≤ us'.length) (h5 : RepL c.strip r'.cs (us'.take r'.cs.length)) :
    Inv F { c with ob := c.ob.set q ⟨g', us'.length, x.sz, x.T⟩ } (reob s q r') a w' := by
  have hq : q < c.ob.length := (List.getElem?_eq_some_iff.1 hx).1
  have hqo : q < s.ob.length := (List.getElem?_eq_some_iff.1 hr).1
  have hne : ∀ i, i ≠ q → (c.ob.set q ⟨g', us'.length, x.sz, x.T⟩)[i]? = c.ob[i]? := fun i h => List.getElem?_set_ne (Ne.symm h)
  have hself : (c.ob.set q ⟨g', us'.length, x.sz, x.T⟩)[q]? = some ⟨g', us'.length, x.sz, x.T⟩ := by simp [hq]
  have hxg := hi.W.ob_lt hr hx
  have old : ∀ k, k < w.heap.size → k ≠ x.g → w'.heap[k]? = w.heap[k]? := fun k hk h => hgb.block k hk (by simpa using h)
  have live : ∀ (i : Nat) (l : Row), i ≠ q → (s.ob.set q (some r'))[i]? = some (some l) → s.ob[i]? = some (some l) := fun i l h hl => by rwa [List.getElem?_set_ne (Ne.symm h)] at hl
  have hstrip : ({ c with ob := c.ob.set q ⟨g', us'.length, x.sz, x.T⟩ } : Cx).strip = c.strip := rfl
  have gout : ∀ b, b < w.heap.size → b ≠ x.g → b ≠ g' := by
    intro b hb hbx e
    rcases hg' with h | h
    · exact hbx (e.trans h)
    · omega
  refine ⟨⟨fun ad u hu => ?_, by simp [reob, hi.W.bl], by simp [reob, hi.W.ol], fun i l hl => ?_, fun i l hl => ?_, hi.W.nb, fun i j y z l m hl hm hy hz e => ?_, fun i y l hl hy => ?_, hi.W.sb, fun ad u i y l hu hl hy => ?_⟩, hi.nd, hi.sz, fun t => Rep.forg (c := c) (c' := { c with ob := c.ob.set q ⟨g', us'.length, x.sz, x.T⟩ }) rfl rfl hne (hi.tm t), ?_, hi.rho, hi.new, fun i y hy => ?_, fun i y hl hy => ?_, hi.bbB⟩
  · have h1 := hi.W.mem ad u hu
    have h2 := hi.W.so ad u q x r hu hr hx
    rw [World.cell?_of_block (w := w) (old _ (World.block_lt_of_cell? w ad h1) h2)]
    exact h1
  · simp only [reob, List.getElem?_map, Option.map_eq_some_iff] at hl
    obtain ⟨l0, hl0, rfl⟩ := hl
    obtain ⟨g, us, T, h1, h2, h3⟩ := hi.W.box i l0 hl0
    exact ⟨g, us, T, h1, by rw [old g (hi.W.bb_lt h1) (fun e => hi.W.nbo q x r hr hx (e ▸ List.mem_of_getElem? h1))]; exact h2, RepL.forg (c := c) (c' := { c with ob := c.ob.set q ⟨g', us'.length, x.sz, x.T⟩ }) rfl rfl hne h3⟩
  · by_cases hiq : i = q
    · subst hiq
      have : l = r' := by simpa [reob, hqo] using hl.symm
      subst this
      exact ⟨_, us', hself, hsz.symm, hT.symm, rfl, hw', h4, h5⟩
    · obtain ⟨y, us, b1, b2, b3, b4, b5, b6, b7⟩ := hi.W.obj i l (live i l hiq hl)
      refine ⟨y, us, by rw [hne i hiq]; exact b1, b2, b3, b4, ?_, b6, b7⟩
      rw [old y.g (hi.W.ob_lt (live i l hiq hl) b1) (fun e => hiq (hi.W.no i q y x l r (live i l hiq hl) hr b1 hx e))]
      exact b5
  · by_cases hiq : i = q
    · by_cases hjq : j = q
      · rw [hiq, hjq]
      · exfalso
        subst hiq
        rw [hself] at hy; cases hy
        rw [hne j hjq] at hz
        have h1 := live j m hjq hm
        exact gout z.g (hi.W.ob_lt h1 hz) (fun e2 => hjq (hi.W.no j i z x m r h1 hr hz hx e2)) e.symm
    · by_cases hjq : j = q
      · exfalso
        subst hjq
        rw [hself] at hz; cases hz
        rw [hne i hiq] at hy
        have h1 := live i l hiq hl
        exact gout y.g (hi.W.ob_lt h1 hy) (fun e2 => hiq (hi.W.no i j y x l r h1 hr hy hx e2)) e
      · rw [hne i hiq] at hy; rw [hne j hjq] at hz
        exact hi.W.no i j y z l m (live i l hiq hl) (live j m hjq hm) hy hz e
  · by_cases hiq : i = q
    · subst hiq
      rw [hself] at hy; cases hy
      intro hm
      obtain ⟨k, hk⟩ := List.getElem?_of_mem hm
      exact gout g' (hi.W.bb_lt hk) (fun e => hi.W.nbo i x r hr hx (e ▸ hm)) rfl
    · rw [hne i hiq] at hy
      exact hi.W.nbo i y l (live i l hiq hl) hy
  · by_cases hiq : i = q
    · subst hiq
      rw [hself] at hy; cases hy
      exact gout _ (hi.W.ρ_lt hu) (hi.W.so ad u i x r hu hr hx)
    · rw [hne i hiq] at hy
      exact hi.W.so ad u i y l hu (live i l hiq hl) hy
  · have hxg0 := hi.obB q x hown hx
    refine hi.kp.trans ⟨hgb.os, hgb.tape, hgb.output, hgb.size, fun k hk _ => old k (Nat.lt_of_lt_of_le hk hi.kp.size) (fun e => by omega)⟩
  · have hil : i < F.c0.ob.length := (List.getElem?_eq_some_iff.1 hy).1
    rw [hne i (by omega)]
    exact hi.obp i y hy
  · by_cases hiq : i = q
    · subst hiq
      rw [hself] at hy; cases hy
      have hxg0 := hi.obB i x hown hx
      rcases hg' with h | h
      · rw [h]; exact hxg0
      · rw [h]; exact hi.kp.size
    · rw [hne i hiq] at hy
      exact hi.obB i y hl hy
variable {ops : Rg} {rest : List Oper} {K : St → Prop} {N d : Nat} {t : Nat → PV} {bx : List (List PV)} {ob : List (Option Row)}
/-- append of words to a row of one's own. -/
theorem Does.append {ty e : TypeId} {x y : Operand} {q n : Nat} {k : IntKind} {T : TypeId} {a b : List Int} {nb : Nat} (ho : o.op = .call { callee := .builtin .append, args := #[x, y], argTypes := #[ty, ty] }) (hx : pev ⟨N, t, bx, ob⟩ x = .arr q 0 n) (hr : ob[q]? = some (some (rw_ k T a)))
    (hy : pev ⟨N, t, bx, ob⟩ y = ws k b) (ht : elT P ty = some (e, 1)) (he : T = e) (hz : zeroT P e = some [.val (.int k 0)]) (hb : byT P e = some nb) (hn : n = a.length) (hfit : (n + b.length) * nb ≤ 140737488355328 ∧ n + b.length ≤ 9223372036854775807) (hown : F.c0.ob.length ≤ q)
    (hd : o.dst = some d) (hdn : Nat.blt d N = true)
    (h : K ⟨N, upd (fun x => forg q (t x)) d (.arr q 0 (n + b.length)), bx.map (forgL q), ob.set q (some (rw_ k T (a ++ b)))⟩) : Does P F o false ⟨N, t, bx, ob⟩ K := by
  subst he
  intro R c A w hi
  obtain ⟨hu, hs⟩ := elT_ok ht
  cases hq : P.info? T with
  | none => simp [szT, hq] at hs
  | some i =>
  have hs1 : i.size = 1 := by simpa [szT, hq] using hs
  have hb1 : i.bytes = nb := by simpa [byT, hq] using hb
  cases hv : i.zero with
  | none => simp [zeroT, hq, hv] at hz
  | some v =>
  have hvc : v.cells.size = 1 := by
    simp only [zeroT, hq, hv, Option.bind_some, Option.map_some, Option.some.injEq] at hz
    have := congrArg List.length hz
    simpa using this
  have hrx := pev_rep hi x
  rw [hx] at hrx
  have hry := pev_rep hi y
  rw [hy] at hry
  replace hry := rep_ws.1 hry
  generalize hX : A.eval x = vx at hrx
  generalize hY : A.eval y = vy at hry
  cases hrx with
  | @arr _ _ _ _ cap X ad k1 k2 k3 k4 k5 =>
  obtain ⟨X', us, b1, b2, b3, b4, b5, b6, b7⟩ := hi.W.obj q _ hr
  rw [k1] at b1; cases b1
  have hXs : X.sz = 1 := b2
  have hXT : X.T = T := b3
  have hcl : (rw_ k T a).cs.length = a.length := by simp [rw_, cs_w]
  rw [hcl] at b6 b7
  have hus : us.take n = a.map (Value.int k) := by rw [hn]; exact wv_repL_eq b7
  cases hry with
  | @sl _ _ m c2 B _ vs j0 j1 j2 j3 j4 =>
  have hm1 : m = b.length := by simpa using j1
  subst hm1
  have hvs : vs = b.map (Value.int k) := wv_repL_eq j3
  have main : ∃ (w' : World) (g' cap' : Nat) (us' : List Value) (ad' : Addr), (Builtin.append_ #[ty, ty] (o.type) #[.slice (some ad) n cap, .slice B b.length c2]).run P w = .ok (.slice (some ad') (n + b.length) cap') w' ∧ (g' = X.g ∨ g' = w.heap.size) ∧ w'.heap[g']? = some (.cells us'.toArray X.T (0, 0)) ∧
      us'.take (n + b.length) = a.map (Value.int k) ++ b.map (Value.int k) ∧ n + b.length ≤ cap' ∧ (0 < cap' → ad' = ⟨g', 0, none⟩ ∧ cap' ≤ us'.length) ∧ n + b.length ≤ us'.length ∧ w.grownBy w' (some X.g) := by
    have hhad : 0 < cap → ad = ⟨X.g, 0, none⟩ ∧ cap ≤ us.length := fun hc => ⟨by simpa using k4 hc, by have := k5 hc; rw [hXs] at this; omega⟩
    cases hbl : b with
    | nil =>
      subst hbl
      refine ⟨w, X.g, cap, us, ad, ?_, .inl rfl, b5, by simpa using hus, by simpa using k3, hhad, by simp; omega, ⟨rfl, rfl, rfl, Nat.le_refl _, fun _ _ _ => rfl⟩⟩
      cases B <;> simp [Builtin.append_, run_underlying hu, sizeOf, typeInfo, hq, Builtin.lenOf, k3, Builtin.firstCells, loadCells, loadCellsFrom, storeCells]
    | cons b0 bs =>
      rw [← hbl]
      have h0 : vs[0]? = some (.int k b0) := by rw [hvs, hbl]; rfl
      obtain ⟨a2, rfl, _⟩ := j4 0 _ h0
      exact run_appendI hu hq hv hs1 hvc hXT b5 hus (by simp [hn]) k3 hhad (by simp) (fun j u hj => by
        obtain ⟨ad3, e3, hρ⟩ := j4 j u (by rw [hvs]; exact hj)
        cases e3
        exact hi.W.mem _ _ hρ) (fun u hu' => by
        obtain ⟨z, _, rfl⟩ := List.mem_map.1 hu'
        rfl) (by omega) (by rw [hb1]; exact hfit.1)
  obtain ⟨w', g', cap', us', ad', hrun, hg', hw', htk, hcap, had', hlen, hgb⟩ := main
  have hI := hi.regrow (r' := rw_ k T (a ++ b)) (us' := us') (g' := g') hr k1 hown hgb hg' (by simp [rw_, hXs]) (by simp [rw_, hXT]) hw' (by simp [rw_, cs_w]; omega) (by
    have e1 : (rw_ k T (a ++ b)).cs.length = n + b.length := by simp [rw_, cs_w, hn]
    rw [e1, htk]
    have e2 : (rw_ k T (a ++ b)).cs = (a ++ b).map (wv k) := rfl
    rw [e2, ← List.map_append]
    exact wv_repL _ k _)
  unfold Oper.wp
  have hrun' : (execOp A.eval o).run P w = .ok (.value (.slice (some ad') (n + b.length) cap')) w' := by
    simp [execOp, ho, resolve, invoke, builtin, hX, hY, hrun]
  rw [hrun']
  refine ⟨_, _, hI.put (d := o.dst) (p := .arr q 0 (n + b.length)) (by simpa [St.fits, hd, reob] using hdn) ?_, by simpa [St.put, hd, reob] using h, fun h => by cases h⟩
  have hqc : q < c.ob.length := (List.getElem?_eq_some_iff.1 k1).1
  exact .arr (x := ⟨g', us'.length, X.sz, X.T⟩) (by simp [hqc]) (by simp [hXs]) hcap (fun hc => by simpa using (had' hc).1) (fun hc => by simpa [hXs] using (had' hc).2)
/-- copy of words into a row of one's own. -/
theorem Does.copy {ty e : TypeId} {x y : Operand} {q lo n : Nat} {k : IntKind} {T : TypeId} {a b : List Int} (ho : o.op = .call { callee := .builtin .copy, args := #[x, y], argTypes := #[ty, ty] }) (hx : pev ⟨N, t, bx, ob⟩ x = .arr q lo n) (hr : ob[q]? = some (some (rw_ k T a)))
    (hy : pev ⟨N, t, bx, ob⟩ y = ws k b) (ht : elT P ty = some (e, 1)) (hn : lo + n ≤ a.length)
    (hd : o.dst = some d) (hdn : Nat.blt d N = true)
    (h : ∀ c, c = ob.set q (some (rw_ k T (a.take lo ++ b.take n ++ a.drop (lo + min n b.length)))) → K ⟨N, upd t d (.val (.int .i64 (min n b.length : Nat))), bx, c⟩) : Does P F o false ⟨N, t, bx, ob⟩ K := by
  intro R c A w hi
  obtain ⟨hu, hs⟩ := elT_ok ht
  have hrx := pev_rep hi x
  rw [hx] at hrx
  have hry := pev_rep hi y
  rw [hy] at hry
  replace hry := rep_ws.1 hry
  generalize hX : A.eval x = vx at hrx
  generalize hY : A.eval y = vy at hry
  cases hrx with
  | @arr _ _ _ _ cap X ad k1 k2 k3 k4 k5 =>
  obtain ⟨X', us, b1, b2, b3, b4, b5, b6, b7⟩ := hi.W.obj q _ hr
  rw [k1] at b1; cases b1
  have hXs : X.sz = 1 := b2
  have hcl : (rw_ k T a).cs.length = a.length := by simp [rw_, cs_w]
  rw [hcl] at b6 b7
  have hus : us.take a.length = a.map (Value.int k) := wv_repL_eq b7
  cases hry with
  | @sl _ _ m c2 B _ vs j0 j1 j2 j3 j4 =>
  have hm1 : m = b.length := by simpa using j1
  subst hm1
  have hvs : vs = b.map (Value.int k) := wv_repL_eq j3
  have hnew : ∃ us' : List Value, (Builtin.copy_ #[ty, ty] o.type #[.slice (some ad) n cap, .slice B b.length c2]).run P w = .ok (goInt ((min n b.length : Nat) : Int)) (w.setRow X.g us'.toArray) ∧ us'.length = us.length ∧ us'.take a.length = (a.take lo ++ b.take n ++ a.drop (lo + min n b.length)).map (Value.int k) := by
    by_cases h0 : min n b.length = 0
    · refine ⟨us, ?_, rfl, ?_⟩
      · rw [setRow_self w X.g us.toArray X.T (0, 0) b5]
        have hmm : Nat.min b.length n = 0 := by rw [Nat.min_comm] at h0; exact h0
        cases B <;> simp [Builtin.copy_, run_underlying hu, Builtin.lenOf, Builtin.firstCells, run_szT hs, hmm, h0, loadCells, loadCellsFrom, storeCells]
      · rw [hus, h0]
        have : b.take n = [] := by
          rcases Nat.min_eq_zero_iff.1 h0 with h | h
          · rw [h]; rfl
          · rw [List.length_eq_zero_iff.1 h]; simp
        rw [this]; simp
    · have hc : 0 < cap := by omega
      have had := k4 hc
      rw [hXs, Nat.mul_one] at had
      subst had
      have hbl : b ≠ [] := by intro e; subst e; simp at h0
      have h00 : ∃ a2, B = some a2 := by
        cases hb0 : b with
        | nil => exact absurd hb0 hbl
        | cons b0 bs =>
          have hz : vs[0]? = some (.int k b0) := by rw [hvs, hb0]; rfl
          obtain ⟨a2, e, _⟩ := j4 0 _ hz
          exact ⟨a2, e⟩
      obtain ⟨a2, rfl⟩ := h00
      have hcs : (b.take n).length = min n b.length := by simp
      have hcl2 : ((b.take n).map (Value.int k)).length = min n b.length := by simp
      have hrun := run_copy_row (P := P) w ty ty o.type e X.g lo n cap a2 b.length c2 us.toArray X.T ((b.take n).map (Value.int k)) hu (by simpa [szT] using hs) b5 (by rw [hcl2, Nat.min_comm]) (fun j u hj => by
        have : vs[j]? = some u := by
          rw [hvs, List.getElem?_map]
          rw [List.getElem?_map, List.getElem?_take] at hj
          split at hj
          · exact hj
          · simp at hj
        obtain ⟨ad3, e3, hρ⟩ := j4 j u this
        cases e3
        exact hi.W.mem _ _ hρ) (by rw [hcl2]; simp; omega) (fun u hu' => by
        obtain ⟨z, _, rfl⟩ := List.mem_map.1 hu'
        rfl)
      rw [hcl2] at hrun
      refine ⟨_, hrun, by simp <;> omega, ?_⟩
      have e1 : us = a.map (Value.int k) ++ us.drop a.length := by rw [← hus]; simp
      have hl : ((a.take lo ++ b.take n ++ a.drop (lo + min n b.length)).map (Value.int k)).length = a.length := by simp; omega
      rw [← hl]
      have e2 : us.toArray.toList.take lo ++ (b.take n).map (Value.int k) ++ us.toArray.toList.drop (lo + min n b.length) = (a.take lo ++ b.take n ++ a.drop (lo + min n b.length)).map (Value.int k) ++ us.drop a.length := by
        simp only [List.map_append, List.map_take, List.map_drop]
        have t1 : us.take lo = (a.map (Value.int k)).take lo := by rw [← hus, List.take_take]; congr 1; omega
        have t2 : us.drop (lo + min n b.length) = (a.map (Value.int k)).drop (lo + min n b.length) ++ us.drop a.length := by
          conv => lhs; rw [e1]
          rw [List.drop_append]
          congr 1
          simp
          have : lo + min n b.length - a.length = 0 := by omega
          rw [this]; simp
        rw [t1, t2]
        simp [List.append_assoc]
      rw [e2]
      exact List.take_left
  obtain ⟨us', hrun, hl', htk⟩ := hnew
  have hI := hi.setrow (r' := rw_ k T (a.take lo ++ b.take n ++ a.drop (lo + min n b.length))) (us := us') hr k1 rfl rfl (by rw [hl']; exact b4) (by simp [rw_, cs_w] <;> omega) (by
    have e1 : (rw_ k T (a.take lo ++ b.take n ++ a.drop (lo + min n b.length))).cs.length = a.length := by simp [rw_, cs_w] <;> omega
    rw [e1, htk]
    exact wv_repL _ k _)
  unfold Oper.wp
  have hrun' : (execOp A.eval o).run P w = .ok (.value (goInt ((min n b.length : Nat) : Int))) (w.setRow X.g us'.toArray) := by
    simp [execOp, ho, resolve, invoke, builtin, hX, hY, hrun]
  rw [hrun']
  exact ⟨_, _, hI.put (d := o.dst) (p := .val (.int .i64 (min n b.length : Nat))) (by simpa [St.fits, hd] using hdn) (.val _), by simpa [St.put, hd] using h _ rfl, fun h => by cases h⟩
/-- A slice of words is one, however it is spelled. -/
theorem Inv.asWs {c : Cx} {a : Act} {w : World} {l : List Int} {k : IntKind} (hi : Inv F c ⟨N, upd t d (.sl 1 (l.map (wv k))), bx, ob⟩ a w) : Inv F c ⟨N, upd t d (ws k l), bx, ob⟩ a w := by
  refine ⟨hi.W, hi.nd, hi.sz, fun y => ?_, hi.kp, hi.rho, hi.new, hi.obp, hi.obB, hi.bbB⟩
  have h1 := hi.tm y
  by_cases hy : y = d
  · subst hy
    simp only [upd_same] at h1 ⊢
    exact rep_ws.2 h1
  · simp only [upd_ne _ _ _ hy] at h1 ⊢
    exact h1
/-- A literal of words: nobody writes it. -/
theorem Does.litW {ty e : TypeId} {n : Nat} {parts : List (Nat × Operand)} {zs : List PV} {k : IntKind} {l : List Int} (ho : o.op = .buildSlice ty n parts.toArray) (ht : elT P ty = some (e, 1)) (hz : zeroT P e = some zs) (hzl : zs.length = 1) (hle : Nat.ble (n * 1) 16777216 = true)
    (hv : (parts.map fun x => (x.1, pev ⟨N, t, bx, ob⟩ x.2)).all (fun x => okv x.2) = true) (hf : pfill (fun i => some (i * 1, 1)) (zrow zs (n * 1)) (parts.map fun x => (x.1, pev ⟨N, t, bx, ob⟩ x.2)) = some (l.map (wv k))) (hl : l.length = n)
    (hd : o.dst = some d) (hdn : Nat.blt d N = true) (h : K ⟨N, upd t d (ws k l), bx, ob⟩) : Does P F o true ⟨N, t, bx, ob⟩ K := by
  have h0 := Does.lit (P := P) (F := F) (s := ⟨N, t, bx, ob⟩) (K := fun s => s = ⟨N, upd t d (.sl 1 (l.map (wv k))), bx, ob⟩) ho ht Nat.one_pos hz hzl (Nat.le_of_ble_eq_true hle) (fun i v hmem => by
    have := List.all_eq_true.1 hv _ hmem
    cases v <;> first | rfl | simp [okv] at this) hf (by
    have : ∀ l : List Int, noHL (l.map (wv k)) = true := fun l => by
      induction l with
      | nil => rfl
      | cons x l ih => simp [noHL, noH, wv, ih]
    exact this l) (by simp [hl]) (by simpa [St.fits, hd] using hdn) (by simp [St.put, hd])
  intro Q c a w hi
  refine Oper.wp_mono ?_ (h0 Q c a w hi)
  rintro a' w' ⟨c', s', h1, rfl, h2⟩
  exact ⟨c', _, h1.asWs, h, h2⟩
theorem still_mask32 {tt t' : TypeId} {x y : Operand} {a : Int} (ho : o.op = .binOp .and tt x y t') (hx : pev s x = .val (.int .u64 a)) (hy : pev s y = .val (.int .u64 4294967295)) (h : 0 ≤ a ∧ a < 18446744073709551616) : Still P F o s (.val (.int .u64 (a % 4294967296))) := by
  have h1 := still_bin (P := P) (F := F) ho hx hy (v := .int .u64 (IntKind.u64.wrap (BitVec.ofInt 64 a &&& BitVec.ofInt 64 4294967295).toNat)) rfl
  have e : IntKind.u64.wrap (BitVec.ofInt 64 a &&& BitVec.ofInt 64 4294967295).toNat = a % 4294967296 := by
    obtain ⟨n, rfl⟩ : ∃ n : Nat, a = n := ⟨a.toNat, by omega⟩
    have e2 : (BitVec.ofInt 64 (4294967295 : Int)).toNat = 2 ^ 32 - 1 := by decide
    rw [BitVec.toNat_and, e2, Nat.and_two_pow_sub_one_eq_mod, BitVec.ofInt_natCast, BitVec.toNat_ofNat]
    have : IntKind.u64.wrap ((n % 2 ^ 64 % 2 ^ 32 : Nat) : Int) = ((n % 2 ^ 64 % 2 ^ 32 : Nat) : Int) := wrap_in (by simp only [inR]; omega)
    rw [this]
    omega
  rwa [e] at h1
theorem still_shr32 {tt t' : TypeId} {x y : Operand} {a : Int} {k' : IntKind} (ho : o.op = .binOp .shr tt x y t') (hx : pev s x = .val (.int .u64 a)) (hy : pev s y = .val (.int k' 32)) (h : 0 ≤ a) : Still P F o s (.val (.int .u64 (a / 4294967296))) := by
  have h1 := still_shr (P := P) (F := F) ho hx hy (by decide)
  have e : a.fdiv (2 ^ min (32 : Int).toNat IntKind.u64.bits) = a / 4294967296 := by
    have : ((2 : Int) ^ min (32 : Int).toNat IntKind.u64.bits) = 4294967296 := by decide
    rw [this, Int.fdiv_eq_ediv_of_nonneg _ (by decide)]
  rwa [e] at h1
theorem still_shl32 {tt t' : TypeId} {x y : Operand} {a : Int} {k' : IntKind} (ho : o.op = .binOp .shl tt x y t') (hx : pev s x = .val (.int .u64 a)) (hy : pev s y = .val (.int k' 32)) (h : 0 ≤ a ∧ a < 4294967296) : Still P F o s (.val (.int .u64 (a * 4294967296))) := by
  have h1 := still_shl (P := P) (F := F) ho hx hy (by decide)
  have e : IntKind.u64.wrap (a * 2 ^ min (32 : Int).toNat IntKind.u64.bits) = a * 4294967296 := by
    have : ((2 : Int) ^ min (32 : Int).toNat IntKind.u64.bits) = 4294967296 := by decide
    rw [this]
    exact wrap_in (by simp only [inR]; omega)
  rwa [e] at h1
end
end Go.Proofs.YtlbnlalkimnhdaaDoor.Sim
