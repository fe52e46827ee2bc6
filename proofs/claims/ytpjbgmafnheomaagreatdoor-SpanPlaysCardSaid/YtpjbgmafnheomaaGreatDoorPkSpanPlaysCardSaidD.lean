/-
  Lemmas of SpanPlaysCardSaid, part 4.
-/
import Derived.Test.YtpjbgmafnheomaaGreatDoorPkSpanPlaysCardSaidC
import Derived.LoopN
import Derived.Scope
namespace Go.Proofs.YtpjbgmafnheomaaGreatDoor.Sim
open Go.RowKit
set_option linter.unusedVariables false
set_option linter.unusedSimpArgs false
theorem idx_snoc {α : Type} {l : List α} {x y : α} {i : Nat} (h : (l ++ [x])[i]? = some y) : l[i]? = some y ∨ (i = l.length ∧ y = x) := by
  rw [List.getElem?_append] at h
  split at h
  · exact .inl h
  · rename_i hi
    have : i - l.length = 0 := by
      rcases Nat.eq_zero_or_pos (i - l.length) with h0 | h0
      · exact h0
      · rw [List.getElem?_eq_none (by simp; omega)] at h; cases h
    rw [this] at h
    simp at h
    exact .inr ⟨by omega, h.symm⟩
theorem idx_old {α : Type} {l : List α} {x y : α} {i : Nat} (h : l[i]? = some y) : (l ++ [x])[i]? = some y := by
  rw [List.getElem?_append_left (List.getElem?_eq_some_iff.1 h).1]; exact h
theorem idx_new {α : Type} (l : List α) (x : α) : (l ++ [x])[l.length]? = some x := by simp
section
variable {P : Program} {F : Fr}
def Cd (P : Program) (F : Fr) (c : Code) (s : St) (Q : Exit → St → Prop) : Prop :=
  ∀ cx a w, Inv F cx s a w → c.wp P (fun e a' w' => ∃ cx' s', Inv F cx' s' a' w' ∧ Q e s') a w
def thn (P : Program) (F : Fr) (y : Code) (Q : Exit → St → Prop) : Exit → St → Prop
  | .normal, s => Cd P F y s Q
  | e, s => Q e s
def blk (id : Nat) (Q : Exit → St → Prop) : Exit → St → Prop
  | .exit i, s => if i = id then Q .normal s else Q (.exit i) s
  | e, s => Q e s
def rnd (I : Nat → St → Prop) (n : Nat) (Q : Exit → St → Prop) : Exit → St → Prop
  | .normal, s => ∃ m, m < n ∧ I m s
  | e, s => Q e s
variable {s : St} {Q : Exit → St → Prop}
theorem Cd.seq {x y : Code} (h : Cd P F x s (thn P F y Q)) : Cd P F (.seq x y) s Q := by
  intro cx a w hi
  refine wp_seq (wp_mono (h cx a w hi) ?_)
  rintro e a' w' ⟨cx', s', hi', hq⟩
  cases e with
  | normal => exact hq cx' a' w' hi'
  | _ => exact ⟨cx', s', hi', hq⟩
theorem Cd.region {id : Nat} {l : List Oper} (h : Ops P F ⟨l.toArray, none⟩ l s (Q .normal)) : Cd P F (.region id l.toArray false) s Q := by
  intro cx a w hi
  refine wp_region_lit (h _ cx a w hi ?_)
  intro cx' s' a' w' hi' hq
  exact ⟨cx', s', hi', hq⟩
def nthO : List Oper → Nat → Oper
  | [], _ => default
  | o :: _, 0 => o
  | _ :: l, n + 1 => nthO l n
def pickO (l : List Oper) : List (List Nat) → List Oper
  | [] => []
  | [] :: r => pickO l r
  | (i :: is) :: r => is.foldr (fun j r => nthO l j :: r) (pickO l r) |> (nthO l i :: ·)
theorem Cd.draw {id : Nat} {l : List Oper} (p : List (List Nat)) (hm : P.follows .mixedOrders = true) (hp : Nat.ble (p.map List.length).sum l.length = true) (h : Ops P F (Rg.begin l.toArray p) (pickO l p) s (Q .normal)) : Cd P F (.region id l.toArray true) s Q := by
  intro cx a w hi
  have hi' : Inv F cx s a { w with drawn := w.drawn + 1 } := ⟨hi.W.grow fun _ _ => rfl, hi.nd, hi.sz, hi.tm, hi.kp.drew, hi.rho, hi.new, hi.obp, hi.obB, hi.bbB⟩
  have h1 := h (fun e a w => e = .normal ∧ ∃ cx' s', Inv F cx' s' a w ∧ Q .normal s') cx a _ hi' (fun c' s' a' w' hi' hk => ⟨rfl, c', s', hi', hk⟩) (fun cc a w hq => by cases hq.1) l.toArray.size (by simpa [Rg.begin, Dr.left] using Nat.le_of_ble_eq_true hp)
  refine wp_mono (wp_region_any hm (wpAnyE.any _ _ _ _ h1)) ?_
  rintro e a' w' ⟨rfl, cx', s', hi'', hq⟩
  exact ⟨cx', s', hi'', hq⟩
theorem Cd.skip (h : Q .normal s) : Cd P F .skip s Q := fun cx a w hi => wp_skip ⟨cx, s, hi, h⟩
theorem Cd.ret (h : Q .ret s) : Cd P F .ret s Q := fun cx a w hi => wp_ret ⟨cx, s, hi, h⟩
theorem Cd.exit {id : Nat} (h : Q (.exit id) s) : Cd P F (.exit id) s Q := fun cx a w hi => wp_exit ⟨cx, s, hi, h⟩
theorem Cd.cond {c : Operand} {x y : Code} {b : Bool} (hc : pev s c = .val (.bool b)) (ht : b = true → Cd P F x s Q) (hf : b = false → Cd P F y s Q) : Cd P F (.cond c x y) s Q := by
  intro cx a w hi
  exact wp_cond_split (pev_val hi hc) (fun h => ht h cx a w hi) (fun h => hf h cx a w hi)
theorem Cd.block {id : Nat} {c : Code} (h : Cd P F c s (blk id Q)) : Cd P F (.block id c) s Q := by
  intro cx a w hi
  refine wp_block (wp_mono (h cx a w hi) ?_)
  rintro e a' w' ⟨cx', s', hi', hq⟩
  cases e with
  | exit i =>
    simp only [blk] at hq
    by_cases h : i = id
    · rw [if_pos h] at hq
      simp only [Exit.inBlock, h, if_true]; exact ⟨cx', s', hi', hq⟩
    · rw [if_neg h] at hq
      simp only [Exit.inBlock, h, if_false]; exact ⟨cx', s', hi', hq⟩
  | _ => exact ⟨cx', s', hi', hq⟩
theorem Cd.loop {c : Code} (I : Nat → St → Prop) (n0 : Nat) (h0 : I n0 s) (round : ∀ n s', I n s' → Cd P F c s' (rnd I n Q)) : Cd P F (.loop c) s Q := by
  intro cx a w hi
  refine wp_loop_ghost (fun n a w => ∃ cx s, Inv F cx s a w ∧ I n s) n0 ⟨cx, s, hi, h0⟩ ?_
  rintro n a w ⟨cx, s, hi, hI⟩
  refine wp_mono (round n s hI cx a w hi) ?_
  rintro e a' w' ⟨cx', s', hi', hq⟩
  cases e with
  | normal =>
    obtain ⟨m, hm, hI'⟩ := hq
    exact ⟨m, hm, cx', s', hi', hI'⟩
  | _ => exact ⟨cx', s', hi', hq⟩
def Rounds (P : Program) (F : Fr) (c : Code) (Q : Exit → St → Prop) : Nat → St → Prop
  | 0, _ => False
  | n + 1, s => Cd P F c s fun e s' => match e with
    | .normal => Rounds P F c Q n s'
    | e => Q e s'
theorem Cd.rounds {c : Code} (n : Nat) (h : Rounds P F c Q n s) : Cd P F (.loop c) s Q := by
  intro cx a w hi
  refine wp_loop_rounds n ?_
  have key : ∀ n s cx a w, Rounds P F c Q n s → Inv F cx s a w → Code.rounds P c (fun e a' w' => ∃ cx' s', Inv F cx' s' a' w' ∧ Q e s') n a w := by
    intro n
    induction n with
    | zero => intro s cx a w h; exact h.elim
    | succ n ih =>
      intro s cx a w h hi
      refine wp_mono (h cx a w hi) ?_
      rintro e a' w' ⟨cx', s', hi', hq⟩
      cases e with
      | normal => exact ih s' cx' a' w' hq hi'
      | _ => exact ⟨cx', s', hi', hq⟩
  exact key n s cx a w h hi
theorem Cd.mono {c : Code} {Q' : Exit → St → Prop} (h : Cd P F c s Q) (k : ∀ e s, Q e s → Q' e s) : Cd P F c s Q' :=
  fun cx a w hi => wp_mono (h cx a w hi) fun e a' w' ⟨cx', s', hi', hq⟩ => ⟨cx', s', hi', k _ _ hq⟩
theorem SimW.addbox {c : Cx} {bx : List (List PV)} {ob : List (Option Row)} {w : World} (h : SimW c bx ob w) {g : Nat} {l : List PV} {us : List Value} {T : TypeId} (hg : w.heap[g]? = some (.cells us.toArray T (0, 0))) (f1 : g ∉ c.bb)
    (f2 : ∀ (i : Nat) (r : Row) (x : Ob), ob[i]? = some (some r) → c.ob[i]? = some x → x.g ≠ g) (f3 : ∀ ad u, c.ρ ad = some u → ad.block ≠ g) (hl : RepL c l us) : SimW { c with bb := c.bb ++ [g] } (bx ++ [l]) ob w := by
  have k : c.le { c with bb := c.bb ++ [g] } := ⟨fun _ _ h => h, fun _ _ h => idx_old h, fun _ _ h => h⟩
  refine ⟨h.mem, by simp [h.bl], h.ol, fun i m hi => ?_, fun i r hr => ?_, fun i j g' h1 h2 => ?_, h.no, fun i x r hr hx => ?_, fun ad u hr => ?_, h.so⟩
  · rcases idx_snoc hi with hi | ⟨rfl, rfl⟩
    · obtain ⟨g', us', T', h1, h2, h3⟩ := h.box i m hi
      exact ⟨g', us', T', idx_old h1, h2, h3.up k⟩
    · exact ⟨g, us, T, by rw [← h.bl]; exact idx_new _ _, hg, hl.up k⟩
  · obtain ⟨x, us', h1, ha, hb, h2, h3, h4, h5⟩ := h.obj i r hr
    exact ⟨x, us', h1, ha, hb, h2, h3, h4, h5⟩
  · rcases idx_snoc h1 with k1 | ⟨e1, k1⟩
    · rcases idx_snoc h2 with k2 | ⟨e2, k2⟩
      · exact h.nb _ _ _ k1 k2
      · exact absurd (k2 ▸ List.mem_of_getElem? k1) f1
    · rcases idx_snoc h2 with k2 | ⟨e2, k2⟩
      · exact absurd (k1 ▸ List.mem_of_getElem? k2) f1
      · rw [e1, e2]
  · simp only [List.mem_append, List.mem_singleton, not_or]
    exact ⟨h.nbo i x r hr hx, f2 i r x hr hx⟩
  · simp only [List.mem_append, List.mem_singleton, not_or]
    exact ⟨h.sb ad u hr, f3 ad u hr⟩
theorem cell_grow {w w' : World} (k : ∀ i, i < w.heap.size → w'.heap[i]? = w.heap[i]?) : Ext w w' := fun ad u hu => by
  rw [World.cell?_of_block (w := w) (k _ (World.block_lt_of_cell? w ad hu))]; exact hu
theorem Inv.newbox {c : Cx} {a : Act} {w : World} (hi : Inv F c s a w) {l : List PV} {us : List Value} {T : TypeId} (hl : RepL c l us) :
    Inv F { c with bb := c.bb ++ [w.heap.size] } { s with bx := s.bx ++ [l] } a (w.alloc (.cells us.toArray T)) := by
  have k : c.le { c with bb := c.bb ++ [w.heap.size] } := ⟨fun _ _ h => h, fun _ _ h => idx_old h, fun _ _ h => h⟩
  have hW : SimW c s.bx s.ob (w.alloc (.cells us.toArray T)) := hi.W.grow fun i h => heap_alloc_old w _ _ h
  refine ⟨hW.addbox (heap_alloc_new w _) (fun hm => ?_) (fun i r x hr hx he => ?_) (fun ad u hr he => ?_) hl, hi.nd, hi.sz, fun t => (hi.tm t).up k, hi.kp.alloc hi.kp.size _, hi.rho, hi.new, hi.obp, hi.obB, fun g hg => ?_⟩
  · obtain ⟨i, h⟩ := List.getElem?_of_mem hm
    exact Nat.lt_irrefl _ (hi.W.bb_lt h)
  · exact Nat.lt_irrefl _ (he ▸ hi.W.ob_lt hr hx)
  · exact Nat.lt_irrefl _ (he ▸ hi.W.ρ_lt hr)
  · simp only [List.mem_append, List.mem_singleton] at hg
    rcases hg with hg | rfl
    · exact hi.bbB g hg
    · exact hi.kp.size
def zeroT (P : Program) (t : TypeId) : Option (List PV) := (P.info? t).bind fun i => i.zero.map fun v => v.cells.toList.map pcon
theorem pcon_repL (c : Cx) : ∀ us : List Value, RepL c (us.map pcon) us
  | [] => .nil
  | u :: us => .cons (pcon_rep c u) (pcon_repL c us)
variable {o : Oper} {K : St → Prop}
theorem Does.alloc {t : TypeId} {l : List PV} (ho : o.op = .alloc t) (hz : zeroT P t = some l) (hd : s.fits o.dst = true) (k : K (({ s with bx := s.bx ++ [l] } : St).put o.dst (.ptr s.bx.length 0))) : Does P F o true s K := by
  intro R c a w hi
  unfold zeroT at hz
  cases hq : P.info? t with
  | none => simp [hq] at hz
  | some i =>
    cases hv : i.zero with
    | none => simp [hq, hv] at hz
    | some v =>
      simp only [hq, hv, Option.bind_some, Option.map_some, Option.some.injEq] at hz
      subst hz
      unfold Oper.wp
      have hrun : (execOp a.eval o).run P w = .ok (.value (.pointer (some ⟨w.heap.size, 0, none⟩))) (w.alloc (.cells v.cells t)) := by
        simp [execOp, ho, Instr.alloc, zeroValue, typeInfo, hq, hv, newVar, newRow]
      rw [hrun]
      have hn := hi.newbox (pcon_repL c v.cells.toList) (T := t)
      simp only [Array.toArray_toList] at hn
      exact ⟨_, _, hn.put hd (.ptr (by rw [← hi.W.bl]; exact idx_new _ _)), k, fun _ => cell_grow fun j h => heap_alloc_old w _ _ h⟩
def pcells : PV → List PV
  | .agg l => l
  | p => [p]
def okBox : PV → Bool
  | .tup _ => false
  | .any => false
  | _ => true
theorem pcells_rep {c : Cx} {p : PV} {v : Value} (h : Rep c p v) (hk : okBox p = true) (hv : ∀ z, p = .val z → z.cells.toList = [z]) : RepL c (pcells p) v.cells.toList := by
  cases h with
  | val v => simp only [pcells, hv _ rfl]; exact .cons (.val _) .nil
  | nil => exact .cons .nil .nil
  | sl h0 h1 h2 h3 h4 => exact .cons (.sl h0 h1 h2 h3 h4) .nil
  | ws h1 h2 h4 => exact .cons (.ws h1 h2 h4) .nil
  | fs h0 h1 h2 h3 h4 => exact .cons (.fs h0 h1 h2 h3 h4) .nil
  | cw h0 h4 => exact .cons (.cw h0 h4) .nil
  | cf h1 h3 h4 => exact .cons (.cf h1 h3 h4) .nil
  | emp => exact .cons .emp .nil
  | agg h => simpa [pcells, Value.cells] using h
  | tup h => simp [okBox] at hk
  | ptr h => exact .cons (.ptr h) .nil
  | cel h3 h4 => exact .cons (.cel h3 h4) .nil
  | arr h h0 h2 h3 h4 => exact .cons (.arr h h0 h2 h3 h4) .nil
  | ead h => exact .cons (.ead h) .nil
  | any => simp [okBox] at hk
theorem Does.box {t : TypeId} {x : Operand} {p : PV} (ho : o.op = .box t x) (hp : p = pev s x) (hk : okBox p = true) (hv : ∀ z, p = .val z → z.cells.toList = [z]) (hd : s.fits o.dst = true) (k : K (({ s with bx := s.bx ++ [pcells p] } : St).put o.dst (.ptr s.bx.length 0))) : Does P F o true s K := by
  subst hp
  intro R c a w hi
  unfold Oper.wp
  have hrun : (execOp a.eval o).run P w = .ok (.value (.pointer (some ⟨w.heap.size, 0, none⟩))) (w.alloc (.cells (a.eval x).cells t)) := by
    simp [execOp, ho, Instr.box, newVar, newRow]
  rw [hrun]
  have hn := hi.newbox (pcells_rep (pev_rep hi x) hk hv) (T := t)
  simp only [Array.toArray_toList] at hn
  exact ⟨_, _, hn.put hd (.ptr (by rw [← hi.W.bl]; exact idx_new _ _)), k, fun _ => cell_grow fun j h => heap_alloc_old w _ _ h⟩
theorem set_get {α : Type} {l : List α} {i j : Nat} {x y : α} (h : (l.set i x)[j]? = some y) : (j = i ∧ y = x ∧ i < l.length) ∨ (j ≠ i ∧ l[j]? = some y) := by
  rw [List.getElem?_set] at h
  split at h
  · rename_i hij
    split at h
    · rename_i hl; cases h; exact .inl ⟨hij.symm, rfl, hl⟩
    · cases h
  · rename_i hij; exact .inr ⟨fun e => hij e.symm, h⟩
theorem SimW.setbox {c : Cx} {bx : List (List PV)} {ob : List (Option Row)} {w : World} (h : SimW c bx ob w) {b g : Nat} {l : List PV} {us : List Value} (hb : c.bb[b]? = some g) (hl : RepL c l us) : SimW c (bx.set b l) ob (w.setRow g us.toArray) := by
  have hne : ∀ k, k ≠ g → (w.setRow g us.toArray).heap[k]? = w.heap[k]? := fun k hk => setRow_other w g k _ hk
  have hgm : g ∈ c.bb := List.mem_of_getElem? hb
  refine ⟨fun ad u hr => ?_, by simp [h.bl], h.ol, fun i m hi => ?_, fun i r hr => ?_, h.nb, h.no, h.nbo, h.sb, h.so⟩
  · have : ad.block ≠ g := fun e => h.sb ad u hr (e ▸ hgm)
    rw [World.cell?_of_block (w := w) (hne _ this)]; exact h.mem ad u hr
  · rcases set_get hi with ⟨rfl, rfl, hlt⟩ | ⟨hne', hi⟩
    · obtain ⟨g', us', T, h1, h2, _⟩ := h.box i _ (List.getElem?_eq_getElem hlt)
      rw [hb] at h1; cases h1
      exact ⟨g, us, T, hb, setRow_heap w g _ _ _ _ h2, hl⟩
    · obtain ⟨g', us', T, h1, h2, h3⟩ := h.box i m hi
      exact ⟨g', us', T, h1, by rw [hne g' (fun e => hne' (h.nb _ _ _ (e ▸ h1) hb))]; exact h2, h3⟩
  · obtain ⟨x, us', h1, ha, hb', h2, h3, h4, h5⟩ := h.obj i r hr
    exact ⟨x, us', h1, ha, hb', h2, by rw [hne x.g (fun e => h.nbo i x r hr h1 (e ▸ hgm))]; exact h3, h4, h5⟩
def over (l : List PV) (n : Nat) (m : List PV) : List PV := l.take n ++ m ++ l.drop (n + m.length)
def oneP : PV → Bool
  | .agg _ => false
  | .any => false
  | .tup _ => false
  | _ => true
theorem oneP_ok {c : Cx} {p : PV} {v : Value} (h : Rep c p v) (hk : oneP p = true) (hv : ∀ z, p = .val z → z.oneCell' = true) : v.oneCell' = true := by
  cases h <;> first | rfl | (simp [oneP] at hk; done) | exact hv _ rfl
def oneL (l : List PV) : Prop := ∀ p ∈ l, oneP p = true ∧ ∀ z, p = .val z → z.oneCell' = true
theorem oneL_ok {c : Cx} {l : List PV} {us : List Value} (h : RepL c l us) (hk : oneL l) : ∀ u ∈ us, u.oneCell' = true := by
  intro u hu
  obtain ⟨j, hj⟩ := List.getElem?_of_mem hu
  have hlt : j < l.length := by rw [h.len]; exact (List.getElem?_eq_some_iff.1 hj).1
  have hp := List.getElem?_eq_getElem hlt
  have hm : l[j] ∈ l := List.getElem_mem hlt
  exact oneP_ok (h.both hp hj) (hk _ hm).1 (hk _ hm).2
theorem run_storeVar {t : TypeId} {n : Nat} (hn : szT P t = some n) {w : World} {g i : Nat} {cur : Array Value} {T : TypeId} {v : Value} (hg : w.heap[g]? = some (.cells cur T (0, 0))) (hl : v.cells.size = n) (hfit : i + n ≤ cur.size) (h1 : ∀ u ∈ v.cells.toList, u.oneCell' = true) :
    (storeVar t ⟨g, i, none⟩ v).run P w = .ok () (w.setRow g (cur.toList.take i ++ v.cells.toList ++ cur.toList.drop (i + v.cells.toList.length)).toArray) := by
  have := run_storeCells_at P g i T v.cells.toList 0 cur w hg (by simp [hl]; omega) h1
  simp only [Nat.add_zero] at this
  simp [storeVar, run_szT hn, hl, this]
theorem Does.storeB {t : TypeId} {x y : Operand} {b i n : Nat} {l m : List PV} (ho : o.op = .store t x y) (hx : pev s x = .ptr b i) (hb : s.bx[b]? = some l) (hm : pcells (pev s y) = m) (hk : okBox (pev s y) = true) (hv : ∀ z, pev s y = .val z → z.cells.toList = [z]) (h1 : oneL m)
    (hn : szT P t = some n) (hml : m.length = n) (hl : i + n ≤ l.length) (hd : s.fits o.dst = true) (k : K (({ s with bx := s.bx.set b (over l i m) } : St).put o.dst (.val undef))) : Does P F o false s K := by
  subst hm
  intro R c a w hi
  have hrx := pev_rep hi x
  rw [hx] at hrx
  generalize hq : a.eval x = z at hrx
  cases hrx with
  | ptr hg =>
  rename_i g
  obtain ⟨g', us, T, e1, e2, e3⟩ := hi.W.box b l hb
  rw [hg] at e1; cases e1
  have hry := pcells_rep (pev_rep hi y) hk hv
  have hlen := hry.len
  unfold Oper.wp
  have hrun : (execOp a.eval o).run P w = .ok .skip (w.setRow g (us.take i ++ (a.eval y).cells.toList ++ us.drop (i + (a.eval y).cells.toList.length)).toArray) := by
    have := run_storeVar hn e2 (v := a.eval y) (i := i) (by rw [← Array.length_toList]; omega) (by simp [← e3.len]; omega) (oneL_ok hry h1)
    simp [execOp, ho, hq, Instr.storeAt, Instr.sureAddr, this]
  rw [hrun]
  have hR : RepL c (over l i (pcells (pev s y))) (us.take i ++ (a.eval y).cells.toList ++ us.drop (i + (a.eval y).cells.toList.length)) := by
    unfold over
    rw [hlen]
    exact ((e3.take i).append hry).append (e3.drop _)
  refine ⟨c, _, Inv.put (s := { s with bx := s.bx.set b (over l i (pcells (pev s y))) }) ⟨hi.W.setbox hg hR, hi.nd, hi.sz, hi.tm, ?_, hi.rho, hi.new, hi.obp, hi.obB, hi.bbB⟩ hd (.val _), k, fun h => by cases h⟩
  refine hi.kp.trans ⟨rfl, rfl, rfl, by simp, fun j hj _ => setRow_other w g j _ (fun e => ?_)⟩
  have := hi.bbB g (List.mem_of_getElem? hg)
  omega
def PC (P : Program) (G : List (Nat × List Value)) (f : FuncId) (args : List PV) (Q : PV → Prop) : Prop :=
  ∀ (ρ : Addr → Option Value) (w : World) (vs : List Value), GOk G ρ → (∀ ad u, ρ ad = some u → w.cell? ad = some u) → RepL ⟨ρ, [], []⟩ args vs →
    Calls P f vs.toArray w fun e w' => ∃ v r ρ', e = .returned v ∧ Q r ∧ (∀ ad u, ρ ad = some u → ρ' ad = some u) ∧ (∀ ad u, ρ' ad = some u → w'.cell? ad = some u) ∧ Rep ⟨ρ', [], []⟩ r v ∧
      Below w.heap.size w w' ∧ ∀ ad u, ρ' ad = some u → ρ ad = some u ∨ w.heap.size ≤ ad.block
theorem PC.mono {G : List (Nat × List Value)} {f : FuncId} {args : List PV} {Q Q' : PV → Prop} (h : PC P G f args Q) (k : ∀ r, Q r → Q' r) : PC P G f args Q' :=
  fun ρ w vs hg hm hr => (h ρ w vs hg hm hr).mono fun e w' ⟨v, r, ρ', h1, h2, h3⟩ => ⟨v, r, ρ', h1, k r h2, h3⟩
def callable (P : Program) (f : FuncId) : Bool := match P.funcs[f]? with
  | some fn => fn.body.isSome && !(fn.name == "runtime.NumGoroutine")
  | none => false
theorem run_call {f : FuncId} (hf : callable P f = true) {x : Operand} {as : Array Operand} {ts : Array TypeId} (ho : o.op = .call { callee := .value x, args := as, argTypes := ts }) {a : Act} (hx : a.eval x = .func (.func f) #[] #[]) (w : World) :
    (execOp a.eval o).run P w = .ok (.enter f (as.map a.eval)) w := by
  unfold callable at hf
  cases hq : P.funcs[f]? with
  | none => simp [hq] at hf
  | some fn =>
    simp only [hq, Bool.and_eq_true, Bool.not_eq_true'] at hf
    obtain ⟨h1, h2⟩ := hf
    have h3 : fn.body.isNone = false := by cases hb : fn.body <;> simp_all
    simp only [execOp, ho, resolve, hx, Deferred.ofValue, Sem.run_bind, Sem.run_pure, Result.andThen_ok, invoke, Array.empty_append, Array.append_empty, callFunc, run_program, hq, h2, h3, Bool.false_eq_true, if_false]
theorem evalL {c : Cx} {a : Act} {w : World} (hi : Inv F c s a w) : ∀ xs : List Operand, RepL c (xs.map (pev s)) (xs.map a.eval)
  | [] => .nil
  | x :: xs => .cons (pev_rep hi x) (evalL hi xs)
theorem Does.call {f : FuncId} {x : Operand} {as : List Operand} {ts : Array TypeId} (ho : o.op = .call { callee := .value x, args := as.toArray, argTypes := ts }) (hx : pev s x = .val (.func (.func f) #[] #[])) (hf : callable P f = true)
    (ha : noHL (as.map (pev s)) = true) (hd : s.fits o.dst = true) (h : PC P F.G f (as.map (pev s)) fun r => K (s.put o.dst r)) : Does P F o true s K := by
  intro R c a w hi
  unfold Oper.wp
  rw [run_call hf ho (pev_val hi hx)]
  have hG : GOk F.G c.ρ := fun g cs hm j u hu => hi.rho _ _ (F.hG g cs hm j u hu)
  have hargs : RepL ⟨c.ρ, [], []⟩ (as.map (pev s)) (as.map a.eval) := (evalL hi as).bare ha
  have hc := h c.ρ w (as.map a.eval) hG hi.W.mem hargs
  have he : as.toArray.map a.eval = (as.map a.eval).toArray := by simp
  rw [he]
  refine hc.mono ?_
  rintro e w' ⟨v, r, ρ', rfl, hQ, hρ, hm, hr, hb, hn⟩
  have k : c.le { c with ρ := ρ' } := ⟨hρ, fun _ _ h => h, fun _ _ h => h⟩
  have kr : (⟨ρ', [], []⟩ : Cx).le { c with ρ := ρ' } := ⟨fun _ _ h => h, fun _ _ h => by simp at h, fun _ _ h => by simp at h⟩
  have hW : SimW c s.bx s.ob w' := hi.W.grow fun i h => hb.block i h
  have hI : Inv F { c with ρ := ρ' } s a w' := by
    refine ⟨⟨hm, hW.bl, hW.ol, fun i l hl => ?_, fun i r hr => ?_, hW.nb, hW.no, hW.nbo, fun ad u hu => ?_, fun ad u i x r hu hr hx he => ?_⟩, hi.nd, hi.sz, fun t => (hi.tm t).up k, ?_, fun ad u hu => hρ _ _ (hi.rho _ _ hu), fun ad u hu => ?_, hi.obp, hi.obB, hi.bbB⟩
    · obtain ⟨g, us, T, h1, h2, h3⟩ := hW.box i l hl
      exact ⟨g, us, T, h1, h2, h3.up k⟩
    · obtain ⟨x, us, h1, ha, hb', h2, h3, h4, h5⟩ := hW.obj i r hr
      exact ⟨x, us, h1, ha, hb', h2, h3, h4, h5.up k.strip⟩
    · rcases hn ad u hu with h | h
      · exact hi.W.sb ad u h
      · intro hmem
        obtain ⟨i, hgi⟩ := List.getElem?_of_mem hmem
        have := hi.W.bb_lt hgi
        omega
    · rcases hn ad u hu with h | h
      · exact hi.W.so ad u i x r h hr hx he
      · have := hi.W.ob_lt hr hx
        omega
    · exact hi.kp.trans (Kp.of_below (hb.mono hi.kp.size))
    · rcases hn ad u hu with h | h
      · exact hi.new ad u h
      · exact .inr (Nat.le_trans hi.kp.size h)
  exact ⟨_, _, hI.put hd (hr.up kr), hQ, fun _ => Ext.below hb⟩
def resOne (P : Program) (s : St) : ResultVar → Option PV
  | .tmp t => some (s.t t)
  | .cell x T => match cells s (s.t x), aggT P T with
    | some l, some true => match szT P T with
      | some n => if n ≤ l.length then some (.agg (l.take n)) else none
      | none => none
    | some l, some false => l[0]?
    | _, _ => none
def resPV (P : Program) (rs : List ResultVar) (s : St) : Option PV := match rs.mapM (resOne P s) with
  | some [p] => some p
  | some l => some (.tup l)
  | none => none
def resSem (tmps : Array Value) : ResultVar → Sem Value
  | .tmp t => pure (tmps.getD t undef)
  | .cell x t => do loadVar t (← asAddr (tmps.getD x undef))
theorem resOne_ok {c : Cx} {a : Act} {w : World} (hi : Inv F c s a w) {x : ResultVar} {p : PV} (h : resOne P s x = some p) :
    ∃ v, Rep c p v ∧ (resSem a.tmps x).run P w = .ok v w := by
  cases x with
  | tmp t =>
    simp only [resOne, Option.some.injEq] at h
    subst h
    exact ⟨_, hi.tm t, rfl⟩
  | cell y T =>
    simp only [resOne] at h
    cases hc : cells s (s.t y) with
    | none => simp [hc] at h
    | some l =>
      obtain ⟨ad, us, hv, hl, hcell⟩ := cells_ok hi (hi.tm y) hc
      cases hb : aggT P T with
      | none => simp [hc, hb] at h
      | some b =>
        cases b with
        | true =>
          cases hn : szT P T with
          | none => simp [hc, hb, hn] at h
          | some n =>
            simp only [hc, hb, hn] at h
            split at h
            · rename_i hle
              cases h
              have hlen : (us.take n).length = n := by rw [List.length_take, ← hl.len]; omega
              have := run_loadCells_list (P := P) w ad (us.take n) (fun j v hj => hcell j v (by rw [List.getElem?_take] at hj; split at hj; exact hj; cases hj))
              rw [hlen] at this
              exact ⟨_, .agg (hl.take n), by simp [resSem, hv, asAddr, loadVar, run_isAgg hb, run_szT hn, this]⟩
            · cases h
        | false =>
          simp only [hc, hb] at h
          obtain ⟨u, hu, hr⟩ := hl.get h
          have h0 := hcell 0 u hu
          simp only [Addr.add, if_pos] at h0
          exact ⟨u, hr, by simp [resSem, hv, asAddr, loadVar, run_isAgg hb, run_load, h0]⟩
theorem resL_ok {c : Cx} {a : Act} {w : World} (hi : Inv F c s a w) : ∀ {rs : List ResultVar} {l : List PV}, rs.mapM (resOne P s) = some l →
    ∃ vs, RepL c l vs ∧ (rs.mapM (resSem a.tmps)).run P w = .ok vs w
  | [], l, h => by
    simp at h; subst h
    exact ⟨[], .nil, rfl⟩
  | x :: rs, l, h => by
    rw [List.mapM_cons] at h
    cases hx : resOne P s x with
    | none => simp [hx] at h
    | some p =>
      cases hrs : rs.mapM (resOne P s) with
      | none => simp [hx, hrs] at h
      | some l' =>
        simp [hx, hrs] at h
        subst h
        obtain ⟨v, hr, h1⟩ := resOne_ok hi hx
        obtain ⟨vs, hrl, h2⟩ := resL_ok hi hrs
        refine ⟨v :: vs, .cons hr hrl, ?_⟩
        rw [List.mapM_cons]
        simp only [Sem.run_bind, h1, Result.andThen_ok, h2, Sem.run_pure]
theorem results_ok {c : Cx} {a : Act} {w : World} (hi : Inv F c s a w) {fn : Func} {p : PV} (h : resPV P fn.results.toList s = some p) : ∃ v, Rep c p v ∧ (results fn a.tmps).run P w = .ok v w := by
  unfold resPV at h
  have key : ∀ l, fn.results.toList.mapM (resOne P s) = some l → ∃ vs, RepL c l vs ∧ (results fn a.tmps).run P w = .ok (if h : vs.toArray.size = 1 then vs.toArray[0] else .tuple vs.toArray) w := by
    intro l hl
    obtain ⟨vs, hr, hrun⟩ := resL_ok hi hl
    refine ⟨vs, hr, ?_⟩
    have e : results fn a.tmps = (do let vs ← fn.results.mapM (resSem a.tmps); pure (if h : vs.size = 1 then vs[0] else .tuple vs)) := by
      unfold results
      congr 1
    rw [e, Array.mapM_eq_mapM_toList]
    simp only [map_eq_pure_bind, bind_assoc, pure_bind, Sem.run_bind, hrun, Result.andThen_ok, Sem.run_pure]
  split at h
  · rename_i q hq
    cases h
    obtain ⟨vs, hr, hrun⟩ := key _ hq
    cases hr with
    | cons hr ht =>
      cases ht
      exact ⟨_, hr, by simpa using hrun⟩
  · rename_i l hne hq
    cases h
    obtain ⟨vs, hr, hrun⟩ := key _ hq
    have : vs.length ≠ 1 := by
      rw [← hr.len]
      intro h1
      obtain ⟨q, rfl⟩ := List.length_eq_one_iff.1 h1
      exact hne q rfl
    exact ⟨_, .tup hr, by simpa [this] using hrun⟩
  · cases h
def ends (P : Program) (rs : List ResultVar) (Q : PV → Prop) : Exit → St → Prop
  | .normal, s => ∃ r, resPV P rs s = some r ∧ noH r = true ∧ Q r
  | .ret, s => ∃ r, resPV P rs s = some r ∧ noH r = true ∧ Q r
  | _, _ => False
def argT : List PV → Nat → PV
  | [], _ => .val undef
  | p :: _, 0 => p
  | _ :: l, i + 1 => argT l i
theorem argT_get : ∀ (args : List PV) (t : Nat), argT args t = args.getD t (.val undef)
  | [], _ => rfl
  | _ :: _, 0 => rfl
  | _ :: l, i + 1 => by simpa [argT] using argT_get l i
theorem PC.intro {G : List (Nat × List Value)} {f : FuncId} {fn : Func} {cd : Code} {args : List PV} {Q : PV → Prop} {N : Nat} {rs : List ResultVar} (hf : P.funcs[f]? = some fn) (hb : fn.body = some cd) (hN : fn.ntmps = N) (hrs : fn.results.toList = rs) (hn : args.length ≤ N)
    (h : ∀ F : Fr, F.G = G → F.c0.ob = [] → Cd P F cd ⟨N, argT args, [], []⟩ (ends P rs Q)) : PC P G f args Q := by
  subst hN; subst hrs
  intro ρ w vs hG hm hr
  have hl := hr.len
  refine calls_of_wp hf hb ?_
  have hi : Inv ⟨G, ⟨ρ, [], []⟩, w, hG⟩ ⟨ρ, [], []⟩ ⟨fn.ntmps, argT args, [], []⟩ { tmps := vs.toArray ++ Array.replicate (fn.ntmps - vs.toArray.size) undef, defers := [] } w := by
    refine ⟨⟨hm, rfl, rfl, fun i l hi => by simp at hi, fun i r hi => by simp at hi, fun i j g hi => by simp at hi, fun i j x y l m hi => by simp at hi, fun i x l hi => by simp at hi, fun ad u _ => by simp, fun ad u i x l _ hi => by simp at hi⟩, rfl, by simp; omega, fun t => ?_, Kp.refl _ _ _, fun _ _ h => h, fun _ _ h => .inl h, fun _ _ h => by simp at h, fun _ _ _ h => by simp at h, fun g hg => by simp at hg⟩
    show Rep _ (argT args t) _
    rw [argT_get]
    rcases Nat.lt_or_ge t args.length with ht | ht
    · have h1 := List.getElem?_eq_getElem ht
      obtain ⟨u, hu, hr'⟩ := hr.get h1
      have h2 : (vs.toArray ++ Array.replicate (fn.ntmps - vs.toArray.size) undef).getD t undef = u := by
        rw [Array.getD_eq_getD_getElem?, Array.getElem?_append_left (by simp; omega)]
        simp [hu]
      rw [h2, List.getD_eq_getElem?_getD, h1]
      exact hr'
    · have h2 : (vs.toArray ++ Array.replicate (fn.ntmps - vs.toArray.size) undef).getD t undef = undef := by
        rw [Array.getD_eq_getD_getElem?, Array.getElem?_append_right (by simp; omega)]
        simp only [Array.getElem?_replicate]
        split <;> rfl
      rw [h2, List.getD_eq_getElem?_getD, List.getElem?_eq_none ht]
      exact .val _
  refine wp_mono (h _ rfl rfl _ _ _ hi) ?_
  rintro e a' w' ⟨cx', s', hi', hq⟩
  have fin : ∀ r, resPV P fn.results.toList s' = some r → noH r = true → Q r → a'.defers = [] ∧ ∃ v, (results fn a'.tmps).run P w' = .ok v w' ∧
      ∃ v_1 r_1 ρ', Ending.returned v = .returned v_1 ∧ Q r_1 ∧ (∀ ad u, ρ ad = some u → ρ' ad = some u) ∧ (∀ ad u, ρ' ad = some u → w'.cell? ad = some u) ∧ Rep ⟨ρ', [], []⟩ r_1 v_1 ∧ Below w.heap.size w w' ∧ ∀ ad u, ρ' ad = some u → ρ ad = some u ∨ w.heap.size ≤ ad.block := by
    intro r hr1 hr2 hr3
    obtain ⟨v, hrep, hrun⟩ := results_ok hi' hr1
    exact ⟨hi'.nd, v, hrun, v, r, cx'.ρ, rfl, hr3, hi'.rho, hi'.W.mem, hrep.bare hr2, hi'.kp.below, hi'.new⟩
  cases e with
  | normal => obtain ⟨r, h1, h2, h3⟩ := hq; exact fin r h1 h2 h3
  | ret => obtain ⟨r, h1, h2, h3⟩ := hq; exact fin r h1 h2 h3
  | exit => exact hq.elim
  | goto => exact hq.elim
  | panic => exact hq.elim
  | outgrown => exact hq.elim
end
def rd (a : List Int) (i : Int) : Int := a.getD i.toNat 0
def inR : IntKind → Int → Prop
  | .i8, n => -128 ≤ n ∧ n < 128
  | .i16, n => -32768 ≤ n ∧ n < 32768
  | .i32, n => -2147483648 ≤ n ∧ n < 2147483648
  | .i64, n => -9223372036854775808 ≤ n ∧ n < 9223372036854775808
  | .u8, n => 0 ≤ n ∧ n < 256
  | .u16, n => 0 ≤ n ∧ n < 65536
  | .u32, n => 0 ≤ n ∧ n < 4294967296
  | .u64, n => 0 ≤ n ∧ n < 18446744073709551616
theorem wrap_in {k : IntKind} {n : Int} (h : inR k n) : k.wrap n = n := by
  cases k <;> simp only [inR] at h <;> simp only [IntKind.wrap, IntKind.bits, IntKind.signed] <;> simp <;> omega
def hold (l : List (Nat × PV)) (f : Nat → PV) : Prop := match l with
  | [] => True
  | (d, p) :: l => f d = p ∧ hold l f
section
variable {P : Program} {F : Fr} {s : St} {Q : Exit → St → Prop} {I : Nat → St → Prop} {n id i : Nat} {y : Code}
def rds (P : Program) (F : Fr) (c : Code) (Q : Exit → St → Prop) (n : Nat) : Exit → St → Prop
  | .normal, s => Rounds P F c Q n s
  | e, s => Q e s
theorem Rounds.go {c : Code} (h : Cd P F c s (rds P F c Q n)) : Rounds P F c Q (n + 1) s := h.mono fun e s h => by cases e <;> exact h
variable {ops : Rg} {o : Oper} {rest : List Oper} {K : St → Prop} {p : PV}
variable {N d : Nat} {t : Nat → PV} {bx : List (List PV)} {ob : List (Option Row)}
theorem Ops.skip (hw : pwant ops.ops ⟨N, t, bx, ob⟩ o = some false) (hm : ops.okS o) (hd : o.dst = some d) (hn : Nat.blt d N = true) (k : Ops P F ops.next rest ⟨N, upd t d (.val undef), bx, ob⟩ K) : Ops P F ops (o :: rest) ⟨N, t, bx, ob⟩ K :=
  Ops.off hw (by simpa [St.fits, hd] using hn) hm (by simpa [St.put, hd] using k)
theorem Ops.alloc {ty : TypeId} {l : List PV} (ho : o.op = .alloc ty) (hz : zeroT P ty = some l) (hw : pwant ops.ops ⟨N, t, bx, ob⟩ o = some true) (hm : ops.okE o) (hd : o.dst = some d) (hn : Nat.blt d N = true) (k : ∀ b c, b = bx.length → c = bx ++ [l] → Ops P F ops.next rest ⟨N, upd t d (.ptr b 0), c, ob⟩ K) : Ops P F ops (o :: rest) ⟨N, t, bx, ob⟩ K :=
  Ops.step (Does.alloc ho hz (by simpa [St.fits, hd] using hn) (by simpa [St.put, hd] using k _ _ rfl rfl)) hw hm
theorem Ops.box {ty : TypeId} {x : Operand} {l : List PV} (ho : o.op = .box ty x) (hp : pev ⟨N, t, bx, ob⟩ x = .agg l) (hw : pwant ops.ops ⟨N, t, bx, ob⟩ o = some true) (hm : ops.okE o) (hd : o.dst = some d) (hn : Nat.blt d N = true) (k : ∀ b c, b = bx.length → c = bx ++ [l] → Ops P F ops.next rest ⟨N, upd t d (.ptr b 0), c, ob⟩ K) : Ops P F ops (o :: rest) ⟨N, t, bx, ob⟩ K :=
  Ops.step (Does.box ho rfl (by rw [hp]; rfl) (by rw [hp]; intro z hz; cases hz) (by simpa [St.fits, hd] using hn) (by simpa [St.put, hd, hp, pcells] using k _ _ rfl rfl)) hw hm
theorem Ops.store {ty : TypeId} {x y : Operand} {b i n : Nat} {l m : List PV} (ho : o.op = .store ty x y) (hx : pev ⟨N, t, bx, ob⟩ x = .ptr b i) (hb : bx[b]? = some l) (hm : pcells (pev ⟨N, t, bx, ob⟩ y) = m) (hk : okBox (pev ⟨N, t, bx, ob⟩ y) = true) (hv : ∀ z, pev ⟨N, t, bx, ob⟩ y = .val z → z.cells.toList = [z]) (h1 : oneL m)
    (hn : szT P ty = some n) (hml : m.length = n) (hl : i + n ≤ l.length) (hw : pwant ops.ops ⟨N, t, bx, ob⟩ o = some true) (hmd : ops.okL o) (hd : o.dst = none) (k : ∀ c, c = bx.set b (over l i m) → Ops P F ops.next rest ⟨N, t, c, ob⟩ K) : Ops P F ops (o :: rest) ⟨N, t, bx, ob⟩ K :=
  Ops.step (Does.storeB ho hx hb hm hk hv h1 hn hml hl (by simp [St.fits, hd]) (by simpa [St.put, hd] using k _ rfl)) hw hmd
def okOne : PV → Bool
  | .val (.int _ _) => true
  | .val (.bool _) => true
  | .val (.float _ _) => true
  | .nil => true
  | .ws _ _ => true
  | .sl _ _ => true
  | .fs _ _ _ => true
  | .cw _ _ _ => true
  | .cf _ _ _ => true
  | .emp => true
  | .ptr _ _ => true
  | .cel _ => true
  | .arr _ _ _ => true
  | .ead _ _ => true
  | _ => false
theorem okOne_ok {p : PV} (h : okOne p = true) : okBox p = true ∧ pcells p = [p] ∧ oneP p = true ∧ (∀ z, p = .val z → z.cells.toList = [z]) ∧ ∀ z, p = .val z → z.oneCell' = true := by
  cases p <;> simp [okOne] at h <;> refine ⟨rfl, rfl, rfl, ?_, ?_⟩ <;> intro z hz <;> cases hz
  all_goals (rename_i v; cases v <;> first | rfl | simp [okOne] at h)
theorem Ops.call {f : FuncId} {x : Operand} {as : List Operand} {ts : Array TypeId} {args : List PV} (ho : o.op = .call { callee := .value x, args := as.toArray, argTypes := ts }) (hx : pev ⟨N, t, bx, ob⟩ x = .val (.func (.func f) #[] #[])) (hf : callable P f = true)
    (ha : as.map (pev ⟨N, t, bx, ob⟩) = args) (hno : noHL args = true) (hw : pwant ops.ops ⟨N, t, bx, ob⟩ o = some true) (hm : ops.okE o) (hd : o.dst = some d) (hn : Nat.blt d N = true) (h : PC P F.G f args fun r => Ops P F ops.next rest ⟨N, upd t d r, bx, ob⟩ K) : Ops P F ops (o :: rest) ⟨N, t, bx, ob⟩ K := by
  subst ha
  exact Ops.step (Does.call ho hx hf hno (by simpa [St.fits, hd] using hn) (h.mono fun r hr => by simpa [St.put, hd] using hr)) hw hm
theorem still_idxW {t e : TypeId} {x y : Operand} {k kk : IntKind} {a : List Int} {i : Int} (ho : o.op = .indexAddr t x y) (hx : pev s x = ws k a) (hy : pev s y = .val (.int kk i)) (ht : elT P t = some (e, 1)) (h : 0 ≤ i ∧ i < (a.length : Int)) : Still P F o s (.cw k a i) := by
  intro c A w hi
  obtain ⟨hu, hz⟩ := elT_ok ht
  have hr := pev_rep hi x
  rw [hx] at hr
  generalize hq : A.eval x = z at hr
  cases hr with
  | @ws _ _ _ n cap B h1 h2 h4 =>
    subst h1
    have hlt : i.toNat < a.length := by omega
    obtain ⟨ad, rfl, _⟩ := h4 i.toNat _ (List.getElem?_eq_getElem hlt)
    refine ⟨_, .cw (ad := ad.add (i.toNat * 1)) h fun j x hx => ?_, fun w' _ => ?_⟩
    · obtain ⟨ad', e', hρ⟩ := h4 _ _ hx
      cases e'
      rw [add_zero_off, Nat.mul_one]; exact hρ
    · simp [execOp, ho, hq, pev_val hi hy, Instr.indexAt, asIntOf, run_underlying hu, h.1, h.2, run_szT hz]
theorem still_loadW {t : TypeId} {x : Operand} {k : IntKind} {a : List Int} {i : Int} (ho : o.op = .load t x) (hx : pev s x = .cw k a i) (ha : aggT P t = some false) : Still P F o s (.val (.int k (rd a i))) := by
  intro c A w hi
  have hr := pev_rep hi x
  rw [hx] at hr
  generalize hq : A.eval x = z at hr
  cases hr with
  | @cw _ _ _ _ ad h0 h4 =>
    have hlt : i.toNat < a.length := by omega
    have hc := h4 0 a[i.toNat] (by simp [hlt])
    have h0 := hi.W.mem _ _ hc
    have e1 : a[i.toNat] = rd a i := by simp [rd, List.getD_eq_getElem?_getD, hlt]
    rw [e1] at h0
    refine ⟨_, .val _, fun w' he => ?_⟩
    replace he : Ext w w' := he.resolve_right (by simp [pureO, ho])
    have h5 := he _ _ h0
    simp only [Addr.add, if_pos] at h5
    simp [execOp, ho, hq, Instr.loadAt, Instr.sureAddr, loadVar, run_isAgg ha, run_load, h5]
end
end Go.Proofs.YtpjbgmafnheomaaGreatDoor.Sim
