/-
  What the statement SpanSnugCardSaid leans on, part 8: the logic of walks, digits, contracts of the functions, the plain law. Conditions stand in each theorem.
-/
import Derived.Test.YtpjbgmafnheomaaGreatDoorPkSpanSnugCardSaidG
namespace Go.Proofs.YtpjbgmafnheomaaGreatDoor.Sim
open Go.RowKit
set_option linter.unusedVariables false
set_option linter.unusedSimpArgs false
section
variable {P : Program} {F : Fr} {s : St} {o : Oper}
theorem run_appendZ {t ty e : TypeId} {i : TypeInfo} {zv : Value} (ht : P.underlying t = some (.slice e)) (hi : P.info? e = some i) (hz : i.zero = some zv) {z : Nat} (hs : i.size = z) (hzs : zv.cells.size = z) {w : World} {g : Nat} {us olds : List Value} {T : TypeId} (hT : T = e) (hg : w.heap[g]? = some (.cells us.toArray T (0, 0)))
    {n cap m c2 : Nat} {ad a2 : Addr} {news : List Value} (ho : us.take (n * z) = olds) (hol : olds.length = n * z) (hn : n ≤ cap) (had : 0 < cap → ad = ⟨g, 0, none⟩ ∧ cap * z ≤ us.length) (hnl : news.length = m * z) (hm : 0 < m) (hnews : ∀ j v, news[j]? = some v → w.cell? (a2.add j) = some v) (h1 : ∀ u ∈ news, u.oneCell' = true)
    (hb : ((n + m : Nat) : Int) ≤ 9223372036854775807) (hby : (n + m) * i.bytes ≤ 140737488355328) :
    ∃ (w' : World) (g' cap' : Nat) (us' : List Value) (ad' : Addr), (Builtin.append_ #[t, t] ty #[.slice (some ad) n cap, .slice (some a2) m c2]).run P w = .ok (.slice (some ad') (n + m) cap') w' ∧ (g' = g ∨ g' = w.heap.size) ∧ w'.heap[g']? = some (.cells us'.toArray T (0, 0)) ∧
      us'.take ((n + m) * z) = olds ++ news ∧ n + m ≤ cap' ∧ (0 < cap' → ad' = ⟨g', 0, none⟩ ∧ cap' * z ≤ us'.length) ∧ (n + m) * z ≤ us'.length ∧ w.grownBy w' (some g) := by
  subst hT
  subst hs
  have e0 : (n + m) * i.size = n * i.size + m * i.size := Nat.add_mul _ _ _
  by_cases hroom : n + m ≤ cap
  · have hcap : 0 < cap := by omega
    obtain ⟨rfl, hcu⟩ := had hcap
    have hle : (n + m) * i.size ≤ cap * i.size := Nat.mul_le_mul_right _ hroom
    have hrun := run_append_room (P := P) w t ty T i ht hi g n cap us.toArray hg a2 m c2 news hnl hnews h1 hroom (by simp; omega)
    refine ⟨_, g, cap, us.take (n * i.size) ++ news ++ us.drop (n * i.size + news.length), ⟨g, 0, none⟩, hrun, .inl rfl, by simpa using setRow_heap w g us.toArray (us.take (n * i.size) ++ news ++ us.drop (n * i.size + news.length)).toArray _ _ hg, ?_, hroom, fun _ => ⟨rfl, ?_⟩, ?_, ⟨rfl, rfl, rfl, by simp, fun k hk hne => setRow_other w g k _ (fun e => hne (by rw [e]))⟩⟩
    · have e1 : (olds ++ news).length = (n + m) * i.size := by simp [hol, hnl, e0]
      rw [ho, ← e1]; exact List.take_left
    · simp [hnl]; omega
    · simp [hnl]; omega
  · have hfit := growslice_fits (need := n + m) (old := cap) (bytes := i.bytes) (by omega) hby
    have hge := grownCap_ge w (n + m) cap T
    have hrun := run_append_grow (P := P) (w := w) t ty T i zv ht hi hz ad n cap olds hol (fun j v hj => by
      have hjn : j < n * i.size := by rw [← hol]; exact (List.getElem?_eq_some_iff.1 hj).1
      have hn0 : 0 < n := by
        rcases Nat.eq_zero_or_pos n with h | h
        · rw [h, Nat.zero_mul] at hjn; omega
        · exact h
      obtain ⟨rfl, _⟩ := had (by omega)
      rw [addr_add, Nat.zero_add]
      rw [← ho, List.getElem?_take, if_pos hjn] at hj
      simpa [World.cell?, hg] using hj) a2 m c2 news hnl hnews (by omega) hb hfit
    have e2 : grownCap w (n + m) cap T * i.size = (n + m) * i.size + (grownCap w (n + m) cap T - (n + m)) * i.size := by rw [← Nat.add_mul]; congr 1; omega
    refine ⟨_, w.heap.size, _, olds ++ news ++ (Builtin.zeroCells zv.cells (grownCap w (n + m) cap T - (n + m))).toList, _, hrun, .inr rfl, ?_, ?_, hge, fun _ => ⟨rfl, ?_⟩, ?_, ⟨rfl, rfl, rfl, by simp, fun k hk _ => heap_alloc_old w.drew _ k hk⟩⟩
    · have := heap_alloc_new w.drew (.cells (olds.toArray ++ news.toArray ++ Builtin.zeroCells zv.cells (grownCap w (n + m) cap T - (n + m))) T)
      have e : (olds ++ news ++ (Builtin.zeroCells zv.cells (grownCap w (n + m) cap T - (n + m))).toList).toArray = olds.toArray ++ news.toArray ++ Builtin.zeroCells zv.cells (grownCap w (n + m) cap T - (n + m)) := by
        apply Array.ext'; simp
      rw [e]
      exact this
    · have e1 : (olds ++ news).length = (n + m) * i.size := by simp [hol, hnl, e0]
      rw [← e1]; exact List.take_left
    · simp [size_zeroCells, hzs, hol, hnl]; omega
    · simp [hol, hnl]; omega
theorem run_appendN {t ty e : TypeId} {i : TypeInfo} {zv : Value} (ht : P.underlying t = some (.slice e)) (hi : P.info? e = some i) (hz : i.zero = some zv) {z : Nat} (hs : i.size = z) (hzs : zv.cells.size = z) {w : World}
    {m c2 : Nat} {a2 : Addr} {news : List Value} (hnl : news.length = m * z) (hm : 0 < m) (hnews : ∀ j v, news[j]? = some v → w.cell? (a2.add j) = some v)
    (hb : (m : Int) ≤ 9223372036854775807) (hby : m * i.bytes ≤ 140737488355328) :
    ∃ (cap' : Nat) (us' : List Value), (Builtin.append_ #[t, t] ty #[.slice none 0 0, .slice (some a2) m c2]).run P w = .ok (.slice (some ⟨w.heap.size, 0, none⟩) m cap') (w.drew.alloc (.cells us'.toArray e)) ∧
      us'.take (m * z) = news ∧ m ≤ cap' ∧ cap' * z ≤ us'.length := by
  subst hs
  have hge := grownCap_ge w m 0 e
  have hrun := run_append_nil (P := P) (w := w) t ty e i zv ht hi hz a2 m c2 news hnl hnews hm hb (by omega)
  have e2 : grownCap w m 0 e * i.size = m * i.size + (grownCap w m 0 e - m) * i.size := by rw [← Nat.add_mul]; congr 1; omega
  refine ⟨_, news ++ (Builtin.zeroCells zv.cells (grownCap w m 0 e - m)).toList, ?_, ?_, hge, ?_⟩
  · have e : (news ++ (Builtin.zeroCells zv.cells (grownCap w m 0 e - m)).toList).toArray = news.toArray ++ Builtin.zeroCells zv.cells (grownCap w m 0 e - m) := by
      apply Array.ext'; simp
    rw [e]
    exact hrun
  · rw [← hnl]; exact List.take_left
  · simp [size_zeroCells, hzs, hnl]; omega
theorem Inv.drew {c : Cx} {a : Act} {w : World} (hi : Inv F c s a w) : Inv F c s a w.drew :=
  ⟨hi.W.grow (w' := w.drew) fun i h => rfl, hi.nd, hi.sz, hi.tm, hi.kp.trans ⟨rfl, rfl, rfl, Nat.le_refl _, fun _ _ _ => rfl⟩, hi.rho, hi.new, hi.obp, hi.obB, hi.bbB⟩
variable {K : St → Prop} {N d : Nat} {t : Nat → PV} {bx : List (List PV)} {ob : List (Option Row)}
theorem zero_cells {e : TypeId} {i : TypeInfo} {zs : List PV} (hq : P.info? e = some i) (hz : zeroT P e = some zs) : ∃ v, i.zero = some v ∧ v.cells.size = zs.length := by
  cases hv : i.zero with
  | none => simp [zeroT, hq, hv] at hz
  | some v =>
    refine ⟨v, rfl, ?_⟩
    simp only [zeroT, hq, hv, Option.bind_some, Option.map_some, Option.some.injEq] at hz
    have := congrArg List.length hz
    simpa using this
theorem rep_one {c : Cx} {p : PV} {v : Value} (h : Rep c p v) (k : okOne p = true) : v.oneCell' = true := by
  cases h <;> first | rfl | (simp [okOne] at k; done) | skip
  all_goals (exact (okOne_ok k).2.2.2.2 _ rfl)
theorem repL_one {c : Cx} : ∀ {l : List PV} {us : List Value}, RepL c l us → l.all okOne = true → ∀ u ∈ us, u.oneCell' = true
  | _, _, .nil, _, u, h => by simp at h
  | _, _, .cons hr ht, k, u, h => by
    simp only [List.all_cons, Bool.and_eq_true] at k
    rcases List.mem_cons.1 h with rfl | h
    · exact rep_one hr k.1
    · exact repL_one ht k.2 u h
/-- append of structs to nil: a row of one's own begins. -/
theorem Does.appN {ty e : TypeId} {x y : Operand} {z m nb : Nat} {l zs : List PV} (ho : o.op = .call { callee := .builtin .append, args := #[x, y], argTypes := #[ty, ty] }) (hx : pev ⟨N, t, bx, ob⟩ x = .nil) (hy : pev ⟨N, t, bx, ob⟩ y = .sl z l)
    (ht : elT P ty = some (e, z)) (hz : zeroT P e = some zs) (hzl : zs.length = z) (hb : byT P e = some nb) (hm : m * z = l.length) (h0 : 0 < m) (hfit : m * nb ≤ 140737488355328 ∧ m ≤ 9223372036854775807)
    (hd : o.dst = some d) (hdn : Nat.blt d N = true) (h : K ⟨N, upd t d (.arr ob.length 0 m), bx, ob ++ [some ⟨z, e, .g l⟩]⟩) : Does P F o false ⟨N, t, bx, ob⟩ K := by
  intro R c A w hi
  obtain ⟨hu, hs⟩ := elT_ok ht
  cases hq : P.info? e with
  | none => simp [szT, hq] at hs
  | some i =>
  have hs1 : i.size = z := by simpa [szT, hq] using hs
  have hb1 : i.bytes = nb := by simpa [byT, hq] using hb
  obtain ⟨v, hv, hvc⟩ := zero_cells hq hz
  have hrx := pev_rep hi x
  rw [hx] at hrx
  have hry := pev_rep hi y
  rw [hy] at hry
  generalize hX : A.eval x = vx at hrx
  generalize hY : A.eval y = vy at hry
  cases hrx
  cases hry with
  | @sl _ _ m2 c2 B _ us j0 j1 j2 j3 j4 =>
  have hlen := j3.len
  have hm2 : m2 = m := Nat.eq_of_mul_eq_mul_right j0 (j1.trans hm.symm)
  subst hm2
  have hpos : 0 < us.length := by rw [← hlen, ← hm]; exact Nat.mul_pos h0 j0
  obtain ⟨a2, rfl, _⟩ := j4 0 _ (List.getElem?_eq_getElem hpos)
  obtain ⟨cap', us', hrun, htk, hcap, hfl⟩ := run_appendN (P := P) (ty := o.type) (w := w) (c2 := c2) (a2 := a2) (m := m2) (news := us) hu hq hv hs1 (by omega) (by omega) h0 (fun j u hj => by
    obtain ⟨ad3, e3, hρ⟩ := j4 j u hj
    cases e3
    exact hi.W.mem _ _ hρ) (by omega) (by rw [hb1]; exact hfit.1)
  have hcz : m2 * z ≤ cap' * z := Nat.mul_le_mul_right _ hcap
  have hn' := hi.drew.newrow (r := ⟨z, e, .g l⟩) (us := us') (by show l.length ≤ _; omega) (by
    show RepL c.strip l (us'.take l.length)
    rw [← hm, htk]; exact j3)
  unfold Oper.wp
  have hrun' : (execOp A.eval o).run P w = .ok (.value (.slice (some ⟨w.heap.size, 0, none⟩) m2 cap')) (w.drew.alloc (.cells us'.toArray e)) := by
    simp [execOp, ho, resolve, invoke, builtin, hX, hY, hrun]
  rw [hrun']
  refine ⟨_, _, hn'.put (d := o.dst) (p := .arr ob.length 0 m2) (by simpa [St.fits, hd] using hdn) ?_, by simpa [St.put, hd] using h, fun h => by cases h⟩
  have hol : c.ob.length = ob.length := hi.W.ol
  exact .arr (x := ⟨w.heap.size, us'.length, z, e⟩) (by have := idx_new c.ob (⟨w.heap.size, us'.length, z, e⟩ : Ob); rw [hol] at this; simpa using this) j0 hcap (fun _ => by simp) (fun _ => by simpa using hfl)
/-- append of structs to a row of one's own. -/
theorem Does.appG {ty e : TypeId} {x y : Operand} {q n z m nb : Nat} {C l zs : List PV} (ho : o.op = .call { callee := .builtin .append, args := #[x, y], argTypes := #[ty, ty] }) (hx : pev ⟨N, t, bx, ob⟩ x = .arr q 0 n) (hr : ob[q]? = some (some ⟨z, e, .g C⟩)) (hy : pev ⟨N, t, bx, ob⟩ y = .sl z l)
    (ht : elT P ty = some (e, z)) (hz : zeroT P e = some zs) (hzl : zs.length = z) (hb : byT P e = some nb) (hn : n * z = C.length) (hm : m * z = l.length) (h0 : 0 < m) (hone : l.all okOne = true) (hfit : (n + m) * nb ≤ 140737488355328 ∧ n + m ≤ 9223372036854775807) (hown : F.c0.ob.length ≤ q)
    (hd : o.dst = some d) (hdn : Nat.blt d N = true) (h : K ⟨N, upd (fun x => forg q (t x)) d (.arr q 0 (n + m)), bx.map (forgL q), ob.set q (some ⟨z, e, .g (C ++ l)⟩)⟩) : Does P F o false ⟨N, t, bx, ob⟩ K := by
  intro R c A w hi
  obtain ⟨hu, hs⟩ := elT_ok ht
  cases hq : P.info? e with
  | none => simp [szT, hq] at hs
  | some i =>
  have hs1 : i.size = z := by simpa [szT, hq] using hs
  have hb1 : i.bytes = nb := by simpa [byT, hq] using hb
  obtain ⟨v, hv, hvc⟩ := zero_cells hq hz
  have hrx := pev_rep hi x
  rw [hx] at hrx
  have hry := pev_rep hi y
  rw [hy] at hry
  generalize hX : A.eval x = vx at hrx
  generalize hY : A.eval y = vy at hry
  cases hrx with
  | @arr _ _ _ _ cap X ad k1 k2 k3 k4 k5 =>
  obtain ⟨X', us, b1, b2, b3, b4, b5, b6, b7⟩ := hi.W.obj q _ hr
  rw [k1] at b1; cases b1
  have hXs : X.sz = z := b2
  have hXT : X.T = e := b3
  have b7' : RepL c.strip C (us.take C.length) := b7
  have b6' : C.length ≤ X.size := b6
  cases hry with
  | @sl _ _ m2 c2 B _ vs j0 j1 j2 j3 j4 =>
  have hlen := j3.len
  have hm2 : m2 = m := Nat.eq_of_mul_eq_mul_right j0 (j1.trans hm.symm)
  subst hm2
  have hpos : 0 < vs.length := by rw [← hlen, ← hm]; exact Nat.mul_pos h0 j0
  obtain ⟨a2, rfl, _⟩ := j4 0 _ (List.getElem?_eq_getElem hpos)
  rw [hXs, Nat.zero_mul] at k4
  rw [hXs, Nat.zero_add] at k5
  obtain ⟨w', g', cap', us', ad', hrun, hg', hw', htk, hcap, had', hl2, hgb⟩ := run_appendZ (P := P) (ty := o.type) (w := w) (c2 := c2) (a2 := a2) (ad := ad) (n := n) (cap := cap) (m := m2) (news := vs) (us := us) (olds := us.take (n * z)) hu hq hv hs1 (by omega) hXT b5 rfl (by simp; omega) k3
    (fun hc => ⟨k4 hc, by have := k5 hc; omega⟩) (by omega) h0 (fun j u hj => by
    obtain ⟨ad3, e3, hρ⟩ := j4 j u hj
    cases e3
    exact hi.W.mem _ _ hρ) (repL_one j3 hone) (by omega) (by rw [hb1]; exact hfit.1)
  have e1 : (C ++ l).length = (n + m2) * z := by rw [List.length_append, ← hn, ← hm, Nat.add_mul]
  have hI := hi.regrow (r' := ⟨z, e, .g (C ++ l)⟩) (us' := us') (g' := g') hr k1 hown hgb hg' hXs.symm hXT.symm hw' (by show (C ++ l).length ≤ _; rw [e1]; exact hl2) (by
    show RepL c.strip (C ++ l) (us'.take (C ++ l).length)
    rw [e1, htk, hn]
    exact b7'.append j3)
  unfold Oper.wp
  have hrun' : (execOp A.eval o).run P w = .ok (.value (.slice (some ad') (n + m2) cap')) w' := by
    simp [execOp, ho, resolve, invoke, builtin, hX, hY, hrun]
  rw [hrun']
  refine ⟨_, _, hI.put (d := o.dst) (p := .arr q 0 (n + m2)) (by simpa [St.fits, hd, reob] using hdn) ?_, by simpa [St.put, hd, reob] using h, fun h => by cases h⟩
  have hqc : q < c.ob.length := (List.getElem?_eq_some_iff.1 k1).1
  exact .arr (x := ⟨g', us'.length, X.sz, X.T⟩) (by simp [hqc]) (by rw [hXs]; exact j0) hcap (fun hc => by simpa using (had' hc).1) (fun hc => by simpa [hXs] using (had' hc).2)
end
theorem ilg {i : Int} {n : Nat} {K : Nat → Prop} (h : IdxL i n K) : IdxL i n K := h
/-! ### a row that nobody writes any more -/
mutual
def frz (q z : Nat) (C : List PV) : PV → PV
  | .arr o b n => match Nat.beq o q with
    | true => match Nat.ble ((b + n) * z) C.length with
      | true => .sl z ((C.drop (b * z)).take (n * z))
      | false => .any
    | false => .arr o b n
  | .ead o i => match Nat.beq o q with
    | true => .any
    | false => .ead o i
  | .agg l => .agg (frzL q z C l)
  | .tup l => .tup (frzL q z C l)
  | .val v => .val v
  | .nil => .nil
  | .ws k a => .ws k a
  | .sl y l => .sl y l
  | .fs y n f => .fs y n f
  | .cw k a i => .cw k a i
  | .cf f i m => .cf f i m
  | .emp => .emp
  | .ptr b o => .ptr b o
  | .cel l => .cel l
  | .any => .any
def frzL (q z : Nat) (C : List PV) : List PV → List PV
  | [] => []
  | p :: l => frz q z C p :: frzL q z C l
end
section
variable {P : Program} {F : Fr}
mutual
theorem Rep.frz {c c' : Cx} {q z : Nat} {C : List PV} (hk : c.le c') (hq : ∀ b n v, Rep c (.arr q b n) v → (b + n) * z ≤ C.length → Rep c' (.sl z ((C.drop (b * z)).take (n * z))) v) : ∀ {p : PV} {v : Value}, Rep c p v → Rep c' (frz q z C p) v
  | .arr o b n, v, h => by
    simp only [Sim.frz]
    split
    · rename_i ho
      obtain rfl := Nat.eq_of_beq_eq_true ho
      split
      · rename_i hb; exact hq b n v h (Nat.le_of_ble_eq_true hb)
      · exact .any _
    · exact h.up hk
  | .ead o i, v, h => by
    simp only [Sim.frz]
    split
    · exact .any _
    · exact h.up hk
  | .agg l, v, h => by cases h with | agg h => exact .agg (RepL.frz hk hq h)
  | .tup l, v, h => by cases h with | tup h => exact .tup (RepL.frz hk hq h)
  | .val _, v, h => h.up hk
  | .nil, v, h => h.up hk
  | .ws _ _, v, h => h.up hk
  | .sl _ _, v, h => h.up hk
  | .fs _ _ _, v, h => h.up hk
  | .cw _ _ _, v, h => h.up hk
  | .cf _ _ _, v, h => h.up hk
  | .emp, v, h => h.up hk
  | .ptr _ _, v, h => h.up hk
  | .cel _, v, h => h.up hk
  | .any, v, h => h.up hk
theorem RepL.frz {c c' : Cx} {q z : Nat} {C : List PV} (hk : c.le c') (hq : ∀ b n v, Rep c (.arr q b n) v → (b + n) * z ≤ C.length → Rep c' (.sl z ((C.drop (b * z)).take (n * z))) v) : ∀ {l : List PV} {us : List Value}, RepL c l us → RepL c' (frzL q z C l) us
  | [], _, h => by cases h; exact .nil
  | p :: l, _, h => by cases h with | cons h t => exact .cons (Rep.frz hk hq h) (RepL.frz hk hq t)
end
theorem Inv.frz {N : Nat} {t : Nat → PV} {bx : List (List PV)} {ob : List (Option Row)} {c : Cx} {a : Act} {w : World} (hi : Inv F c ⟨N, t, bx, ob⟩ a w) {q z : Nat} {T : TypeId} {C : List PV} (hr : ob[q]? = some (some ⟨z, T, .g C⟩)) (h0 : 0 < z) (hown : F.c0.ob.length ≤ q) :
    ∃ c' : Cx, c.le c' ∧ Inv F c' ⟨N, fun x => frz q z C (t x), bx.map (frzL q z C), ob.set q none⟩ a w ∧ ∀ p v, Rep c p v → Rep c' (Sim.frz q z C p) v := by
  obtain ⟨x, us, a1, a2, a3, a4, a5, a6, a7⟩ := hi.W.obj q _ hr
  have a7' : RepL c.strip C (us.take C.length) := a7
  have a6' : C.length ≤ x.size := a6
  obtain ⟨ρ', hρ⟩ : ∃ ρ' : Addr → Option Value, ∀ ad, ρ' ad = if ad.block = x.g ∧ ad.spot = none ∧ ad.off < (Row.cs ⟨z, T, .g C⟩).length then us[ad.off]? else c.ρ ad := ⟨_, fun _ => rfl⟩
  obtain ⟨kle, hW⟩ := hi.W.freeze hr a1 a5 a7 ρ' hρ
  have hsz : x.sz = z := a2
  have hq : ∀ b n v, Rep c (.arr q b n) v → (b + n) * z ≤ C.length → Rep { c with ρ := ρ' } (.sl z ((C.drop (b * z)).take (n * z))) v := by
    intro b n v hv hle
    have e0 : (b + n) * z = b * z + n * z := Nat.add_mul _ _ _
    cases hv with
    | @arr _ _ _ _ cap X ad k1 k2 k3 k4 k5 =>
      rw [a1] at k1; cases k1
      refine .sl (us := ((us.take C.length).drop (b * z)).take (n * z)) h0 (by simp; omega) k3 ?_ fun j u hu => ?_
      · exact ((a7'.up kle.strip).drop (b * z)).take (n * z)
      · rw [List.getElem?_take] at hu
        split at hu
        · rename_i hj
          rw [List.getElem?_drop, List.getElem?_take] at hu
          split at hu
          · rename_i hj2
            have hn0 : 0 < n := by
              rcases Nat.eq_zero_or_pos n with h | h
              · rw [h, Nat.zero_mul] at hj; omega
              · exact h
            refine ⟨ad, rfl, ?_⟩
            have had : ad.add j = ⟨x.g, b * z + j, none⟩ := by rw [k4 (by omega), hsz, addr_add]
            show ρ' (ad.add j) = some u
            rw [had, hρ, if_pos ⟨rfl, rfl, hj2⟩]
            exact hu
          · cases hu
        · cases hu
  refine ⟨{ c with ρ := ρ' }, kle, ⟨⟨hW.mem, by simp [hW.bl], hW.ol, fun i l hl => ?_, hW.obj, hW.nb, hW.no, hW.nbo, hW.sb, hW.so⟩, hi.nd, hi.sz, fun y => Rep.frz kle hq (hi.tm y), hi.kp, fun ad u hu => kle.ρ _ _ (hi.rho ad u hu), fun ad u hu => ?_, hi.obp, hi.obB, hi.bbB⟩, fun p v h => Rep.frz kle hq h⟩
  · simp only [List.getElem?_map, Option.map_eq_some_iff] at hl
    obtain ⟨l0, hl0, rfl⟩ := hl
    obtain ⟨g, us', T', h1, h2, h3⟩ := hi.W.box i l0 hl0
    exact ⟨g, us', T', h1, h2, RepL.frz kle hq h3⟩
  · have hu' : ρ' ad = some u := hu
    rw [hρ] at hu'
    split at hu'
    · rename_i hh
      exact .inr (by rw [hh.1]; exact hi.obB q x hown a1)
    · exact hi.new ad u hu'
theorem RepL.frzAll {c c' : Cx} {q z : Nat} {C : List PV} (h : ∀ p v, Rep c p v → Rep c' (Sim.frz q z C p) v) : ∀ {l : List PV} {us : List Value}, RepL c l us → RepL c' (frzL q z C l) us
  | _, _, .nil => .nil
  | _, _, .cons hr ht => .cons (h _ _ hr) (RepL.frzAll h ht)
/-- A call ahead of which a row of structs is frozen for good. -/
theorem call_frz {N : Nat} {t : Nat → PV} {bx : List (List PV)} {ob : List (Option Row)} {f : FuncId} {e : Bool} {args : List PV} {K : St → PV → Prop} (q : Nat) {z : Nat} {T : TypeId} {C : List PV} (hr : ob[q]? = some (some ⟨z, T, .g C⟩)) (h0 : 0 < z) (hown : F.c0.ob.length ≤ q)
    (h : CallF P F e f (frzL q z C args) ⟨N, fun x => frz q z C (t x), bx.map (frzL q z C), ob.set q none⟩ K) : CallF P F e f args ⟨N, t, bx, ob⟩ K := by
  refine ⟨h.c, fun c a w vs hi hv => ?_⟩
  obtain ⟨c', kle, hi', hrep⟩ := hi.frz hr h0 hown
  refine h.h c' a w vs hi' ?_
  exact RepL.frzAll hrep hv
end
end Go.Proofs.YtpjbgmafnheomaaGreatDoor.Sim
